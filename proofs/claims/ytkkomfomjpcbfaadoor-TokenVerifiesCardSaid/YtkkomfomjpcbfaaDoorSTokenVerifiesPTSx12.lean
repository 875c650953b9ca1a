import Derived.Test.YtkkomfomjpcbfaaDoorSTokenVerifiesH14
import Derived.Test.YtkkomfomjpcbfaaDoorSTokenVerifiesPTSx9
import Derived.Laws.RangeAny
import Derived.Lib.OthersKept
import Derived.Test.YtkkomfomjpcbfaaDoorSTokenVerifiesE1
import Derived.Test.YtkkomfomjpcbfaaDoorSTokenVerifiesWGuard
import Derived.Test.YtkkomfomjpcbfaaDoorSTokenVerifiesTM
import Derived.Test.YtkkomfomjpcbfaaDoorSTokenVerifiesTT
import Derived.Test.YtkkomfomjpcbfaaDoorSTokenVerifiesY
set_option linter.unusedVariables false
set_option linter.unusedSimpArgs false
namespace Go.Proofs.YtkkomfomjpcbfaaDoor.PTS
open Go.RowKit Go.Proofs.YtkkomfomjpcbfaaDoorW.PrintWords Go.Proofs.YtkkomfomjpcbfaaDoorW.PrintLast Go.Proofs.YtkkomfomjpcbfaaDoorW.PrintMore
attribute [local go_sem] kQ kO kW kV kG kF kP kN
def mr17_cut.l0 : Nat → ByteArray → Int → Int → Option (ByteArray × ByteArray × Bool)
 | 0, _, _, _ => none
 | k + 1, x0, x7, x8 => if x8 < x7 then (if 0 ≤ x8 then (if x8 < (x0.size : Int) then (if (bt x0 x8) = 46 then (if x8 ≤ (x0.size : Int) then (if 0 ≤ (wrap64 (x8 + 1)) then (if (wrap64 (x8 + 1)) ≤ (x0.size : Int) then (some (x0.extract 0 (x8 : Int).toNat, x0.extract ((wrap64 (x8 + 1)) : Int).toNat x0.size, true)) else (none)) else (none)) else (none)) else (mr17_cut.l0 k x0 x7 (wrap64 (x8 + 1)))) else (none)) else (none)) else (some ((⟨#[]⟩ : ByteArray), (⟨#[]⟩ : ByteArray), false))
def mr17_cut.f (k : Nat) (a0 : ByteArray) : Option (ByteArray × ByteArray × Bool) := mr17_cut.l0 k a0 (a0.size : Int) 0
set_option maxHeartbeats 8000000 in
set_option maxRecDepth 100000 in
theorem mr17_cut.calls (k : Nat) (a0 : ByteArray) (r1 : ByteArray) (r2 : ByteArray) (r3 : Bool) (w : World) (h : mr17_cut.f k a0 = some (r1, r2, r3)) :
  Calls Tryd.prog 35 #[.string a0] w fun e w' => e = .returned (.tuple #[.string r1, .string r2, .bool r3]) ∧ Drawn0 w w' := by
 have H : (mr17_cut.l0 k a0 (a0.size : Int) 0) = some (r1, r2, r3) := h; clear h; have H' := Aside0.mk H; clear H; go_enter Tryd.func35, Tryd.ntmps35
 go_wp2
 repeat (go_quiet (fail); try go_wp2)
 go_loopg [8] k (fun kq v8 w' => ∃ (x8_1 : Int), v8 = .int .i64 x8_1 ∧ Aside0 (mr17_cut.l0 kq a0 (a0.size : Int) x8_1 = some (r1, r2, r3)) ∧ Aside0 (kq ≤ k) ∧ Drawn0 w w')
 case atStart => exact ⟨(0), y3_, H', ⟨Nat.le_refl _⟩, y6_⟩
 case round =>
  clear H'; obtain ⟨x8_1, rfl, HA, HK1, ⟨m1, rfl⟩⟩ := hrel
  cases gk with
  | zero => exact absurd HA.out (by simp [mr17_cut.l0])
  | succ k1 =>
   have H := HA.out; clear HA; simp only [mr17_cut.l0] at H
   by_cases c2 : x8_1 < (a0.size : Int)
   ·rw [if_pos c2] at H; have c2b0 : decide (x8_1 < (a0.size : Int)) = true := decide_eq_true c2; clear c2
    by_cases c3 : 0 ≤ x8_1
    ·rw [if_pos c3] at H; have c3b0 : decide (0 ≤ x8_1) = true := decide_eq_true c3; clear c3
     by_cases c4 : x8_1 < (a0.size : Int)
     ·rw [if_pos c4] at H; have c4b0 : decide (x8_1 < (a0.size : Int)) = true := decide_eq_true c4; clear c4
      by_cases c6 : (bt a0 x8_1) = 46
      ·rw [if_pos c6] at H; have c6b0 : ((bt a0 x8_1) == 46) = true := beq_iff_eq.mpr c6; have c6b1 : ((bt a0 x8_1) != 46) = false := bne_eq_false_iff_eq.mpr c6; clear c6; have c7b0 := eq_true (of_decide_eq_true y4_ : 0 ≤ x8_1)
       by_cases c8 : x8_1 ≤ (a0.size : Int)
       ·rw [if_pos c8] at H; have c8b0 := eq_true c8; have c8b1 : decide (x8_1 ≤ (a0.size : Int)) = true := decide_eq_true c8; clear c8; obtain ⟨ji9, hji9⟩ : ∃ j_ : Int, (wrap64 (x8_1 + 1)) = j_ := ⟨_, rfl⟩
        replace H : (if 0 ≤ (ji9) then (if (ji9) ≤ (a0.size : Int) then (some (a0.extract 0 (x8_1 : Int).toNat, a0.extract ((ji9) : Int).toNat a0.size, true)) else (none)) else (none)) = some (r1, r2, r3) := by first | (rw [hji9] at H; exact H) | (simp only [hji9] at H ⊢; exact H)
        have hji9w : (IntKind.i64.wrap (x8_1 + 1)) = ji9 := (kT _).trans hji9
        by_cases c10 : 0 ≤ (ji9)
        ·rw [if_pos c10] at H; have c10b0 := eq_true c10; have c10b1 : decide (0 ≤ (ji9)) = true := decide_eq_true c10; clear c10
         by_cases c11 : (ji9) ≤ (a0.size : Int)
         ·rw [if_pos c11] at H; have c11b0 := eq_true c11; have c11b1 : decide ((ji9) ≤ (a0.size : Int)) = true := decide_eq_true c11; clear c11; simp only [Option.some.injEq, Prod.mk.injEq] at H; obtain ⟨rfl, rfl, rfl⟩ := H; have p5 : 0 ≤ (x8_1 : Int) := of_decide_eq_true y4_; have q5 : x8_1 < (a0.size : Int) := of_decide_eq_true y4_; have hx5 := bt_at a0 x8_1; replace p5 := eq_true p5; replace q5 := eq_true q5
          go_wp2
          repeat (go_quiet (fail); try go_wp2)
          go_ret3
          exact ⟨by first | rfl | (simp; done) | ((simp only [← hji9] <;> (first | rfl | simp)); done) | (congr 1; first | assumption | (symm; assumption)) | (simp [*]; done), y6_⟩
         ·rw [if_neg c11] at H
          exact absurd H (by simp)
        ·rw [if_neg c10] at H
         exact absurd H (by simp)
       ·rw [if_neg c8] at H
        exact absurd H (by simp)
      ·rw [if_neg c6] at H; have c6b0 : ((bt a0 x8_1) == 46) = false := beq_eq_false_iff_ne.mpr c6; have c6b1 : ((bt a0 x8_1) != 46) = true := bne_iff_ne.mpr c6; have H' := Aside0.mk H; clear H; have p5 : 0 ≤ (x8_1 : Int) := of_decide_eq_true y4_; have q5 : x8_1 < (a0.size : Int) := of_decide_eq_true y4_; have hx5 := bt_at a0 x8_1; replace p5 := eq_true p5; replace q5 := eq_true q5
       go_wp2
       repeat (go_quiet (fail); try go_wp2)
       go_roundg k1
       case measure => have := HK1.out; omega
       case rel => exact ⟨(wrap64 (x8_1 + 1)), y3_, H', ⟨y124_⟩, y6_⟩
     ·rw [if_neg c4] at H
      exact absurd H (by simp)
    ·rw [if_neg c3] at H
     exact absurd H (by simp)
   ·rw [if_neg c2] at H; have c2b0 : decide (x8_1 < (a0.size : Int)) = false := decide_eq_false c2; clear c2; simp only [Option.some.injEq, Prod.mk.injEq] at H; obtain ⟨rfl, rfl, rfl⟩ := H
    go_wp2
    repeat (go_quiet (fail); try go_wp2)
    go_ret3
    exact ⟨y24_, y6_⟩
def mr03_value.l0 : Nat → Int → Int → Option (Int)
 | 0, _, _ => none
 | k + 1, x0, x4 => if x4 < 64 then (if 0 ≤ x4 then (if (bt (⟨#[65, 66, 67, 68, 69, 70, 71, 72, 73, 74, 75, 76, 77, 78, 79, 80, 81, 82, 83, 84, 85, 86, 87, 88, 89, 90, 97, 98, 99, 100, 101, 102, 103, 104, 105, 106, 107, 108, 109, 110, 111, 112, 113, 114, 115, 116, 117, 118, 119, 120, 121, 122, 48, 49, 50, 51, 52, 53, 54, 55, 56, 57, 45, 95]⟩ : ByteArray) x4) = x0 then (some (IntKind.u64.wrap (x4))) else (mr03_value.l0 k x0 (wrap64 (x4 + 1)))) else (none)) else (some 64)
def mr03_value.f (k : Nat) (a0 : Int) : Option (Int) := mr03_value.l0 k a0 0
set_option maxHeartbeats 8000000 in
set_option maxRecDepth 100000 in
theorem mr03_value.calls (k : Nat) (a0 : Int) (r : Int) (w : World) (h : mr03_value.f k a0 = some r) :
  Calls Tryd.prog 59 #[.int .u8 a0] w fun e w' => e = .returned (.int .u64 r) ∧ Drawn0 w w' := by
 have H : (mr03_value.l0 k a0 0) = some r := h; clear h; have H' := Aside0.mk H; clear H; go_enter Tryd.func59, Tryd.ntmps59
 go_wp2
 go_loopg [4] k (fun kq v4 w' => ∃ (x4_1 : Int), v4 = .int .i64 x4_1 ∧ Aside0 (mr03_value.l0 kq a0 x4_1 = some r) ∧ Aside0 (kq ≤ k) ∧ Drawn0 w w')
 case atStart => exact ⟨(0), y3_, H', ⟨Nat.le_refl _⟩, y6_⟩
 case round =>
  clear H'; obtain ⟨x4_1, rfl, HA, HK1, ⟨m1, rfl⟩⟩ := hrel
  cases gk with
  | zero => exact absurd HA.out (by simp [mr03_value.l0])
  | succ k1 =>
   have H := HA.out; clear HA; simp only [mr03_value.l0] at H
   by_cases c2 : x4_1 < 64
   ·rw [if_pos c2] at H; have c2b0 : decide (x4_1 < 64) = true := decide_eq_true c2; clear c2
    by_cases c3 : 0 ≤ x4_1
    ·rw [if_pos c3] at H; have c3b0 : decide (0 ≤ x4_1) = true := decide_eq_true c3; clear c3
     by_cases c5 : (bt (⟨#[65, 66, 67, 68, 69, 70, 71, 72, 73, 74, 75, 76, 77, 78, 79, 80, 81, 82, 83, 84, 85, 86, 87, 88, 89, 90, 97, 98, 99, 100, 101, 102, 103, 104, 105, 106, 107, 108, 109, 110, 111, 112, 113, 114, 115, 116, 117, 118, 119, 120, 121, 122, 48, 49, 50, 51, 52, 53, 54, 55, 56, 57, 45, 95]⟩ : ByteArray) x4_1) = a0
     ·rw [if_pos c5] at H; have c5b0 : ((bt (⟨#[65, 66, 67, 68, 69, 70, 71, 72, 73, 74, 75, 76, 77, 78, 79, 80, 81, 82, 83, 84, 85, 86, 87, 88, 89, 90, 97, 98, 99, 100, 101, 102, 103, 104, 105, 106, 107, 108, 109, 110, 111, 112, 113, 114, 115, 116, 117, 118, 119, 120, 121, 122, 48, 49, 50, 51, 52, 53, 54, 55, 56, 57, 45, 95]⟩ : ByteArray) x4_1) == a0) = true := beq_iff_eq.mpr c5; have c5b1 : ((bt (⟨#[65, 66, 67, 68, 69, 70, 71, 72, 73, 74, 75, 76, 77, 78, 79, 80, 81, 82, 83, 84, 85, 86, 87, 88, 89, 90, 97, 98, 99, 100, 101, 102, 103, 104, 105, 106, 107, 108, 109, 110, 111, 112, 113, 114, 115, 116, 117, 118, 119, 120, 121, 122, 48, 49, 50, 51, 52, 53, 54, 55, 56, 57, 45, 95]⟩ : ByteArray) x4_1) != a0) = false := bne_eq_false_iff_eq.mpr c5; clear c5; obtain rfl := Option.some.inj H; have p4 : 0 ≤ (x4_1 : Int) := of_decide_eq_true y4_; have q4 : x4_1 < (64 : Int) := of_decide_eq_true y4_; have hx4 := bt_at (⟨#[65, 66, 67, 68, 69, 70, 71, 72, 73, 74, 75, 76, 77, 78, 79, 80, 81, 82, 83, 84, 85, 86, 87, 88, 89, 90, 97, 98, 99, 100, 101, 102, 103, 104, 105, 106, 107, 108, 109, 110, 111, 112, 113, 114, 115, 116, 117, 118, 119, 120, 121, 122, 48, 49, 50, 51, 52, 53, 54, 55, 56, 57, 45, 95]⟩ : ByteArray) x4_1; replace p4 := eq_true p4; replace q4 := eq_true q4
      go_wp2
      go_ret
      exact ⟨y24_, y6_⟩
     ·rw [if_neg c5] at H; have c5b0 : ((bt (⟨#[65, 66, 67, 68, 69, 70, 71, 72, 73, 74, 75, 76, 77, 78, 79, 80, 81, 82, 83, 84, 85, 86, 87, 88, 89, 90, 97, 98, 99, 100, 101, 102, 103, 104, 105, 106, 107, 108, 109, 110, 111, 112, 113, 114, 115, 116, 117, 118, 119, 120, 121, 122, 48, 49, 50, 51, 52, 53, 54, 55, 56, 57, 45, 95]⟩ : ByteArray) x4_1) == a0) = false := beq_eq_false_iff_ne.mpr c5; have c5b1 : ((bt (⟨#[65, 66, 67, 68, 69, 70, 71, 72, 73, 74, 75, 76, 77, 78, 79, 80, 81, 82, 83, 84, 85, 86, 87, 88, 89, 90, 97, 98, 99, 100, 101, 102, 103, 104, 105, 106, 107, 108, 109, 110, 111, 112, 113, 114, 115, 116, 117, 118, 119, 120, 121, 122, 48, 49, 50, 51, 52, 53, 54, 55, 56, 57, 45, 95]⟩ : ByteArray) x4_1) != a0) = true := bne_iff_ne.mpr c5; have H' := Aside0.mk H; clear H; have p4 : 0 ≤ (x4_1 : Int) := of_decide_eq_true y4_; have q4 : x4_1 < (64 : Int) := of_decide_eq_true y4_; have hx4 := bt_at (⟨#[65, 66, 67, 68, 69, 70, 71, 72, 73, 74, 75, 76, 77, 78, 79, 80, 81, 82, 83, 84, 85, 86, 87, 88, 89, 90, 97, 98, 99, 100, 101, 102, 103, 104, 105, 106, 107, 108, 109, 110, 111, 112, 113, 114, 115, 116, 117, 118, 119, 120, 121, 122, 48, 49, 50, 51, 52, 53, 54, 55, 56, 57, 45, 95]⟩ : ByteArray) x4_1; replace p4 := eq_true p4; replace q4 := eq_true q4
      go_wp2
      go_roundg k1
      case measure => have := HK1.out; omega
      case rel => exact ⟨(wrap64 (x4_1 + 1)), y3_, H', ⟨y124_⟩, y6_⟩
    ·rw [if_neg c3] at H
     exact absurd H (by simp)
   ·rw [if_neg c2] at H; have c2b0 : decide (x4_1 < 64) = false := decide_eq_false c2; clear c2; obtain rfl := Option.some.inj H
    go_wp2
    go_ret
    exact ⟨y24_, y6_⟩
def mr01_Put.l0 : Nat → List Bool → Int → Int → Option (List Bool)
 | 0, _, _, _ => none
 | k + 1, x0, x1, x7 => if x7 ≥ 0 then (if 0 ≤ (IntKind.u64.wrap (x7)) then (if x0.length < 140737488355328 then (mr01_Put.l0 k (x0 ++ [((Go.bits .and .u64 (shr .u64 x1 (IntKind.u64.wrap (x7))) 1) == 1)]) x1 (wrap64 (x7 - 1))) else (none)) else (none)) else (some x0)
def mr01_Put.f (k : Nat) (l0 : List Bool) (a1 : Int) (a2 : Int) : Option (List Bool) := mr01_Put.l0 k l0 a1 (wrap64 (a2 - 1))
set_option maxHeartbeats 8000000 in
set_option maxRecDepth 100000 in
theorem mr01_Put.calls (k : Nat) (P0_ : Nat → Prop) (u9000_ : Value) (l0 : List Bool) (a1 : Int) (a2 : Int) (r : List Bool) (w0 w : World) (hB : Below w0.heap.size w0 w) (ho0 : Kd.R Kd.bool 4 w w0.heap.size P0_ u9000_ l0) (h : mr01_Put.f k l0 a1 a2 = some r) :
  Calls Tryd.prog 60 #[u9000_, .int .u64 a1, .int .i64 a2] w fun e w' => ∃ v0_ : Value, e = .returned (v0_) ∧ Kd.R Kd.bool 4 w' w0.heap.size (fun k_ => (P0_ k_ ∨ w.heap.size ≤ k_)) v0_ r ∧ Below w0.heap.size w0 w' ∧ Kept w w' (fun k_ => P0_ k_) := by
 have HO0 := am_ (show Kd.R Kd.bool 4 w w0.heap.size (fun k_ => (P0_ k_ ∨ w.heap.size ≤ k_)) u9000_ l0 from Kd.R_mono ho0 (fun k_ hk => (.inl hk))); have HK := am_ (Kept.refl w (fun k_ => P0_ k_)); have HW0 := Aside0.mk hB.size; have HB := Aside0.mk hB; clear hB; have H : (mr01_Put.l0 k l0 a1 (wrap64 (a2 - 1))) = some r := h; clear h; have H' := Aside0.mk H; clear H; go_enter Tryd.func60, Tryd.ntmps60
 go_wp2
 go_loopg [0, 7] k (fun kq v0 v7 w' => ∃ (x0_1 : List Bool) (x7_1 : Int), v7 = .int .i64 x7_1 ∧ Aside0 (mr01_Put.l0 kq x0_1 a1 x7_1 = some r) ∧ Aside0 (kq ≤ k) ∧ Aside0 (Kd.R Kd.bool 4 w' w0.heap.size (fun k_ => (P0_ k_ ∨ w.heap.size ≤ k_)) v0 x0_1) ∧ Aside0 (Kept w w' (fun k_ => P0_ k_)) ∧ Aside0 (Below w0.heap.size w0 w'))
 case atStart => exact ⟨(l0), (wrap64 (a2 - 1)), y3_, H', ⟨Nat.le_refl _⟩, ⟨by (with_reducible repeat (first | apply Kd.R_alloc | apply Kd.R_drewN | apply Kd.R_drew)); exact HO0.out⟩, ⟨y94_⟩, ⟨y1_⟩⟩
 case round =>
  clear H'
  try clear p2
  obtain ⟨x0_1, x7_1, rfl, HA, HK1, HO_0, HK, HB⟩ := hrel
  cases gk with
  | zero => exact absurd HA.out (by simp [mr01_Put.l0])
  | succ k1 =>
   have H := HA.out; clear HA; simp only [mr01_Put.l0] at H
   by_cases c4 : x7_1 ≥ 0
   ·rw [if_pos c4] at H; have c4b0 : decide (0 ≤ x7_1) = true := decide_eq_true c4; clear c4; obtain ⟨ji5, hji5⟩ : ∃ j_ : Int, (IntKind.u64.wrap (x7_1)) = j_ := ⟨_, rfl⟩
    replace H : (if 0 ≤ (ji5) then (if x0_1.length < 140737488355328 then (mr01_Put.l0 k1 (x0_1 ++ [((Go.bits .and .u64 (shr .u64 a1 (ji5)) 1) == 1)]) a1 (wrap64 (x7_1 - 1))) else (none)) else (none)) = some r := by first | (rw [hji5] at H; exact H) | (simp only [hji5] at H ⊢; exact H)
    by_cases c6 : 0 ≤ (ji5)
    ·rw [if_pos c6] at H; have c6b0 := eq_true c6; have c6b1 : decide (0 ≤ (ji5)) = true := decide_eq_true c6; clear c6; obtain ⟨ji7, hji7⟩ : ∃ j_ : Int, (shr .u64 a1 (ji5)) = j_ := ⟨_, rfl⟩
     replace H : (if x0_1.length < 140737488355328 then (mr01_Put.l0 k1 (x0_1 ++ [((Go.bits .and .u64 (ji7) 1) == 1)]) a1 (wrap64 (x7_1 - 1))) else (none)) = some r := by first | (rw [hji7] at H; exact H) | (simp only [hji7] at H ⊢; exact H)
     have hji7_ : (a1 / 2 ^ min (ji5).toNat 64) = ji7 := hji7; have hji7z : (ji5) ≤ 64 → (a1 / 2 ^ (ji5).toNat) = ji7 := shr_small hji7
     by_cases c8 : x0_1.length < 140737488355328
     ·rw [if_pos c8] at H; have LMc8 := Aside0.mk c8; clear c8; obtain ⟨y306, hy306⟩ : ∃ y_ : List Bool, y_ = (x0_1 ++ [((Go.bits .and .u64 (ji7) 1) == 1)]) := ⟨_, rfl⟩
      replace H : (mr01_Put.l0 k1 y306 a1 (wrap64 (x7_1 - 1))) = some r := by first | (rw [hy306]; with_reducible exact H) | (have H2_ := (Option.bind_some _ _).symm.trans H; rw [hy306]; with_reducible exact H2_) | (have H2_ := (Option.bind_some _ _).symm.trans H; with_reducible exact H2_) | with_reducible exact H | (rw [hy306]; exact H) | exact H
      have Ny306 := Aside0.mk hy306; clear hy306; have H' := Aside0.mk H; clear H
      go_wp2_with (first | ((with_reducible refine kS (b := .append) (xs := #[.tmp 14, .tmp 21]) rfl ?_); at_builtin; refine Kd.R_append Kd.bool (w0 := w0) w0.heap.size rfl (.tmp 14) (.tmp 21) 74 4 (.bool false) 1 rfl Tryd.underlying74 info4 rfl (by decide) (by omega) u0 x0_1 ((Go.bits .and .u64 (ji7) 1) == 1) [.bool ((Go.bits .and .u64 (ji7) 1) == 1)] (fun k_ => (P0_ k_ ∨ w.heap.size ≤ k_)) (fun _ => False) rfl rfl ?aP (fun _ hk => hk.elim) ?aF ?aO ?aB ?aS ?aL ?_; (case aP => exact rfl); (case aB => exact y1_); (case aF => exact (fun k_ hk => (.inr (Nat.le_trans (by first | exact HK.out.1 | exact (show Kept w _ (fun k_ => P0_ k_) from by repeat (first | (with_reducible first | exact HK.out | apply Kept.alloc | apply Kept.drewN | apply Kept.drew) | exact HK.out)).1) hk)))); (case aO => exact (by (with_reducible repeat (first | apply Kd.R_alloc | apply Kd.R_drewN | apply Kd.R_drew)); exact HO_0.out)); (case aS => exact (km y1_)); (case aL => have := LMc8.out; omega); intro v307 w9 ho hb hg hat; rw [← Ny306.out] at ho; have n0_ := am_ (hb); have n1_ := am_ (Kept.of_grown (S := (fun k_ => P0_ k_)) hg y94_ (fun k_ e_ => (HO_0.out.1 k_ e_))); have n2_ := am_ (ho); clear HB; clear HK; clear HO_0; have HB := n0_; have HK := n1_; have HO308 := n2_; clear n0_ n1_ n2_; clear ho hb hg hat))
      go_roundg k1
      case measure => have := HK1.out; omega
      case rel => exact ⟨(y306), (wrap64 (x7_1 - 1)), y3_, H', ⟨y124_⟩, ⟨by (with_reducible repeat (first | apply Kd.R_alloc | apply Kd.R_drewN | apply Kd.R_drew)); exact HO308.out⟩, ⟨y94_⟩, ⟨y1_⟩⟩
     ·rw [if_neg c8] at H
      exact absurd H (by simp)
    ·rw [if_neg c6] at H
     exact absurd H (by simp)
   ·rw [if_neg c4] at H; have c4b0 : decide (0 ≤ x7_1) = false := decide_eq_false c4; clear c4; obtain rfl := Option.some.inj H
    go_wp2
    go_ret
    exact ⟨_, y5_, by (with_reducible repeat (first | apply Kd.R_alloc | apply Kd.R_drewN | apply Kd.R_drew)); exact HO_0.out, y1_, y94_⟩
def mr01_Bytes.f (l0 : List Bool) : Option (List Int) := if l0.length ≤ 100000000 then some (Bq.packI l0) else none
theorem mr01_Bytes.calls (A0 : Option Addr) (c0 : Nat) (l0 : List Bool) (r : List Int) (w : World) (hr0 : Kd.C Kd.bool w A0 l0.length l0) (hc0 : l0.length ≤ c0) (h : mr01_Bytes.f l0 = some r) :
  Calls Tryd.prog 61 #[.slice A0 l0.length c0] w fun e w' => ∃ v0_ : Value, e = .returned (v0_) ∧ Kd.R (Kd.int .u8) 5 w' w.heap.size (fun _ => True) v0_ r ∧ Below w.heap.size w w' := by
 unfold mr01_Bytes.f at h
 split at h
 ·rename_i h1
  obtain rfl := Option.some.inj h; refine (rbytes_calls w A0 c0 l0 hr0 h1).mono ?_; rintro e w' ⟨v, rfl, hR, hB⟩
  exact ⟨v, rfl, Kd.R_mono hR (fun _ _ => trivial), hB⟩
 ·cases h
def mr03_Unarmor.l0 : Nat → ByteArray → List Bool → Int → Int → Option (List Int × Int)
 | 0, _, _, _, _ => none
 | k + 1, x0, x4, x10, x11 => if x11 < x10 then (if 0 ≤ x11 then (if x11 < (x0.size : Int) then ((mr03_value.f k (bt x0 x11)).bind fun t312 => (if t312 > 63 then (some (([] : List Int), 8)) else ((mr01_Put.f k x4 t312 6).bind fun t313 => (mr03_Unarmor.l0 k x0 t313 x10 (wrap64 (x11 + 1)))))) else (none)) else (none)) else (if 0 ≤ (wrap64 ((wrap64 ((x4.length : Int) / 8)) * 8)) then (if (wrap64 ((wrap64 ((x4.length : Int) / 8)) * 8)) ≤ (x4.length : Int) then ((mr01_Bytes.f (x4.take ((wrap64 ((wrap64 ((x4.length : Int) / 8)) * 8)) : Int).toNat)).bind fun t320 => ((mr03_Armor.f k t320).bind fun t323 => (if t323.toList = x0.toList then (some (t320, 0)) else (some (([] : List Int), 8))))) else (none)) else (none))
def mr03_Unarmor.f (k : Nat) (a0 : ByteArray) : Option (List Int × Int) := mr03_Unarmor.l0 k a0 (([] : List Bool)) (a0.size : Int) 0
set_option maxHeartbeats 8000000 in
set_option maxRecDepth 100000 in
theorem mr03_Unarmor.calls (k : Nat) (a0 : ByteArray) (r1 : List Int) (r2 : Int) (w : World) (h : mr03_Unarmor.f k a0 = some (r1, r2)) :
  Calls Tryd.prog 36 #[.string a0] w fun e w' => ∃ v0_ : Value, e = .returned (.tuple #[v0_, .int .i64 r2]) ∧ Kd.R (Kd.int .u8) 5 w' w.heap.size (fun _ => True) v0_ r1 ∧ Below w.heap.size w w' := by
 have HB := am_ (Below.refl w.heap.size w); have H : (mr03_Unarmor.l0 k a0 (([] : List Bool)) (a0.size : Int) 0) = some (r1, r2) := h; clear h; obtain ⟨y309, hy309⟩ : ∃ y_ : List Bool, y_ = (([] : List Bool)) := ⟨_, rfl⟩
 replace H : (mr03_Unarmor.l0 k a0 y309 (a0.size : Int) 0) = some (r1, r2) := by first | (rw [hy309]; with_reducible exact H) | (have H2_ := (Option.bind_some _ _).symm.trans H; rw [hy309]; with_reducible exact H2_) | (have H2_ := (Option.bind_some _ _).symm.trans H; with_reducible exact H2_) | with_reducible exact H | (rw [hy309]; exact H) | exact H
 have Ny309 := Aside0.mk hy309; clear hy309; have H' := Aside0.mk H; clear H; go_enter Tryd.func36, Tryd.ntmps36
 go_wp2_with (first | ((with_reducible refine ko (N := 8) rfl ?_); refine Kd.R_lit Kd.bool _ 4 ?hg (N := 8) ?hd (xs := ([] : List Bool)) (inner := []) (ok := fun _ => True) (okp := fun _ => True) ?hr ?hp (fun _ hk => hk) trivial (Below.refl _ _) (Nat.le_refl _) (by simp) ?_; (case hd => rfl); (case hg => rfl); (case hr => first | (go_simp; done) | (go_simp; rfl)); (case hp => exact (Reps.none _ _)); intro v310 w2 ho3 hb hg_ hnew_; clear hg_ hnew_; (first | rw [← Ny309.out] at ho3 | (simp only [Int.reduceToNat] at ho3; rw [← Ny309.out] at ho3)); have HO311 := am_ (Kd.R_lower ho3 (km y1_)); replace HB := am_ (ke y1_ hb); clear hb ho3))
 go_loopg [4, 11] k (fun kq v4 v11 w' => ∃ (x4_1 : List Bool) (x11_1 : Int), v11 = .int .i64 x11_1 ∧ Aside0 (mr03_Unarmor.l0 kq a0 x4_1 (a0.size : Int) x11_1 = some (r1, r2)) ∧ Aside0 (kq ≤ k) ∧ Aside0 (Kd.R Kd.bool 4 w' w.heap.size (fun _ => True) v4 x4_1) ∧ Aside0 (Below w.heap.size w w'))
 case atStart => exact ⟨(y309), (0), y3_, H', ⟨Nat.le_refl _⟩, ⟨by (with_reducible repeat (first | apply Kd.R_alloc | apply Kd.R_drewN | apply Kd.R_drew)); exact HO311.out⟩, ⟨y1_⟩⟩
 case round =>
  clear H'
  try clear p2
  try clear c3
  obtain ⟨x4_1, x11_1, rfl, HA, HK1, HO_4, HB⟩ := hrel
  cases gk with
  | zero => exact absurd HA.out (by simp [mr03_Unarmor.l0])
  | succ k1 =>
   have H := HA.out; clear HA; simp only [mr03_Unarmor.l0] at H
   by_cases c4 : x11_1 < (a0.size : Int)
   ·rw [if_pos c4] at H; have c4b0 : decide (x11_1 < (a0.size : Int)) = true := decide_eq_true c4; clear c4
    by_cases c5 : 0 ≤ x11_1
    ·rw [if_pos c5] at H; have c5b0 : decide (0 ≤ x11_1) = true := decide_eq_true c5; clear c5
     by_cases c6 : x11_1 < (a0.size : Int)
     ·rw [if_pos c6] at H; have c6b0 : decide (x11_1 < (a0.size : Int)) = true := decide_eq_true c6; clear c6; replace H := Option.bind_eq_some_iff.mp H; obtain ⟨t312, A80, H⟩ := H; have A8 := Aside0.mk A80; clear A80
      by_cases c9 : t312 > 63
      ·rw [if_pos c9] at H; have c9b0 : decide (63 < t312) = true := decide_eq_true c9; clear c9; simp only [Option.some.injEq, Prod.mk.injEq] at H; obtain ⟨rfl, rfl⟩ := H; have p7 : 0 ≤ (x11_1 : Int) := of_decide_eq_true y4_; have q7 : x11_1 < (a0.size : Int) := of_decide_eq_true y4_; have hx7 := bt_at a0 x11_1; replace p7 := eq_true p7; replace q7 := eq_true q7
       go_wp2_with (first | ((with_reducible refine kj (f := 59) rfl ?_); refine kw (some 17) rfl rfl Tryd.func59 (by kernel_rfl) rfl #[.int .u8 (bt a0 x11_1)] rfl y2_ ?_; (with_reducible refine (mr03_value.calls k1 (bt a0 x11_1) t312 _ A8.out).mono ?_); rintro e w' ⟨rfl, ⟨nd, rfl⟩⟩; refine ⟨_, rfl, ?_⟩))
       go_ret2
       exact ⟨_, y5_, by first | exact Kd.R_nil _ _ _ _ _ | exact Kd.N_nil _ _ _ _ _ | exact Kd.V_nil _ _ _ _ _ | exact Kd.Q_nil _ _ _ _ _ | exact Kd.S_nil _ _ _ _ _, y1_⟩
      ·rw [if_neg c9] at H; have c9b0 : decide (63 < t312) = false := decide_eq_false c9; clear c9; replace H := Option.bind_eq_some_iff.mp H; obtain ⟨t313, A100, H⟩ := H; have A10 := Aside0.mk A100; clear A100; have H' := Aside0.mk H; clear H; have p7 : 0 ≤ (x11_1 : Int) := of_decide_eq_true y4_; have q7 : x11_1 < (a0.size : Int) := of_decide_eq_true y4_; have hx7 := bt_at a0 x11_1; replace p7 := eq_true p7; replace q7 := eq_true q7
       go_wp2_with (first | ((with_reducible refine kj (f := 59) rfl ?_); refine kw (some 17) rfl rfl Tryd.func59 (by kernel_rfl) rfl #[.int .u8 (bt a0 x11_1)] rfl y2_ ?_; (with_reducible refine (mr03_value.calls k1 (bt a0 x11_1) t312 _ A8.out).mono ?_); rintro e w' ⟨rfl, ⟨nd, rfl⟩⟩; refine ⟨_, rfl, ?_⟩; obtain ⟨Ao11, co11, eo11⟩ := Kd.R_slice HO_4.out; subst eo11) | ((with_reducible refine kj (f := 60) rfl ?_); refine kw (some 22) rfl rfl Tryd.func60 (by kernel_rfl) rfl #[.slice Ao11 x4_1.length co11, .int .u64 t312, .int .i64 6] rfl y2_ ?_; (with_reducible refine (mr01_Put.calls k1 (fun k_ => some k_ = (.slice Ao11 x4_1.length co11 : Value).ownBlock) (.slice Ao11 x4_1.length co11) x4_1 t312 6 t313 w _ ?side1 ?side2 A10.out).mono ?_); (case side1 => repeat (first | (with_reducible first | exact HB.out | apply kt | apply kA | apply kK) | exact HB.out)); (case side2 => exact Kd.R_tight rfl HO_4.out); rintro e w12 ⟨v314, rfl, ho0, hb, hkp⟩; refine ⟨_, rfl, ?_⟩; have n0_ := am_ (Kd.R_mono (ok' := fun k_ => True) ho0 (fun k_ hk_ => trivial)); have n1_ := am_ (hb); clear HB; clear HO_4; have HO315 := n0_; have HB := n1_; clear n0_ n1_; (try clear hb); (try clear hkp); (try clear ho0)))
       go_roundg k1
       case measure => have := HK1.out; omega
       case rel => exact ⟨(t313), (wrap64 (x11_1 + 1)), y3_, H', ⟨y124_⟩, ⟨by (with_reducible repeat (first | apply Kd.R_alloc | apply Kd.R_drewN | apply Kd.R_drew)); exact HO315.out⟩, ⟨y1_⟩⟩
     ·rw [if_neg c6] at H
      exact absurd H (by simp)
    ·rw [if_neg c5] at H
     exact absurd H (by simp)
   ·rw [if_neg c4] at H; have c4b0 : decide (x11_1 < (a0.size : Int)) = false := decide_eq_false c4; clear c4; obtain ⟨ji13, hji13⟩ : ∃ j_ : Int, (wrap64 ((wrap64 ((x4_1.length : Int) / 8)) * 8)) = j_ := ⟨_, rfl⟩
    replace H : (if 0 ≤ (ji13) then (if (ji13) ≤ (x4_1.length : Int) then ((mr01_Bytes.f (x4_1.take ((ji13) : Int).toNat)).bind fun t320 => ((mr03_Armor.f k1 t320).bind fun t323 => (if t323.toList = a0.toList then (some (t320, 0)) else (some (([] : List Int), 8))))) else (none)) else (none)) = some (r1, r2) := by first | (rw [hji13] at H; exact H) | (simp only [hji13] at H ⊢; exact H)
    have hji13w : (IntKind.i64.wrap ((wrap64 ((x4_1.length : Int) / 8)) * 8)) = ji13 := (kT _).trans hji13
    by_cases c14 : 0 ≤ (ji13)
    ·rw [if_pos c14] at H; have c14b0 := eq_true c14; have c14b1 : decide (0 ≤ (ji13)) = true := decide_eq_true c14; clear c14
     by_cases c15 : (ji13) ≤ (x4_1.length : Int)
     ·rw [if_pos c15] at H; have c15b0 := eq_true c15; have c15b1 : decide ((ji13) ≤ (x4_1.length : Int)) = true := decide_eq_true c15; clear c15; obtain ⟨y316, hy316⟩ : ∃ y_ : List Bool, y_ = (x4_1.take ((ji13) : Int).toNat) := ⟨_, rfl⟩
      replace H : ((mr01_Bytes.f y316).bind fun t320 => ((mr03_Armor.f k1 t320).bind fun t323 => (if t323.toList = a0.toList then (some (t320, 0)) else (some (([] : List Int), 8))))) = some (r1, r2) := by first | (rw [hy316]; with_reducible exact H) | (have H2_ := (Option.bind_some _ _).symm.trans H; rw [hy316]; with_reducible exact H2_) | (have H2_ := (Option.bind_some _ _).symm.trans H; with_reducible exact H2_) | with_reducible exact H | (rw [hy316]; exact H) | exact H
      have Ny316 := Aside0.mk hy316; clear hy316; replace H := Option.bind_eq_some_iff.mp H; obtain ⟨t320, A160, H⟩ := H; have A16 := Aside0.mk A160; clear A160; replace H := Option.bind_eq_some_iff.mp H; obtain ⟨t323, A170, H⟩ := H; have A17 := Aside0.mk A170; clear A170
      by_cases c18 : t323.toList = a0.toList
      ·rw [if_pos c18] at H; have c18b0 : (t323.toList == a0.toList) = true := beq_iff_eq.mpr c18; have c18b1 : (t323.toList != a0.toList) = false := bne_eq_false_iff_eq.mpr c18; clear c18; simp only [Option.some.injEq, Prod.mk.injEq] at H; obtain ⟨rfl, rfl⟩ := H; obtain ⟨Ao19, co19, eo19⟩ := Kd.R_slice HO_4.out; subst eo19; have q20 : ((ji13) : Int) ≤ ((x4_1.length : Int) : Int) := of_decide_eq_true y4_; obtain ⟨i020, hi020, _, hsz20, _⟩ := info_parts info4; have hroom20 : x4_1.length ≤ co19 := (Kd.R_reads' HO_4.out).2.1; have hC20 : Kd.C Kd.bool _ Ao19 x4_1.length x4_1 := (Kd.R_reads' HO_4.out).2.2; have hcut20 := cut_to (P := Tryd.prog) 74 4 .i64 Tryd.underlying74 hi020 Ao19 x4_1.length co19 (ji13) (of_decide_eq_true y4_) q20 hroom20; have hr20 := Kd.C_take (m := ((ji13) : Int).toNat) hC20 (by omega); have hy20 : y316.length = ((ji13) : Int).toNat := (by rw [Ny316.out, List.length_take]; omega); rw [← Ny316.out] at hr20; rw [← hy20] at hcut20; have HR319 := Aside0.mk hr20; have HC319 := am_ (show y316.length ≤ co19 from by omega); clear hr20 hC20 hroom20 hi020 hsz20; have KY20 := Aside0.mk hy20; clear hy20; have KL20 := am_ (show ((ji13) : Int).toNat ≤ x4_1.length from by omega); replace q20 := eq_true q20
       go_wp2_with (first | ((with_reducible refine kj (f := 61) rfl ?_); refine kw (some 30) rfl rfl Tryd.func61 (by kernel_rfl) rfl #[.slice Ao19 y316.length co19] rfl y2_ ?_; (with_reducible refine (mr01_Bytes.calls _ _ y316 t320 _ ?side1 ?side2 A16.out).mono ?_); (case side1 => repeat (first | exact y60_ | (with_reducible refine Kd.C_alloc ?_ _) | (with_reducible refine Kd.C_drewN ?_ _) | (with_reducible refine Kd.C_drew ?_))); (case side2 => exact HC319.out); rintro e w21 ⟨v321, rfl, ho0, hb⟩; refine ⟨_, rfl, ?_⟩; replace HO_4 := am_ (Kd.R_below y120_ hb); have HO322 := am_ (Kd.R_lower ho0 (km y1_)); replace HR319 := am_ (Kd.C_below y60_ hb); replace HB := am_ (ke y1_ hb); (try clear hb); (try clear hb2); (try clear hk); (try clear hi); (try clear ho0); obtain ⟨Ao22, co22, eo22⟩ := Kd.R_slice HO322.out; subst eo22) | ((with_reducible refine kj (f := 29) rfl ?_); refine kw (some 32) rfl rfl Tryd.func29 (by kernel_rfl) rfl #[.slice Ao22 t320.length co22] rfl y2_ ?_; (with_reducible refine (mr03_Armor.calls k1 _ _ t320 t323 _ ?side1 ?side2 A17.out).mono ?_); (case side1 => repeat (first | exact (Kd.R_reads' HO322.out).2.2 | (with_reducible refine Kd.C_alloc ?_ _) | (with_reducible refine Kd.C_drewN ?_ _) | (with_reducible refine Kd.C_drew ?_))); (case side2 => exact (Kd.R_reads' HO322.out).2.1); rintro e w23 ⟨rfl, hb⟩; refine ⟨_, rfl, ?_⟩; replace HO_4 := am_ (Kd.R_below y120_ hb); replace HO322 := am_ (Kd.R_below y130_ hb); replace HR319 := am_ (Kd.C_below y60_ hb); replace HB := am_ (ke y1_ hb); (try clear hb); (try clear hb2); (try clear hk); (try clear hi)))
       go_ret2
       exact ⟨_, y85_, y130_, y1_⟩
      ·rw [if_neg c18] at H; have c18b0 : (t323.toList == a0.toList) = false := beq_eq_false_iff_ne.mpr c18; have c18b1 : (t323.toList != a0.toList) = true := bne_iff_ne.mpr c18; simp only [Option.some.injEq, Prod.mk.injEq] at H; obtain ⟨rfl, rfl⟩ := H; obtain ⟨Ao24, co24, eo24⟩ := Kd.R_slice HO_4.out; subst eo24; have q25 : ((ji13) : Int) ≤ ((x4_1.length : Int) : Int) := of_decide_eq_true y4_; obtain ⟨i025, hi025, _, hsz25, _⟩ := info_parts info4; have hroom25 : x4_1.length ≤ co24 := (Kd.R_reads' HO_4.out).2.1; have hC25 : Kd.C Kd.bool _ Ao24 x4_1.length x4_1 := (Kd.R_reads' HO_4.out).2.2; have hcut25 := cut_to (P := Tryd.prog) 74 4 .i64 Tryd.underlying74 hi025 Ao24 x4_1.length co24 (ji13) (of_decide_eq_true y4_) q25 hroom25; have hr25 := Kd.C_take (m := ((ji13) : Int).toNat) hC25 (by omega); have hy25 : y316.length = ((ji13) : Int).toNat := (by rw [Ny316.out, List.length_take]; omega); rw [← Ny316.out] at hr25; rw [← hy25] at hcut25; have HR319 := Aside0.mk hr25; have HC319 := am_ (show y316.length ≤ co24 from by omega); clear hr25 hC25 hroom25 hi025 hsz25; have KY25 := Aside0.mk hy25; clear hy25; have KL25 := am_ (show ((ji13) : Int).toNat ≤ x4_1.length from by omega); replace q25 := eq_true q25
       go_wp2_with (first | ((with_reducible refine kj (f := 61) rfl ?_); refine kw (some 30) rfl rfl Tryd.func61 (by kernel_rfl) rfl #[.slice Ao24 y316.length co24] rfl y2_ ?_; (with_reducible refine (mr01_Bytes.calls _ _ y316 t320 _ ?side1 ?side2 A16.out).mono ?_); (case side1 => repeat (first | exact y60_ | (with_reducible refine Kd.C_alloc ?_ _) | (with_reducible refine Kd.C_drewN ?_ _) | (with_reducible refine Kd.C_drew ?_))); (case side2 => exact HC319.out); rintro e w26 ⟨v321, rfl, ho0, hb⟩; refine ⟨_, rfl, ?_⟩; replace HO_4 := am_ (Kd.R_below y120_ hb); have HO322 := am_ (Kd.R_lower ho0 (km y1_)); replace HR319 := am_ (Kd.C_below y60_ hb); replace HB := am_ (ke y1_ hb); (try clear hb); (try clear hb2); (try clear hk); (try clear hi); (try clear ho0); obtain ⟨Ao27, co27, eo27⟩ := Kd.R_slice HO322.out; subst eo27) | ((with_reducible refine kj (f := 29) rfl ?_); refine kw (some 32) rfl rfl Tryd.func29 (by kernel_rfl) rfl #[.slice Ao27 t320.length co27] rfl y2_ ?_; (with_reducible refine (mr03_Armor.calls k1 _ _ t320 t323 _ ?side1 ?side2 A17.out).mono ?_); (case side1 => repeat (first | exact (Kd.R_reads' HO322.out).2.2 | (with_reducible refine Kd.C_alloc ?_ _) | (with_reducible refine Kd.C_drewN ?_ _) | (with_reducible refine Kd.C_drew ?_))); (case side2 => exact (Kd.R_reads' HO322.out).2.1); rintro e w28 ⟨rfl, hb⟩; refine ⟨_, rfl, ?_⟩; replace HO_4 := am_ (Kd.R_below y120_ hb); replace HO322 := am_ (Kd.R_below y130_ hb); replace HR319 := am_ (Kd.C_below y60_ hb); replace HB := am_ (ke y1_ hb); (try clear hb); (try clear hb2); (try clear hk); (try clear hi)))
       go_ret2
       exact ⟨_, y85_, by first | exact Kd.R_nil _ _ _ _ _ | exact Kd.N_nil _ _ _ _ _ | exact Kd.V_nil _ _ _ _ _ | exact Kd.Q_nil _ _ _ _ _ | exact Kd.S_nil _ _ _ _ _, y1_⟩
     ·rw [if_neg c15] at H
      exact absurd H (by simp)
    ·rw [if_neg c14] at H
     exact absurd H (by simp)
mutual
def mr01_Uvarint.l0 : Nat → List Int → Int → Int → Option (Int × Int × Int)
 | 0, _, _, _ => none
 | k + 1, x0, x5, x7 => if x7 < 10 then (if x7 = (x0.length : Int) then (some (0, 0, 6)) else (if x7 = 9 then (if 0 ≤ x7 then (if x7 < (x0.length : Int) then (mr01_Uvarint.j1 k x0 x5 x7 x7 (decide ((rd x0 x7) > 1))) else (none)) else (none)) else (mr01_Uvarint.j1 k x0 x5 x7 x7 false))) else (some (0, 0, 9))
def mr01_Uvarint.j1 : Nat → List Int → Int → Int → Int → Bool → Option (Int × Int × Int)
 | 0, _, _, _, _, _ => none
 | k + 1, x0, x5, x6, x7, x22 => if x22 = true then (some (0, 0, 9)) else (if 0 ≤ x6 then (if x6 < (x0.length : Int) then (if 0 ≤ (IntKind.u64.wrap (wrap64 (7 * x6))) then (if (rd x0 x6) < 128 then (if x6 > 0 then (if (rd x0 x6) = 0 then (some (0, 0, 8)) else (some (IntKind.u64.wrap (x5 + (shl .u64 (IntKind.u64.wrap (Int.tmod (rd x0 x6) 128)) (IntKind.u64.wrap (wrap64 (7 * x6))))), wrap64 (x6 + 1), 0))) else (some (IntKind.u64.wrap (x5 + (shl .u64 (IntKind.u64.wrap (Int.tmod (rd x0 x6) 128)) (IntKind.u64.wrap (wrap64 (7 * x6))))), wrap64 (x6 + 1), 0))) else (mr01_Uvarint.l0 k x0 (IntKind.u64.wrap (x5 + (shl .u64 (IntKind.u64.wrap (Int.tmod (rd x0 x6) 128)) (IntKind.u64.wrap (wrap64 (7 * x6)))))) (wrap64 (x7 + 1)))) else (none)) else (none)) else (none))
end
def mr01_Uvarint.f (k : Nat) (l0 : List Int) : Option (Int × Int × Int) := mr01_Uvarint.l0 k l0 0 0
set_option maxHeartbeats 8000000 in
set_option maxRecDepth 100000 in
theorem mr01_Uvarint.calls (k : Nat) (A0 : Option Addr) (c0 : Nat) (l0 : List Int) (r1 : Int) (r2 : Int) (r3 : Int) (w : World) (hr0 : Kd.C (Kd.int .u8) w A0 l0.length l0) (hc0 : l0.length ≤ c0) (h : mr01_Uvarint.f k l0 = some (r1, r2, r3)) :
  Calls Tryd.prog 62 #[.slice A0 l0.length c0] w fun e w' => e = .returned (.tuple #[.int .u64 r1, .int .i64 r2, .int .i64 r3]) ∧ Drawn0 w w' := by
 have HR0 := Aside0.mk hr0; have HC0 := Aside0.mk hc0; clear hr0 hc0; have H : (mr01_Uvarint.l0 k l0 0 0) = some (r1, r2, r3) := h; clear h; have H' := Aside0.mk H; clear H; go_enter Tryd.func62, Tryd.ntmps62
 go_wp2
 go_loopg [5, 7] k (fun kq v5 v7 w' => ∃ (x5_1 : Int) (x7_1 : Int), v5 = .int .u64 x5_1 ∧ v7 = .int .i64 x7_1 ∧ Aside0 (mr01_Uvarint.l0 kq l0 x5_1 x7_1 = some (r1, r2, r3)) ∧ Aside0 (kq ≤ k) ∧ Drawn0 w w')
 case atStart => exact ⟨(0), (0), y3_, y3_, H', ⟨Nat.le_refl _⟩, y6_⟩
 case round =>
  clear H'; obtain ⟨x5_1, x7_1, rfl, rfl, HA, HK1, ⟨m1, rfl⟩⟩ := hrel
  cases gk with
  | zero => exact absurd HA.out (by simp [mr01_Uvarint.l0])
  | succ k1 =>
   have H := HA.out; clear HA; simp only [mr01_Uvarint.l0] at H
   by_cases c2 : x7_1 < 10
   ·rw [if_pos c2] at H; have c2b0 : decide (x7_1 < 10) = true := decide_eq_true c2; clear c2
    by_cases c3 : x7_1 = (l0.length : Int)
    ·rw [if_pos c3] at H; have c3b0 : (x7_1 == (l0.length : Int)) = true := beq_iff_eq.mpr c3; have c3b1 : (x7_1 != (l0.length : Int)) = false := bne_eq_false_iff_eq.mpr c3; clear c3; simp only [Option.some.injEq, Prod.mk.injEq] at H; obtain ⟨rfl, rfl, rfl⟩ := H
     go_wp2
     go_ret3
     exact ⟨y24_, y6_⟩
    ·rw [if_neg c3] at H; have c3b0 : (x7_1 == (l0.length : Int)) = false := beq_eq_false_iff_ne.mpr c3; have c3b1 : (x7_1 != (l0.length : Int)) = true := bne_iff_ne.mpr c3; have HC4 := Aside0.mk H; clear H
     go_upto_region 7 with (fail)
     go_cut [22] (fun v22 wc => ∃ (kq : Nat) (x22_3 : Bool), v22 = .bool x22_3 ∧ Aside0 (mr01_Uvarint.j1 kq l0 x5_1 x7_1 x7_1 x22_3 = some (r1, r2, r3)) ∧ Aside0 (kq ≤ k1) ∧ Drawn0 w wc)
     case first =>
      have H := HC4.out; clear HC4
      by_cases c5 : x7_1 = 9
      ·rw [if_pos c5] at H; have c5b0 : (x7_1 == 9) = true := beq_iff_eq.mpr c5; have c5b1 : (x7_1 != 9) = false := bne_eq_false_iff_eq.mpr c5; clear c5; (first | rw [c5b0] | (simp only [kT, i32_w]; rw [c5b0]) | skip)
       by_cases c6 : 0 ≤ x7_1
       ·rw [if_pos c6] at H; have c6b0 : decide (0 ≤ x7_1) = true := decide_eq_true c6; clear c6
        by_cases c7 : x7_1 < (l0.length : Int)
        ·rw [if_pos c7] at H; have c7b0 : decide (x7_1 < (l0.length : Int)) = true := decide_eq_true c7; clear c7; have H' := Aside0.mk H; clear H; have p324 : 0 ≤ (x7_1 : Int) := of_decide_eq_true y4_; have q324 : x7_1 < (l0.length : Int) := of_decide_eq_true y4_; obtain ⟨ad324, e324, hx324_0⟩ := Kd.at_int HR0.out x7_1 p324 q324
         cases e324
         replace p324 := eq_true p324; replace q324 := eq_true q324
         go_wp2
         go_meet
         case rel => exact ⟨_, (decide ((rd l0 x7_1) > 1)), y3_, H', ⟨y123_⟩, y6_⟩
        ·rw [if_neg c7] at H
         exact absurd H (by simp)
       ·rw [if_neg c6] at H
        exact absurd H (by simp)
      ·rw [if_neg c5] at H; have c5b0 : (x7_1 == 9) = false := beq_eq_false_iff_ne.mpr c5; have c5b1 : (x7_1 != 9) = true := bne_iff_ne.mpr c5; (first | rw [c5b0] | (simp only [kT, i32_w]; rw [c5b0]) | skip); have H' := Aside0.mk H; clear H
       go_wp2
       go_meet
       case rel => exact ⟨_, (false), y3_, H', ⟨y123_⟩, y6_⟩
     case rest =>
      clear HC4
      try clear c2
      try clear c2b0
      try clear p2
      try clear c3
      try clear c3b0
      try clear c3b1
      try clear p3
      try clear q3
      try clear hx3
      try clear c5
      try clear c5b0
      try clear c5b1
      try clear c6
      try clear c6b0
      try clear c7
      try clear c7b0
      try clear hx324_0
      try clear p324
      try clear q324
      obtain ⟨kq, x22_3, rfl, HA, HJ3, ⟨mc3, rfl⟩⟩ := hcut
      cases kq with
      | zero => exact absurd HA.out (by simp [mr01_Uvarint.j1])
      | succ kj3 =>
       have H := HA.out; clear HA; simp only [mr01_Uvarint.j1] at H
       by_cases c8 : x22_3 = true
       ·subst c8; rw [if_pos rfl] at H; simp only [Option.some.injEq, Prod.mk.injEq] at H; obtain ⟨rfl, rfl, rfl⟩ := H
        go_wp2
        go_ret3
        exact ⟨y24_, y6_⟩
       ·replace c8 := Bool.eq_false_iff.mpr c8; subst c8; rw [if_neg (show ¬ (false = true) by decide)] at H
        by_cases c9 : 0 ≤ x7_1
        ·rw [if_pos c9] at H; have c9b0 : decide (0 ≤ x7_1) = true := decide_eq_true c9; clear c9
         by_cases c10 : x7_1 < (l0.length : Int)
         ·rw [if_pos c10] at H; have c10b0 : decide (x7_1 < (l0.length : Int)) = true := decide_eq_true c10; clear c10; obtain ⟨ji11, hji11⟩ : ∃ j_ : Int, (IntKind.u64.wrap (wrap64 (7 * x7_1))) = j_ := ⟨_, rfl⟩
          replace H : (if 0 ≤ (ji11) then (if (rd l0 x7_1) < 128 then (if x7_1 > 0 then (if (rd l0 x7_1) = 0 then (some (0, 0, 8)) else (some (IntKind.u64.wrap (x5_1 + (shl .u64 (IntKind.u64.wrap (Int.tmod (rd l0 x7_1) 128)) (ji11))), wrap64 (x7_1 + 1), 0))) else (some (IntKind.u64.wrap (x5_1 + (shl .u64 (IntKind.u64.wrap (Int.tmod (rd l0 x7_1) 128)) (ji11))), wrap64 (x7_1 + 1), 0))) else (mr01_Uvarint.l0 kj3 l0 (IntKind.u64.wrap (x5_1 + (shl .u64 (IntKind.u64.wrap (Int.tmod (rd l0 x7_1) 128)) (ji11)))) (wrap64 (x7_1 + 1)))) else (none)) = some (r1, r2, r3) := by first | (rw [hji11] at H; exact H) | (simp only [hji11] at H ⊢; exact H)
          by_cases c12 : 0 ≤ (ji11)
          ·rw [if_pos c12] at H; have c12b0 := eq_true c12; have c12b1 : decide (0 ≤ (ji11)) = true := decide_eq_true c12; clear c12; obtain ⟨ji13, hji13⟩ : ∃ j_ : Int, (shl .u64 (IntKind.u64.wrap (Int.tmod (rd l0 x7_1) 128)) (ji11)) = j_ := ⟨_, rfl⟩
           replace H : (if (rd l0 x7_1) < 128 then (if x7_1 > 0 then (if (rd l0 x7_1) = 0 then (some (0, 0, 8)) else (some (IntKind.u64.wrap (x5_1 + (ji13)), wrap64 (x7_1 + 1), 0))) else (some (IntKind.u64.wrap (x5_1 + (ji13)), wrap64 (x7_1 + 1), 0))) else (mr01_Uvarint.l0 kj3 l0 (IntKind.u64.wrap (x5_1 + (ji13))) (wrap64 (x7_1 + 1)))) = some (r1, r2, r3) := by first | (rw [hji13] at H; exact H) | (simp only [hji13] at H ⊢; exact H)
           have hji13_ : (IntKind.u64.wrap ((IntKind.u64.wrap (Int.tmod (rd l0 x7_1) 128)) * 2 ^ min (ji11).toNat 64)) = ji13 := hji13; have hji13z : (ji11) ≤ 64 → (IntKind.u64.wrap ((IntKind.u64.wrap (Int.tmod (rd l0 x7_1) 128)) * 2 ^ (ji11).toNat)) = ji13 := shl_small hji13
           by_cases c14 : (rd l0 x7_1) < 128
           ·rw [if_pos c14] at H; have c14b0 : decide ((rd l0 x7_1) < 128) = true := decide_eq_true c14; clear c14
            by_cases c15 : x7_1 > 0
            ·rw [if_pos c15] at H; have c15b0 : decide (0 < x7_1) = true := decide_eq_true c15; clear c15
             by_cases c16 : (rd l0 x7_1) = 0
             ·rw [if_pos c16] at H; have c16b0 : ((rd l0 x7_1) == 0) = true := beq_iff_eq.mpr c16; have c16b1 : ((rd l0 x7_1) != 0) = false := bne_eq_false_iff_eq.mpr c16; clear c16; simp only [Option.some.injEq, Prod.mk.injEq] at H; obtain ⟨rfl, rfl, rfl⟩ := H; have p325 : 0 ≤ (x7_1 : Int) := of_decide_eq_true y4_; have q325 : x7_1 < (l0.length : Int) := of_decide_eq_true y4_; obtain ⟨ad325, e325, hx325_0⟩ := Kd.at_int HR0.out x7_1 p325 q325
              cases e325
              replace p325 := eq_true p325; replace q325 := eq_true q325; have p326 : 0 ≤ (x7_1 : Int) := of_decide_eq_true y4_; have q326 : x7_1 < (l0.length : Int) := of_decide_eq_true y4_; obtain ⟨ad326, e326, hx326_0⟩ := Kd.at_int HR0.out x7_1 p326 q326; obtain rfl : ad325 = ad326 := (by injection e326); replace p326 := eq_true p326; replace q326 := eq_true q326; have p327 : 0 ≤ (x7_1 : Int) := of_decide_eq_true y4_; have q327 : x7_1 < (l0.length : Int) := of_decide_eq_true y4_; obtain ⟨ad327, e327, hx327_0⟩ := Kd.at_int HR0.out x7_1 p327 q327; obtain rfl : ad325 = ad327 := (by injection e327); replace p327 := eq_true p327; replace q327 := eq_true q327
              go_wp2
              go_ret3
              exact ⟨y68_, y6_⟩
             ·rw [if_neg c16] at H; have c16b0 : ((rd l0 x7_1) == 0) = false := beq_eq_false_iff_ne.mpr c16; have c16b1 : ((rd l0 x7_1) != 0) = true := bne_iff_ne.mpr c16; simp only [Option.some.injEq, Prod.mk.injEq] at H; obtain ⟨rfl, rfl, rfl⟩ := H; have p325 : 0 ≤ (x7_1 : Int) := of_decide_eq_true y4_; have q325 : x7_1 < (l0.length : Int) := of_decide_eq_true y4_; obtain ⟨ad325, e325, hx325_0⟩ := Kd.at_int HR0.out x7_1 p325 q325
              cases e325
              replace p325 := eq_true p325; replace q325 := eq_true q325; have p326 : 0 ≤ (x7_1 : Int) := of_decide_eq_true y4_; have q326 : x7_1 < (l0.length : Int) := of_decide_eq_true y4_; obtain ⟨ad326, e326, hx326_0⟩ := Kd.at_int HR0.out x7_1 p326 q326; obtain rfl : ad325 = ad326 := (by injection e326); replace p326 := eq_true p326; replace q326 := eq_true q326; have p327 : 0 ≤ (x7_1 : Int) := of_decide_eq_true y4_; have q327 : x7_1 < (l0.length : Int) := of_decide_eq_true y4_; obtain ⟨ad327, e327, hx327_0⟩ := Kd.at_int HR0.out x7_1 p327 q327; obtain rfl : ad325 = ad327 := (by injection e327); replace p327 := eq_true p327; replace q327 := eq_true q327
              go_wp2
              go_ret3
              exact ⟨y68_, y6_⟩
            ·rw [if_neg c15] at H; have c15b0 : decide (0 < x7_1) = false := decide_eq_false c15; clear c15; simp only [Option.some.injEq, Prod.mk.injEq] at H; obtain ⟨rfl, rfl, rfl⟩ := H; have p325 : 0 ≤ (x7_1 : Int) := of_decide_eq_true y4_; have q325 : x7_1 < (l0.length : Int) := of_decide_eq_true y4_; obtain ⟨ad325, e325, hx325_0⟩ := Kd.at_int HR0.out x7_1 p325 q325
             cases e325
             replace p325 := eq_true p325; replace q325 := eq_true q325; have p326 : 0 ≤ (x7_1 : Int) := of_decide_eq_true y4_; have q326 : x7_1 < (l0.length : Int) := of_decide_eq_true y4_; obtain ⟨ad326, e326, hx326_0⟩ := Kd.at_int HR0.out x7_1 p326 q326; obtain rfl : ad325 = ad326 := (by injection e326); replace p326 := eq_true p326; replace q326 := eq_true q326
             go_wp2
             go_ret3
             exact ⟨y68_, y6_⟩
           ·rw [if_neg c14] at H; have c14b0 : decide ((rd l0 x7_1) < 128) = false := decide_eq_false c14; clear c14; have H' := Aside0.mk H; clear H; have p325 : 0 ≤ (x7_1 : Int) := of_decide_eq_true y4_; have q325 : x7_1 < (l0.length : Int) := of_decide_eq_true y4_; obtain ⟨ad325, e325, hx325_0⟩ := Kd.at_int HR0.out x7_1 p325 q325
            cases e325
            replace p325 := eq_true p325; replace q325 := eq_true q325; have p326 : 0 ≤ (x7_1 : Int) := of_decide_eq_true y4_; have q326 : x7_1 < (l0.length : Int) := of_decide_eq_true y4_; obtain ⟨ad326, e326, hx326_0⟩ := Kd.at_int HR0.out x7_1 p326 q326; obtain rfl : ad325 = ad326 := (by injection e326); replace p326 := eq_true p326; replace q326 := eq_true q326
            go_wp2
            go_roundg kj3
            case measure => have := HK1.out; have := HJ3.out; omega
            case rel => exact ⟨(IntKind.u64.wrap (x5_1 + (ji13))), (wrap64 (x7_1 + 1)), y92_, y3_, H', ⟨by have := HK1.out; have := HJ3.out; omega⟩, y6_⟩
          ·rw [if_neg c12] at H
           exact absurd H (by simp)
         ·rw [if_neg c10] at H
          exact absurd H (by simp)
        ·rw [if_neg c9] at H
         exact absurd H (by simp)
   ·rw [if_neg c2] at H; have c2b0 : decide (x7_1 < 10) = false := decide_eq_false c2; clear c2; simp only [Option.some.injEq, Prod.mk.injEq] at H; obtain ⟨rfl, rfl, rfl⟩ := H
    go_wp2
    go_ret3
    exact ⟨y24_, y6_⟩
end Go.Proofs.YtkkomfomjpcbfaaDoor.PTS
