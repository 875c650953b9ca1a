import Derived.Test.YtdckhaejhfkkbaaDoorCRecordTakesPRTx0
import Derived.Test.YtdckhaejhfkkbaaDoorCRecordTakesQ2
import Derived.Test.YtdckhaejhfkkbaaDoorCRecordTakesPRTx21
import Derived.Test.YtdckhaejhfkkbaaDoorCRecordTakesY
namespace Go.Proofs.YtdckhaejhfkkbaaDoor.PRT
open Go.RowKit Go.Proofs.YtdckhaejhfkkbaaDoorW.PrintWords Go.Proofs.YtdckhaejhfkkbaaDoorW.PrintLast Go.Proofs.YtdckhaejhfkkbaaDoorW.PrintMore
attribute [local go_sem] max2_int min2_int max_two min_two max_three min_three max_four min_four
set_option linter.unusedVariables false
set_option linter.unusedSimpArgs false
def manometerref05_more.l0 : Nat → ByteArray → Int → Int → Int → Option (Bool)
 | 0, _, _, _, _ => none
 | k + 1, x0, x1, x14, x15 => if x15 < x14 then (if 0 ≤ (wrap64 (x1 + x15)) then (if (wrap64 (x1 + x15)) < (x0.size : Int) then (if ((Int.tdiv (bt x0 (wrap64 (x1 + x15))) 64) % 256) = 2 then (manometerref05_more.l0 k x0 x1 x14 (wrap64 (x15 + 1))) else (some false)) else (none)) else (none)) else (some true)
def manometerref05_more.f (k : Nat) (a0 : ByteArray) (a1 : Int) (a2 : Int) : Option (Bool) := if a1 > (wrap64 ((a0.size : Int) - a2)) then (some false) else (manometerref05_more.l0 k a0 a1 a2 0)
set_option maxHeartbeats 8000000 in
set_option maxRecDepth 100000 in
theorem manometerref05_more.calls (k : Nat) (a0 : ByteArray) (a1 : Int) (a2 : Int) (r : Bool) (w : World) (h : manometerref05_more.f k a0 a1 a2 = some r) :
  Calls Tryd.prog 68 #[.string a0, .int .i64 a1, .int .i64 a2] w fun e w' => e = .returned (.bool r) ∧ Drawn0 w w' := by
 have H : (if a1 > (wrap64 ((a0.size : Int) - a2)) then (some false) else (manometerref05_more.l0 k a0 a1 a2 0)) = some r := h
 clear h
 by_cases c4 : a1 > (wrap64 ((a0.size : Int) - a2))
 ·rw [if_pos c4] at H
  have c4b0 : decide ((wrap64 ((a0.size : Int) - a2)) < a1) = true := decide_eq_true c4
  clear c4
  obtain rfl := Option.some.inj H
  go_enter Tryd.func68, Tryd.ntmps68
  go_wp2
  go_ret
  exact ⟨y17_, y8_⟩
 ·rw [if_neg c4] at H
  have c4b0 : decide ((wrap64 ((a0.size : Int) - a2)) < a1) = false := decide_eq_false c4
  clear c4
  have H' := Aside0.mk H
  clear H
  go_enter Tryd.func68, Tryd.ntmps68
  go_wp2
  go_loopg [15] k (fun kq v15 w' => ∃ (x15_1 : Int), v15 = .int .i64 x15_1 ∧ Aside0 (manometerref05_more.l0 kq a0 a1 a2 x15_1 = some r) ∧ Aside0 (kq ≤ k) ∧ Drawn0 w w')
  case atStart => exact ⟨(0), y7_, H', ⟨Nat.le_refl _⟩, y8_⟩
  case round =>
   clear H'
   try clear p2
   try clear c4
   try clear c4b0
   obtain ⟨x15_1, rfl, HA, HK1, ⟨m1, rfl⟩⟩ := hrel
   cases gk with
   | zero => exact absurd HA.out (by simp [manometerref05_more.l0])
   | succ k1 =>
    have H := HA.out
    clear HA
    simp only [manometerref05_more.l0] at H
    by_cases c5 : x15_1 < a2
    ·rw [if_pos c5] at H
     have c5b0 : decide (x15_1 < a2) = true := decide_eq_true c5
     clear c5
     obtain ⟨ji6, hji6⟩ : ∃ j_ : Int, (wrap64 (a1 + x15_1)) = j_ := ⟨_, rfl⟩
     replace H : (if 0 ≤ (ji6) then (if (ji6) < (a0.size : Int) then (if ((Int.tdiv (bt a0 (ji6)) 64) % 256) = 2 then (manometerref05_more.l0 k1 a0 a1 a2 (wrap64 (x15_1 + 1))) else (some false)) else (none)) else (none)) = some r := by first | (rw [hji6] at H; exact H) | (simp only [hji6] at H ⊢; exact H)
     have hji6w : (IntKind.i64.wrap (a1 + x15_1)) = ji6 := (i64_w _).trans hji6
     by_cases c7 : 0 ≤ (ji6)
     ·rw [if_pos c7] at H
      have c7b0 : decide (0 ≤ (ji6)) = true := decide_eq_true c7
      clear c7
      by_cases c8 : (ji6) < (a0.size : Int)
      ·rw [if_pos c8] at H
       have c8b0 : decide ((ji6) < (a0.size : Int)) = true := decide_eq_true c8
       clear c8
       by_cases c10 : ((Int.tdiv (bt a0 (ji6)) 64) % 256) = 2
       ·rw [if_pos c10] at H
        have c10b0 : (((Int.tdiv (bt a0 (ji6)) 64) % 256) == 2) = true := beq_iff_eq.mpr c10
        have c10b1 : (((Int.tdiv (bt a0 (ji6)) 64) % 256) != 2) = false := bne_eq_false_iff_eq.mpr c10
        clear c10
        have H' := Aside0.mk H
        clear H
        have p9 : 0 ≤ ((ji6) : Int) := of_decide_eq_true y2_
        have q9 : (ji6) < (a0.size : Int) := of_decide_eq_true y2_
        have hx9 := bt_at a0 (ji6)
        replace p9 := eq_true p9
        replace q9 := eq_true q9
        go_wp2
        go_roundg k1
        case measure => have := HK1.out; omega
        case rel => exact ⟨(wrap64 (x15_1 + 1)), y7_, H', ⟨y109_⟩, y8_⟩
       ·rw [if_neg c10] at H
        have c10b0 : (((Int.tdiv (bt a0 (ji6)) 64) % 256) == 2) = false := beq_eq_false_iff_ne.mpr c10
        have c10b1 : (((Int.tdiv (bt a0 (ji6)) 64) % 256) != 2) = true := bne_iff_ne.mpr c10
        obtain rfl := Option.some.inj H
        have p9 : 0 ≤ ((ji6) : Int) := of_decide_eq_true y2_
        have q9 : (ji6) < (a0.size : Int) := of_decide_eq_true y2_
        have hx9 := bt_at a0 (ji6)
        replace p9 := eq_true p9
        replace q9 := eq_true q9
        go_wp2
        go_ret
        exact ⟨by first | rfl | (simp; done) | ((simp only [← hji6] <;> (first | rfl | simp)); done) | (congr 1; first | assumption | (symm; assumption)) | (simp [*]; done), y8_⟩
      ·rw [if_neg c8] at H
       exact absurd H (by simp)
     ·rw [if_neg c7] at H
      exact absurd H (by simp)
    ·rw [if_neg c5] at H
     have c5b0 : decide (x15_1 < a2) = false := decide_eq_false c5
     clear c5
     obtain rfl := Option.some.inj H
     go_wp2
     go_ret
     exact ⟨y17_, y8_⟩
mutual
def manometerref05_step.j0 : Nat → ByteArray → Int → Int → Bool → Option (Int)
 | 0, _, _, _, _ => none
 | k + 1, x0, x1, x5, x14 => if x14 = true then (some 2) else (if x5 ≥ 224 then (if x5 < 240 then ((manometerref05_more.f k x0 (wrap64 (x1 + 1)) 2).bind fun t240 => (manometerref05_step.j1 k x0 x1 x5 t240)) else (manometerref05_step.j1 k x0 x1 x5 false)) else (manometerref05_step.j1 k x0 x1 x5 false))
def manometerref05_step.j1 : Nat → ByteArray → Int → Int → Bool → Option (Int)
 | 0, _, _, _, _ => none
 | k + 1, x0, x1, x5, x27 => if x27 = true then (if 0 ≤ (wrap64 (x1 + 1)) then (if (wrap64 (x1 + 1)) < (x0.size : Int) then (if 0 ≤ (wrap64 (x1 + 2)) then (if (wrap64 (x1 + 2)) < (x0.size : Int) then (if (wrap64 ((wrap64 ((wrap64 ((wrap64 (Int.tmod x5 16)) * 4096)) + (wrap64 ((wrap64 (Int.tmod (bt x0 (wrap64 (x1 + 1))) 64)) * 64)))) + (wrap64 (Int.tmod (bt x0 (wrap64 (x1 + 2))) 64)))) ≥ 2048 then (if (wrap64 ((wrap64 ((wrap64 ((wrap64 (Int.tmod x5 16)) * 4096)) + (wrap64 ((wrap64 (Int.tmod (bt x0 (wrap64 (x1 + 1))) 64)) * 64)))) + (wrap64 (Int.tmod (bt x0 (wrap64 (x1 + 2))) 64)))) < 55296 then (some 3) else (if (wrap64 ((wrap64 ((wrap64 ((wrap64 (Int.tmod x5 16)) * 4096)) + (wrap64 ((wrap64 (Int.tmod (bt x0 (wrap64 (x1 + 1))) 64)) * 64)))) + (wrap64 (Int.tmod (bt x0 (wrap64 (x1 + 2))) 64)))) > 57343 then (some 3) else (some 0))) else (some 0)) else (none)) else (none)) else (none)) else (none)) else (if x5 ≥ 240 then (if x5 < 245 then ((manometerref05_more.f k x0 (wrap64 (x1 + 1)) 3).bind fun t241 => (manometerref05_step.j2 k x0 x1 x5 t241)) else (manometerref05_step.j2 k x0 x1 x5 false)) else (manometerref05_step.j2 k x0 x1 x5 false))
def manometerref05_step.j2 : Nat → ByteArray → Int → Int → Bool → Option (Int)
 | 0, _, _, _, _ => none
 | k + 1, x0, x1, x5, x69 => if x69 = true then (if 0 ≤ (wrap64 (x1 + 1)) then (if (wrap64 (x1 + 1)) < (x0.size : Int) then (if 0 ≤ (wrap64 (x1 + 2)) then (if (wrap64 (x1 + 2)) < (x0.size : Int) then (if 0 ≤ (wrap64 (x1 + 3)) then (if (wrap64 (x1 + 3)) < (x0.size : Int) then (if (wrap64 ((wrap64 ((wrap64 ((wrap64 ((wrap64 (Int.tmod x5 8)) * 262144)) + (wrap64 ((wrap64 (Int.tmod (bt x0 (wrap64 (x1 + 1))) 64)) * 4096)))) + (wrap64 ((wrap64 (Int.tmod (bt x0 (wrap64 (x1 + 2))) 64)) * 64)))) + (wrap64 (Int.tmod (bt x0 (wrap64 (x1 + 3))) 64)))) ≥ 65536 then (if (wrap64 ((wrap64 ((wrap64 ((wrap64 ((wrap64 (Int.tmod x5 8)) * 262144)) + (wrap64 ((wrap64 (Int.tmod (bt x0 (wrap64 (x1 + 1))) 64)) * 4096)))) + (wrap64 ((wrap64 (Int.tmod (bt x0 (wrap64 (x1 + 2))) 64)) * 64)))) + (wrap64 (Int.tmod (bt x0 (wrap64 (x1 + 3))) 64)))) ≤ 1114111 then (some 4) else (some 0)) else (some 0)) else (none)) else (none)) else (none)) else (none)) else (none)) else (none)) else (some 0)
end
def manometerref05_step.f (k : Nat) (a0 : ByteArray) (a1 : Int) : Option (Int) := if 0 ≤ a1 then (if a1 < (a0.size : Int) then (if (bt a0 a1) < 128 then (some 1) else (if (bt a0 a1) ≥ 194 then (if (bt a0 a1) < 224 then ((manometerref05_more.f k a0 (wrap64 (a1 + 1)) 1).bind fun t239 => (manometerref05_step.j0 k a0 a1 (bt a0 a1) t239)) else (manometerref05_step.j0 k a0 a1 (bt a0 a1) false)) else (manometerref05_step.j0 k a0 a1 (bt a0 a1) false))) else (none)) else (none)
set_option maxHeartbeats 8000000 in
set_option maxRecDepth 100000 in
theorem manometerref05_step.calls (k : Nat) (a0 : ByteArray) (a1 : Int) (r : Int) (w : World) (h : manometerref05_step.f k a0 a1 = some r) :
  Calls Tryd.prog 66 #[.string a0, .int .i64 a1] w fun e w' => e = .returned (.int .i64 r) ∧ Drawn0 w w' := by
 have H : (if 0 ≤ a1 then (if a1 < (a0.size : Int) then (if (bt a0 a1) < 128 then (some 1) else (if (bt a0 a1) ≥ 194 then (if (bt a0 a1) < 224 then ((manometerref05_more.f k a0 (wrap64 (a1 + 1)) 1).bind fun t239 => (manometerref05_step.j0 k a0 a1 (bt a0 a1) t239)) else (manometerref05_step.j0 k a0 a1 (bt a0 a1) false)) else (manometerref05_step.j0 k a0 a1 (bt a0 a1) false))) else (none)) else (none)) = some r := h
 clear h
 by_cases c3 : 0 ≤ a1
 ·rw [if_pos c3] at H
  have c3b0 : decide (0 ≤ a1) = true := decide_eq_true c3
  clear c3
  by_cases c4 : a1 < (a0.size : Int)
  ·rw [if_pos c4] at H
   have c4b0 : decide (a1 < (a0.size : Int)) = true := decide_eq_true c4
   clear c4
   by_cases c6 : (bt a0 a1) < 128
   ·rw [if_pos c6] at H
    have c6b0 : decide ((bt a0 a1) < 128) = true := decide_eq_true c6
    clear c6
    obtain rfl := Option.some.inj H
    have p5 : 0 ≤ (a1 : Int) := of_decide_eq_true y2_
    have q5 : a1 < (a0.size : Int) := of_decide_eq_true y2_
    have hx5 := bt_at a0 a1
    replace p5 := eq_true p5
    replace q5 := eq_true q5
    go_enter Tryd.func66, Tryd.ntmps66
    go_wp2
    repeat (go_quiet (fail); try go_wp2)
    go_ret
    exact ⟨y17_, y8_⟩
   ·rw [if_neg c6] at H
    have c6b0 : decide ((bt a0 a1) < 128) = false := decide_eq_false c6
    clear c6
    have HC7 := Aside0.mk H
    clear H
    have p5 : 0 ≤ (a1 : Int) := of_decide_eq_true y2_
    have q5 : a1 < (a0.size : Int) := of_decide_eq_true y2_
    have hx5 := bt_at a0 a1
    replace p5 := eq_true p5
    replace q5 := eq_true q5
    go_enter Tryd.func66, Tryd.ntmps66
    go_upto_region 4 with (fail)
    repeat (go_quiet (fail); go_upto_region 4 with (fail))
    go_cut [14] (fun v14 wc => ∃ (kq : Nat) (x14_6 : Bool), v14 = .bool x14_6 ∧ Aside0 (manometerref05_step.j0 kq a0 a1 (bt a0 a1) x14_6 = some r) ∧ Aside0 (kq ≤ k) ∧ Drawn0 w wc)
    case first =>
     have H := HC7.out
     clear HC7
     by_cases c8 : (bt a0 a1) ≥ 194
     ·rw [if_pos c8] at H
      have c8b0 : decide (194 ≤ (bt a0 a1)) = true := decide_eq_true c8
      clear c8
      (first | rw [c8b0] | (simp only [i64_w, i32_w]; rw [c8b0]) | skip)
      by_cases c9 : (bt a0 a1) < 224
      ·rw [if_pos c9] at H
       have c9b0 : decide ((bt a0 a1) < 224) = true := decide_eq_true c9
       clear c9
       replace H := Option.bind_eq_some_iff.mp H
       obtain ⟨t239, A100, H⟩ := H
       replace H : (manometerref05_step.j0 k a0 a1 (bt a0 a1) t239) = some r := H
       have A10 := Aside0.mk A100
       clear A100
       have H' := Aside0.mk H
       clear H
       go_wp2_with (first | (go_at_call 68; (with_reducible refine (manometerref05_more.calls k a0 (wrap64 (a1 + 1)) 1 t239 _ A10.out).mono ?_); rintro e w' ⟨rfl, ⟨nd, rfl⟩⟩; (try first | exact ⟨rfl, _, World.drewN_drewN _ _ _⟩ | exact ⟨rfl, _, Eq.trans (World.drewN_drewN _ _ _) (congrArg (World.drewN _) (Nat.add_assoc _ _ _))⟩)))
       repeat (go_quiet (first | (go_at_call 68; (with_reducible refine (manometerref05_more.calls k a0 (wrap64 (a1 + 1)) 1 t239 _ A10.out).mono ?_); rintro e w' ⟨rfl, ⟨nd, rfl⟩⟩; (try first | exact ⟨rfl, _, World.drewN_drewN _ _ _⟩ | exact ⟨rfl, _, Eq.trans (World.drewN_drewN _ _ _) (congrArg (World.drewN _) (Nat.add_assoc _ _ _))⟩))); try go_wp2_with (first | (go_at_call 68; (with_reducible refine (manometerref05_more.calls k a0 (wrap64 (a1 + 1)) 1 t239 _ A10.out).mono ?_); rintro e w' ⟨rfl, ⟨nd, rfl⟩⟩; (try first | exact ⟨rfl, _, World.drewN_drewN _ _ _⟩ | exact ⟨rfl, _, Eq.trans (World.drewN_drewN _ _ _) (congrArg (World.drewN _) (Nat.add_assoc _ _ _))⟩))))
       go_meet
       case rel => exact ⟨_, (t239), y7_, H', ⟨y65_⟩, y8_⟩
      ·rw [if_neg c9] at H
       have c9b0 : decide ((bt a0 a1) < 224) = false := decide_eq_false c9
       clear c9
       have H' := Aside0.mk H
       clear H
       go_wp2
       repeat (go_quiet (fail); try go_wp2)
       go_meet
       case rel => exact ⟨_, (false), y7_, H', ⟨y65_⟩, y8_⟩
     ·rw [if_neg c8] at H
      have c8b0 : decide (194 ≤ (bt a0 a1)) = false := decide_eq_false c8
      clear c8
      (first | rw [c8b0] | (simp only [i64_w, i32_w]; rw [c8b0]) | skip)
      have H' := Aside0.mk H
      clear H
      go_wp2
      repeat (go_quiet (fail); try go_wp2)
      go_meet
      case rel => exact ⟨_, (false), y7_, H', ⟨y65_⟩, y8_⟩
    case rest =>
     clear HC7
     try clear p2
     try clear c3
     try clear c3b0
     try clear c4
     try clear c4b0
     try clear p5
     try clear q5
     try clear hx5
     try clear c6
     try clear c6b0
     try clear p6
     try clear c8
     try clear c8b0
     try clear c9
     try clear c9b0
     try clear p5
     try clear q5
     obtain ⟨kq, x14_6, rfl, HA, HJ6, ⟨mc6, rfl⟩⟩ := hcut
     cases kq with
     | zero => exact absurd HA.out (by simp [manometerref05_step.j0])
     | succ kj6 =>
      have H := HA.out
      clear HA
      simp only [manometerref05_step.j0] at H
      by_cases c11 : x14_6 = true
      ·subst c11
       have H1 : (some 2) = some r := by rw [if_pos rfl] at H; exact H
       clear H
       have H := H1
       clear H1
       obtain rfl := Option.some.inj H
       go_wp2
       repeat (go_quiet (fail); try go_wp2)
       go_ret
       exact ⟨y17_, y8_⟩
      ·replace c11 := Bool.eq_false_iff.mpr c11
       subst c11
       have H1 : (if (bt a0 a1) ≥ 224 then (if (bt a0 a1) < 240 then ((manometerref05_more.f kj6 a0 (wrap64 (a1 + 1)) 2).bind fun t240 => (manometerref05_step.j1 kj6 a0 a1 (bt a0 a1) t240)) else (manometerref05_step.j1 kj6 a0 a1 (bt a0 a1) false)) else (manometerref05_step.j1 kj6 a0 a1 (bt a0 a1) false)) = some r := by rw [if_neg (show ¬ (false = true) by decide)] at H; exact H
       clear H
       have H := H1
       clear H1
       have HC12 := Aside0.mk H
       clear H
       go_upto_region 6 with (fail)
       repeat (go_quiet (fail); go_upto_region 6 with (fail))
       go_cut [27] (fun v27 wc => ∃ (kq : Nat) (x27_11 : Bool), v27 = .bool x27_11 ∧ Aside0 (manometerref05_step.j1 kq a0 a1 (bt a0 a1) x27_11 = some r) ∧ Aside0 (kq ≤ kj6) ∧ Drawn0 w wc)
       case first =>
        have H := HC12.out
        clear HC12
        by_cases c13 : (bt a0 a1) ≥ 224
        ·rw [if_pos c13] at H
         have c13b0 : decide (224 ≤ (bt a0 a1)) = true := decide_eq_true c13
         clear c13
         (first | rw [c13b0] | (simp only [i64_w, i32_w]; rw [c13b0]) | skip)
         by_cases c14 : (bt a0 a1) < 240
         ·rw [if_pos c14] at H
          have c14b0 : decide ((bt a0 a1) < 240) = true := decide_eq_true c14
          clear c14
          replace H := Option.bind_eq_some_iff.mp H
          obtain ⟨t240, A150, H⟩ := H
          replace H : (manometerref05_step.j1 kj6 a0 a1 (bt a0 a1) t240) = some r := H
          have A15 := Aside0.mk A150
          clear A150
          have H' := Aside0.mk H
          clear H
          go_wp2_with (first | (go_at_call 68; (with_reducible refine (manometerref05_more.calls kj6 a0 (wrap64 (a1 + 1)) 2 t240 _ A15.out).mono ?_); rintro e w' ⟨rfl, ⟨nd, rfl⟩⟩; (try first | exact ⟨rfl, _, World.drewN_drewN _ _ _⟩ | exact ⟨rfl, _, Eq.trans (World.drewN_drewN _ _ _) (congrArg (World.drewN _) (Nat.add_assoc _ _ _))⟩)))
          repeat (go_quiet (first | (go_at_call 68; (with_reducible refine (manometerref05_more.calls kj6 a0 (wrap64 (a1 + 1)) 2 t240 _ A15.out).mono ?_); rintro e w' ⟨rfl, ⟨nd, rfl⟩⟩; (try first | exact ⟨rfl, _, World.drewN_drewN _ _ _⟩ | exact ⟨rfl, _, Eq.trans (World.drewN_drewN _ _ _) (congrArg (World.drewN _) (Nat.add_assoc _ _ _))⟩))); try go_wp2_with (first | (go_at_call 68; (with_reducible refine (manometerref05_more.calls kj6 a0 (wrap64 (a1 + 1)) 2 t240 _ A15.out).mono ?_); rintro e w' ⟨rfl, ⟨nd, rfl⟩⟩; (try first | exact ⟨rfl, _, World.drewN_drewN _ _ _⟩ | exact ⟨rfl, _, Eq.trans (World.drewN_drewN _ _ _) (congrArg (World.drewN _) (Nat.add_assoc _ _ _))⟩))))
          go_meet
          case rel => exact ⟨_, (t240), y7_, H', ⟨by have := HJ6.out; first | omega | exact Nat.le_refl _⟩, y8_⟩
         ·rw [if_neg c14] at H
          have c14b0 : decide ((bt a0 a1) < 240) = false := decide_eq_false c14
          clear c14
          have H' := Aside0.mk H
          clear H
          go_wp2
          repeat (go_quiet (fail); try go_wp2)
          go_meet
          case rel => exact ⟨_, (false), y7_, H', ⟨by have := HJ6.out; first | omega | exact Nat.le_refl _⟩, y8_⟩
        ·rw [if_neg c13] at H
         have c13b0 : decide (224 ≤ (bt a0 a1)) = false := decide_eq_false c13
         clear c13
         (first | rw [c13b0] | (simp only [i64_w, i32_w]; rw [c13b0]) | skip)
         have H' := Aside0.mk H
         clear H
         go_wp2
         repeat (go_quiet (fail); try go_wp2)
         go_meet
         case rel => exact ⟨_, (false), y7_, H', ⟨by have := HJ6.out; first | omega | exact Nat.le_refl _⟩, y8_⟩
       case rest =>
        clear HC12
        try clear c1
        try clear p2
        try clear c3
        try clear c3b0
        try clear c4
        try clear c4b0
        try clear p5
        try clear q5
        try clear hx5
        try clear c6
        try clear c6b0
        try clear p6
        try clear c8
        try clear c8b0
        try clear c9
        try clear c9b0
        try clear c11
        try clear c13
        try clear c13b0
        try clear c14
        try clear c14b0
        try clear p2
        try clear p5
        try clear p6
        try clear q5
        obtain ⟨kq, x27_11, rfl, HA, HJ11, ⟨mc11, rfl⟩⟩ := hcut
        cases kq with
        | zero => exact absurd HA.out (by simp [manometerref05_step.j1])
        | succ kj11 =>
         have H := HA.out
         clear HA
         simp only [manometerref05_step.j1] at H
         by_cases c16 : x27_11 = true
         ·subst c16
          have H1 : (if 0 ≤ (wrap64 (a1 + 1)) then (if (wrap64 (a1 + 1)) < (a0.size : Int) then (if 0 ≤ (wrap64 (a1 + 2)) then (if (wrap64 (a1 + 2)) < (a0.size : Int) then (if (wrap64 ((wrap64 ((wrap64 ((wrap64 (Int.tmod (bt a0 a1) 16)) * 4096)) + (wrap64 ((wrap64 (Int.tmod (bt a0 (wrap64 (a1 + 1))) 64)) * 64)))) + (wrap64 (Int.tmod (bt a0 (wrap64 (a1 + 2))) 64)))) ≥ 2048 then (if (wrap64 ((wrap64 ((wrap64 ((wrap64 (Int.tmod (bt a0 a1) 16)) * 4096)) + (wrap64 ((wrap64 (Int.tmod (bt a0 (wrap64 (a1 + 1))) 64)) * 64)))) + (wrap64 (Int.tmod (bt a0 (wrap64 (a1 + 2))) 64)))) < 55296 then (some 3) else (if (wrap64 ((wrap64 ((wrap64 ((wrap64 (Int.tmod (bt a0 a1) 16)) * 4096)) + (wrap64 ((wrap64 (Int.tmod (bt a0 (wrap64 (a1 + 1))) 64)) * 64)))) + (wrap64 (Int.tmod (bt a0 (wrap64 (a1 + 2))) 64)))) > 57343 then (some 3) else (some 0))) else (some 0)) else (none)) else (none)) else (none)) else (none)) = some r := by rw [if_pos rfl] at H; exact H
          clear H
          have H := H1
          clear H1
          obtain ⟨ji17, hji17⟩ : ∃ j_ : Int, (wrap64 (a1 + 1)) = j_ := ⟨_, rfl⟩
          replace H : (if 0 ≤ (ji17) then (if (ji17) < (a0.size : Int) then (if 0 ≤ (wrap64 (a1 + 2)) then (if (wrap64 (a1 + 2)) < (a0.size : Int) then (if (wrap64 ((wrap64 ((wrap64 ((wrap64 (Int.tmod (bt a0 a1) 16)) * 4096)) + (wrap64 ((wrap64 (Int.tmod (bt a0 (ji17)) 64)) * 64)))) + (wrap64 (Int.tmod (bt a0 (wrap64 (a1 + 2))) 64)))) ≥ 2048 then (if (wrap64 ((wrap64 ((wrap64 ((wrap64 (Int.tmod (bt a0 a1) 16)) * 4096)) + (wrap64 ((wrap64 (Int.tmod (bt a0 (ji17)) 64)) * 64)))) + (wrap64 (Int.tmod (bt a0 (wrap64 (a1 + 2))) 64)))) < 55296 then (some 3) else (if (wrap64 ((wrap64 ((wrap64 ((wrap64 (Int.tmod (bt a0 a1) 16)) * 4096)) + (wrap64 ((wrap64 (Int.tmod (bt a0 (ji17)) 64)) * 64)))) + (wrap64 (Int.tmod (bt a0 (wrap64 (a1 + 2))) 64)))) > 57343 then (some 3) else (some 0))) else (some 0)) else (none)) else (none)) else (none)) else (none)) = some r := by first | (rw [hji17] at H; exact H) | (simp only [hji17] at H ⊢; exact H)
          have hji17w : (IntKind.i64.wrap (a1 + 1)) = ji17 := (i64_w _).trans hji17
          by_cases c18 : 0 ≤ (ji17)
          ·rw [if_pos c18] at H
           have c18b0 : decide (0 ≤ (ji17)) = true := decide_eq_true c18
           clear c18
           by_cases c19 : (ji17) < (a0.size : Int)
           ·rw [if_pos c19] at H
            have c19b0 : decide ((ji17) < (a0.size : Int)) = true := decide_eq_true c19
            clear c19
            obtain ⟨ji21, hji21⟩ : ∃ j_ : Int, (wrap64 (a1 + 2)) = j_ := ⟨_, rfl⟩
            replace H : (if 0 ≤ (ji21) then (if (ji21) < (a0.size : Int) then (if (wrap64 ((wrap64 ((wrap64 ((wrap64 (Int.tmod (bt a0 a1) 16)) * 4096)) + (wrap64 ((wrap64 (Int.tmod (bt a0 (ji17)) 64)) * 64)))) + (wrap64 (Int.tmod (bt a0 (ji21)) 64)))) ≥ 2048 then (if (wrap64 ((wrap64 ((wrap64 ((wrap64 (Int.tmod (bt a0 a1) 16)) * 4096)) + (wrap64 ((wrap64 (Int.tmod (bt a0 (ji17)) 64)) * 64)))) + (wrap64 (Int.tmod (bt a0 (ji21)) 64)))) < 55296 then (some 3) else (if (wrap64 ((wrap64 ((wrap64 ((wrap64 (Int.tmod (bt a0 a1) 16)) * 4096)) + (wrap64 ((wrap64 (Int.tmod (bt a0 (ji17)) 64)) * 64)))) + (wrap64 (Int.tmod (bt a0 (ji21)) 64)))) > 57343 then (some 3) else (some 0))) else (some 0)) else (none)) else (none)) = some r := by first | (rw [hji21] at H; exact H) | (simp only [hji21] at H ⊢; exact H)
            have hji21w : (IntKind.i64.wrap (a1 + 2)) = ji21 := (i64_w _).trans hji21
            by_cases c22 : 0 ≤ (ji21)
            ·rw [if_pos c22] at H
             have c22b0 : decide (0 ≤ (ji21)) = true := decide_eq_true c22
             clear c22
             by_cases c23 : (ji21) < (a0.size : Int)
             ·rw [if_pos c23] at H
              have c23b0 : decide ((ji21) < (a0.size : Int)) = true := decide_eq_true c23
              clear c23
              by_cases c25 : (wrap64 ((wrap64 ((wrap64 ((wrap64 (Int.tmod (bt a0 a1) 16)) * 4096)) + (wrap64 ((wrap64 (Int.tmod (bt a0 (ji17)) 64)) * 64)))) + (wrap64 (Int.tmod (bt a0 (ji21)) 64)))) ≥ 2048
              ·rw [if_pos c25] at H
               have c25b0 : decide (2048 ≤ (wrap64 ((wrap64 ((wrap64 ((wrap64 (Int.tmod (bt a0 a1) 16)) * 4096)) + (wrap64 ((wrap64 (Int.tmod (bt a0 (ji17)) 64)) * 64)))) + (wrap64 (Int.tmod (bt a0 (ji21)) 64))))) = true := decide_eq_true c25
               clear c25
               by_cases c26 : (wrap64 ((wrap64 ((wrap64 ((wrap64 (Int.tmod (bt a0 a1) 16)) * 4096)) + (wrap64 ((wrap64 (Int.tmod (bt a0 (ji17)) 64)) * 64)))) + (wrap64 (Int.tmod (bt a0 (ji21)) 64)))) < 55296
               ·rw [if_pos c26] at H
                have c26b0 : decide ((wrap64 ((wrap64 ((wrap64 ((wrap64 (Int.tmod (bt a0 a1) 16)) * 4096)) + (wrap64 ((wrap64 (Int.tmod (bt a0 (ji17)) 64)) * 64)))) + (wrap64 (Int.tmod (bt a0 (ji21)) 64)))) < 55296) = true := decide_eq_true c26
                clear c26
                obtain rfl := Option.some.inj H
                have p20 : 0 ≤ ((ji17) : Int) := of_decide_eq_true y2_
                have q20 : (ji17) < (a0.size : Int) := of_decide_eq_true y2_
                have hx20 := bt_at a0 (ji17)
                replace p20 := eq_true p20
                replace q20 := eq_true q20
                have p24 : 0 ≤ ((ji21) : Int) := of_decide_eq_true y2_
                have q24 : (ji21) < (a0.size : Int) := of_decide_eq_true y2_
                have hx24 := bt_at a0 (ji21)
                replace p24 := eq_true p24
                replace q24 := eq_true q24
                go_wp2
                repeat (go_quiet (fail); try go_wp2)
                go_ret
                exact ⟨y68_, y8_⟩
               ·rw [if_neg c26] at H
                have c26b0 : decide ((wrap64 ((wrap64 ((wrap64 ((wrap64 (Int.tmod (bt a0 a1) 16)) * 4096)) + (wrap64 ((wrap64 (Int.tmod (bt a0 (ji17)) 64)) * 64)))) + (wrap64 (Int.tmod (bt a0 (ji21)) 64)))) < 55296) = false := decide_eq_false c26
                clear c26
                by_cases c27 : (wrap64 ((wrap64 ((wrap64 ((wrap64 (Int.tmod (bt a0 a1) 16)) * 4096)) + (wrap64 ((wrap64 (Int.tmod (bt a0 (ji17)) 64)) * 64)))) + (wrap64 (Int.tmod (bt a0 (ji21)) 64)))) > 57343
                ·rw [if_pos c27] at H
                 have c27b0 : decide (57343 < (wrap64 ((wrap64 ((wrap64 ((wrap64 (Int.tmod (bt a0 a1) 16)) * 4096)) + (wrap64 ((wrap64 (Int.tmod (bt a0 (ji17)) 64)) * 64)))) + (wrap64 (Int.tmod (bt a0 (ji21)) 64))))) = true := decide_eq_true c27
                 clear c27
                 obtain rfl := Option.some.inj H
                 have p20 : 0 ≤ ((ji17) : Int) := of_decide_eq_true y2_
                 have q20 : (ji17) < (a0.size : Int) := of_decide_eq_true y2_
                 have hx20 := bt_at a0 (ji17)
                 replace p20 := eq_true p20
                 replace q20 := eq_true q20
                 have p24 : 0 ≤ ((ji21) : Int) := of_decide_eq_true y2_
                 have q24 : (ji21) < (a0.size : Int) := of_decide_eq_true y2_
                 have hx24 := bt_at a0 (ji21)
                 replace p24 := eq_true p24
                 replace q24 := eq_true q24
                 go_wp2
                 repeat (go_quiet (fail); try go_wp2)
                 go_ret
                 exact ⟨y68_, y8_⟩
                ·rw [if_neg c27] at H
                 have c27b0 : decide (57343 < (wrap64 ((wrap64 ((wrap64 ((wrap64 (Int.tmod (bt a0 a1) 16)) * 4096)) + (wrap64 ((wrap64 (Int.tmod (bt a0 (ji17)) 64)) * 64)))) + (wrap64 (Int.tmod (bt a0 (ji21)) 64))))) = false := decide_eq_false c27
                 clear c27
                 obtain rfl := Option.some.inj H
                 have p20 : 0 ≤ ((ji17) : Int) := of_decide_eq_true y2_
                 have q20 : (ji17) < (a0.size : Int) := of_decide_eq_true y2_
                 have hx20 := bt_at a0 (ji17)
                 replace p20 := eq_true p20
                 replace q20 := eq_true q20
                 have p24 : 0 ≤ ((ji21) : Int) := of_decide_eq_true y2_
                 have q24 : (ji21) < (a0.size : Int) := of_decide_eq_true y2_
                 have hx24 := bt_at a0 (ji21)
                 replace p24 := eq_true p24
                 replace q24 := eq_true q24
                 go_wp2
                 repeat (go_quiet (fail); try go_wp2)
                 go_ret
                 exact ⟨y68_, y8_⟩
              ·rw [if_neg c25] at H
               have c25b0 : decide (2048 ≤ (wrap64 ((wrap64 ((wrap64 ((wrap64 (Int.tmod (bt a0 a1) 16)) * 4096)) + (wrap64 ((wrap64 (Int.tmod (bt a0 (ji17)) 64)) * 64)))) + (wrap64 (Int.tmod (bt a0 (ji21)) 64))))) = false := decide_eq_false c25
               clear c25
               obtain rfl := Option.some.inj H
               have p20 : 0 ≤ ((ji17) : Int) := of_decide_eq_true y2_
               have q20 : (ji17) < (a0.size : Int) := of_decide_eq_true y2_
               have hx20 := bt_at a0 (ji17)
               replace p20 := eq_true p20
               replace q20 := eq_true q20
               have p24 : 0 ≤ ((ji21) : Int) := of_decide_eq_true y2_
               have q24 : (ji21) < (a0.size : Int) := of_decide_eq_true y2_
               have hx24 := bt_at a0 (ji21)
               replace p24 := eq_true p24
               replace q24 := eq_true q24
               go_wp2
               repeat (go_quiet (fail); try go_wp2)
               go_ret
               exact ⟨y68_, y8_⟩
             ·rw [if_neg c23] at H
              exact absurd H (by simp)
            ·rw [if_neg c22] at H
             exact absurd H (by simp)
           ·rw [if_neg c19] at H
            exact absurd H (by simp)
          ·rw [if_neg c18] at H
           exact absurd H (by simp)
         ·replace c16 := Bool.eq_false_iff.mpr c16
          subst c16
          have H1 : (if (bt a0 a1) ≥ 240 then (if (bt a0 a1) < 245 then ((manometerref05_more.f kj11 a0 (wrap64 (a1 + 1)) 3).bind fun t241 => (manometerref05_step.j2 kj11 a0 a1 (bt a0 a1) t241)) else (manometerref05_step.j2 kj11 a0 a1 (bt a0 a1) false)) else (manometerref05_step.j2 kj11 a0 a1 (bt a0 a1) false)) = some r := by rw [if_neg (show ¬ (false = true) by decide)] at H; exact H
          clear H
          have H := H1
          clear H1
          have HC28 := Aside0.mk H
          clear H
          go_upto_region 10 with (fail)
          repeat (go_quiet (fail); go_upto_region 10 with (fail))
          go_cut [69] (fun v69 wc => ∃ (kq : Nat) (x69_27 : Bool), v69 = .bool x69_27 ∧ Aside0 (manometerref05_step.j2 kq a0 a1 (bt a0 a1) x69_27 = some r) ∧ Aside0 (kq ≤ kj11) ∧ Drawn0 w wc)
          case first =>
           have H := HC28.out
           clear HC28
           by_cases c29 : (bt a0 a1) ≥ 240
           ·rw [if_pos c29] at H
            have c29b0 : decide (240 ≤ (bt a0 a1)) = true := decide_eq_true c29
            clear c29
            (first | rw [c29b0] | (simp only [i64_w, i32_w]; rw [c29b0]) | skip)
            by_cases c30 : (bt a0 a1) < 245
            ·rw [if_pos c30] at H
             have c30b0 : decide ((bt a0 a1) < 245) = true := decide_eq_true c30
             clear c30
             replace H := Option.bind_eq_some_iff.mp H
             obtain ⟨t241, A310, H⟩ := H
             replace H : (manometerref05_step.j2 kj11 a0 a1 (bt a0 a1) t241) = some r := H
             have A31 := Aside0.mk A310
             clear A310
             have H' := Aside0.mk H
             clear H
             go_wp2_with (first | (go_at_call 68; (with_reducible refine (manometerref05_more.calls kj11 a0 (wrap64 (a1 + 1)) 3 t241 _ A31.out).mono ?_); rintro e w' ⟨rfl, ⟨nd, rfl⟩⟩; (try first | exact ⟨rfl, _, World.drewN_drewN _ _ _⟩ | exact ⟨rfl, _, Eq.trans (World.drewN_drewN _ _ _) (congrArg (World.drewN _) (Nat.add_assoc _ _ _))⟩)))
             repeat (go_quiet (first | (go_at_call 68; (with_reducible refine (manometerref05_more.calls kj11 a0 (wrap64 (a1 + 1)) 3 t241 _ A31.out).mono ?_); rintro e w' ⟨rfl, ⟨nd, rfl⟩⟩; (try first | exact ⟨rfl, _, World.drewN_drewN _ _ _⟩ | exact ⟨rfl, _, Eq.trans (World.drewN_drewN _ _ _) (congrArg (World.drewN _) (Nat.add_assoc _ _ _))⟩))); try go_wp2_with (first | (go_at_call 68; (with_reducible refine (manometerref05_more.calls kj11 a0 (wrap64 (a1 + 1)) 3 t241 _ A31.out).mono ?_); rintro e w' ⟨rfl, ⟨nd, rfl⟩⟩; (try first | exact ⟨rfl, _, World.drewN_drewN _ _ _⟩ | exact ⟨rfl, _, Eq.trans (World.drewN_drewN _ _ _) (congrArg (World.drewN _) (Nat.add_assoc _ _ _))⟩))))
             go_meet
             case rel => exact ⟨_, (t241), y7_, H', ⟨by have := HJ6.out; have := HJ11.out; first | omega | exact Nat.le_refl _⟩, y8_⟩
            ·rw [if_neg c30] at H
             have c30b0 : decide ((bt a0 a1) < 245) = false := decide_eq_false c30
             clear c30
             have H' := Aside0.mk H
             clear H
             go_wp2
             repeat (go_quiet (fail); try go_wp2)
             go_meet
             case rel => exact ⟨_, (false), y7_, H', ⟨by have := HJ6.out; have := HJ11.out; first | omega | exact Nat.le_refl _⟩, y8_⟩
           ·rw [if_neg c29] at H
            have c29b0 : decide (240 ≤ (bt a0 a1)) = false := decide_eq_false c29
            clear c29
            (first | rw [c29b0] | (simp only [i64_w, i32_w]; rw [c29b0]) | skip)
            have H' := Aside0.mk H
            clear H
            go_wp2
            repeat (go_quiet (fail); try go_wp2)
            go_meet
            case rel => exact ⟨_, (false), y7_, H', ⟨by have := HJ6.out; have := HJ11.out; first | omega | exact Nat.le_refl _⟩, y8_⟩
          case rest =>
           clear HC28
           try clear c1
           try clear c2
           try clear p2
           try clear q2
           try clear hx2
           try clear c3
           try clear c3b0
           try clear c4
           try clear c4b0
           try clear p5
           try clear q5
           try clear hx5
           try clear c6
           try clear c6b0
           try clear p6
           try clear c8
           try clear c8b0
           try clear c9
           try clear c9b0
           try clear c11
           try clear c13
           try clear c13b0
           try clear c14
           try clear c14b0
           try clear c16
           try clear c18
           try clear c18b0
           try clear c19
           try clear c19b0
           try clear p20
           try clear q20
           try clear hx20
           try clear c22
           try clear c22b0
           try clear c23
           try clear c23b0
           try clear p24
           try clear q24
           try clear hx24
           try clear c25
           try clear c25b0
           try clear c26
           try clear c26b0
           try clear c27
           try clear c27b0
           try clear c29
           try clear c29b0
           try clear c30
           try clear c30b0
           try clear p2
           try clear p20
           try clear p24
           try clear p5
           try clear p6
           try clear q20
           try clear q24
           try clear q5
           obtain ⟨kq, x69_27, rfl, HA, HJ27, ⟨mc27, rfl⟩⟩ := hcut
           cases kq with
           | zero => exact absurd HA.out (by simp [manometerref05_step.j2])
           | succ kj27 =>
            have H := HA.out
            clear HA
            simp only [manometerref05_step.j2] at H
            by_cases c32 : x69_27 = true
            ·subst c32
             have H1 : (if 0 ≤ (wrap64 (a1 + 1)) then (if (wrap64 (a1 + 1)) < (a0.size : Int) then (if 0 ≤ (wrap64 (a1 + 2)) then (if (wrap64 (a1 + 2)) < (a0.size : Int) then (if 0 ≤ (wrap64 (a1 + 3)) then (if (wrap64 (a1 + 3)) < (a0.size : Int) then (if (wrap64 ((wrap64 ((wrap64 ((wrap64 ((wrap64 (Int.tmod (bt a0 a1) 8)) * 262144)) + (wrap64 ((wrap64 (Int.tmod (bt a0 (wrap64 (a1 + 1))) 64)) * 4096)))) + (wrap64 ((wrap64 (Int.tmod (bt a0 (wrap64 (a1 + 2))) 64)) * 64)))) + (wrap64 (Int.tmod (bt a0 (wrap64 (a1 + 3))) 64)))) ≥ 65536 then (if (wrap64 ((wrap64 ((wrap64 ((wrap64 ((wrap64 (Int.tmod (bt a0 a1) 8)) * 262144)) + (wrap64 ((wrap64 (Int.tmod (bt a0 (wrap64 (a1 + 1))) 64)) * 4096)))) + (wrap64 ((wrap64 (Int.tmod (bt a0 (wrap64 (a1 + 2))) 64)) * 64)))) + (wrap64 (Int.tmod (bt a0 (wrap64 (a1 + 3))) 64)))) ≤ 1114111 then (some 4) else (some 0)) else (some 0)) else (none)) else (none)) else (none)) else (none)) else (none)) else (none)) = some r := by rw [if_pos rfl] at H; exact H
             clear H
             have H := H1
             clear H1
             obtain ⟨ji33, hji33⟩ : ∃ j_ : Int, (wrap64 (a1 + 1)) = j_ := ⟨_, rfl⟩
             replace H : (if 0 ≤ (ji33) then (if (ji33) < (a0.size : Int) then (if 0 ≤ (wrap64 (a1 + 2)) then (if (wrap64 (a1 + 2)) < (a0.size : Int) then (if 0 ≤ (wrap64 (a1 + 3)) then (if (wrap64 (a1 + 3)) < (a0.size : Int) then (if (wrap64 ((wrap64 ((wrap64 ((wrap64 ((wrap64 (Int.tmod (bt a0 a1) 8)) * 262144)) + (wrap64 ((wrap64 (Int.tmod (bt a0 (ji33)) 64)) * 4096)))) + (wrap64 ((wrap64 (Int.tmod (bt a0 (wrap64 (a1 + 2))) 64)) * 64)))) + (wrap64 (Int.tmod (bt a0 (wrap64 (a1 + 3))) 64)))) ≥ 65536 then (if (wrap64 ((wrap64 ((wrap64 ((wrap64 ((wrap64 (Int.tmod (bt a0 a1) 8)) * 262144)) + (wrap64 ((wrap64 (Int.tmod (bt a0 (ji33)) 64)) * 4096)))) + (wrap64 ((wrap64 (Int.tmod (bt a0 (wrap64 (a1 + 2))) 64)) * 64)))) + (wrap64 (Int.tmod (bt a0 (wrap64 (a1 + 3))) 64)))) ≤ 1114111 then (some 4) else (some 0)) else (some 0)) else (none)) else (none)) else (none)) else (none)) else (none)) else (none)) = some r := by first | (rw [hji33] at H; exact H) | (simp only [hji33] at H ⊢; exact H)
             have hji33w : (IntKind.i64.wrap (a1 + 1)) = ji33 := (i64_w _).trans hji33
             by_cases c34 : 0 ≤ (ji33)
             ·rw [if_pos c34] at H
              have c34b0 : decide (0 ≤ (ji33)) = true := decide_eq_true c34
              clear c34
              by_cases c35 : (ji33) < (a0.size : Int)
              ·rw [if_pos c35] at H
               have c35b0 : decide ((ji33) < (a0.size : Int)) = true := decide_eq_true c35
               clear c35
               obtain ⟨ji37, hji37⟩ : ∃ j_ : Int, (wrap64 (a1 + 2)) = j_ := ⟨_, rfl⟩
               replace H : (if 0 ≤ (ji37) then (if (ji37) < (a0.size : Int) then (if 0 ≤ (wrap64 (a1 + 3)) then (if (wrap64 (a1 + 3)) < (a0.size : Int) then (if (wrap64 ((wrap64 ((wrap64 ((wrap64 ((wrap64 (Int.tmod (bt a0 a1) 8)) * 262144)) + (wrap64 ((wrap64 (Int.tmod (bt a0 (ji33)) 64)) * 4096)))) + (wrap64 ((wrap64 (Int.tmod (bt a0 (ji37)) 64)) * 64)))) + (wrap64 (Int.tmod (bt a0 (wrap64 (a1 + 3))) 64)))) ≥ 65536 then (if (wrap64 ((wrap64 ((wrap64 ((wrap64 ((wrap64 (Int.tmod (bt a0 a1) 8)) * 262144)) + (wrap64 ((wrap64 (Int.tmod (bt a0 (ji33)) 64)) * 4096)))) + (wrap64 ((wrap64 (Int.tmod (bt a0 (ji37)) 64)) * 64)))) + (wrap64 (Int.tmod (bt a0 (wrap64 (a1 + 3))) 64)))) ≤ 1114111 then (some 4) else (some 0)) else (some 0)) else (none)) else (none)) else (none)) else (none)) = some r := by first | (rw [hji37] at H; exact H) | (simp only [hji37] at H ⊢; exact H)
               have hji37w : (IntKind.i64.wrap (a1 + 2)) = ji37 := (i64_w _).trans hji37
               by_cases c38 : 0 ≤ (ji37)
               ·rw [if_pos c38] at H
                have c38b0 : decide (0 ≤ (ji37)) = true := decide_eq_true c38
                clear c38
                by_cases c39 : (ji37) < (a0.size : Int)
                ·rw [if_pos c39] at H
                 have c39b0 : decide ((ji37) < (a0.size : Int)) = true := decide_eq_true c39
                 clear c39
                 obtain ⟨ji41, hji41⟩ : ∃ j_ : Int, (wrap64 (a1 + 3)) = j_ := ⟨_, rfl⟩
                 replace H : (if 0 ≤ (ji41) then (if (ji41) < (a0.size : Int) then (if (wrap64 ((wrap64 ((wrap64 ((wrap64 ((wrap64 (Int.tmod (bt a0 a1) 8)) * 262144)) + (wrap64 ((wrap64 (Int.tmod (bt a0 (ji33)) 64)) * 4096)))) + (wrap64 ((wrap64 (Int.tmod (bt a0 (ji37)) 64)) * 64)))) + (wrap64 (Int.tmod (bt a0 (ji41)) 64)))) ≥ 65536 then (if (wrap64 ((wrap64 ((wrap64 ((wrap64 ((wrap64 (Int.tmod (bt a0 a1) 8)) * 262144)) + (wrap64 ((wrap64 (Int.tmod (bt a0 (ji33)) 64)) * 4096)))) + (wrap64 ((wrap64 (Int.tmod (bt a0 (ji37)) 64)) * 64)))) + (wrap64 (Int.tmod (bt a0 (ji41)) 64)))) ≤ 1114111 then (some 4) else (some 0)) else (some 0)) else (none)) else (none)) = some r := by first | (rw [hji41] at H; exact H) | (simp only [hji41] at H ⊢; exact H)
                 have hji41w : (IntKind.i64.wrap (a1 + 3)) = ji41 := (i64_w _).trans hji41
                 by_cases c42 : 0 ≤ (ji41)
                 ·rw [if_pos c42] at H
                  have c42b0 : decide (0 ≤ (ji41)) = true := decide_eq_true c42
                  clear c42
                  by_cases c43 : (ji41) < (a0.size : Int)
                  ·rw [if_pos c43] at H
                   have c43b0 : decide ((ji41) < (a0.size : Int)) = true := decide_eq_true c43
                   clear c43
                   by_cases c45 : (wrap64 ((wrap64 ((wrap64 ((wrap64 ((wrap64 (Int.tmod (bt a0 a1) 8)) * 262144)) + (wrap64 ((wrap64 (Int.tmod (bt a0 (ji33)) 64)) * 4096)))) + (wrap64 ((wrap64 (Int.tmod (bt a0 (ji37)) 64)) * 64)))) + (wrap64 (Int.tmod (bt a0 (ji41)) 64)))) ≥ 65536
                   ·rw [if_pos c45] at H
                    have c45b0 : decide (65536 ≤ (wrap64 ((wrap64 ((wrap64 ((wrap64 ((wrap64 (Int.tmod (bt a0 a1) 8)) * 262144)) + (wrap64 ((wrap64 (Int.tmod (bt a0 (ji33)) 64)) * 4096)))) + (wrap64 ((wrap64 (Int.tmod (bt a0 (ji37)) 64)) * 64)))) + (wrap64 (Int.tmod (bt a0 (ji41)) 64))))) = true := decide_eq_true c45
                    clear c45
                    by_cases c46 : (wrap64 ((wrap64 ((wrap64 ((wrap64 ((wrap64 (Int.tmod (bt a0 a1) 8)) * 262144)) + (wrap64 ((wrap64 (Int.tmod (bt a0 (ji33)) 64)) * 4096)))) + (wrap64 ((wrap64 (Int.tmod (bt a0 (ji37)) 64)) * 64)))) + (wrap64 (Int.tmod (bt a0 (ji41)) 64)))) ≤ 1114111
                    ·rw [if_pos c46] at H
                     have c46b0 : decide ((wrap64 ((wrap64 ((wrap64 ((wrap64 ((wrap64 (Int.tmod (bt a0 a1) 8)) * 262144)) + (wrap64 ((wrap64 (Int.tmod (bt a0 (ji33)) 64)) * 4096)))) + (wrap64 ((wrap64 (Int.tmod (bt a0 (ji37)) 64)) * 64)))) + (wrap64 (Int.tmod (bt a0 (ji41)) 64)))) ≤ 1114111) = true := decide_eq_true c46
                     clear c46
                     obtain rfl := Option.some.inj H
                     have p36 : 0 ≤ ((ji33) : Int) := of_decide_eq_true y2_
                     have q36 : (ji33) < (a0.size : Int) := of_decide_eq_true y2_
                     have hx36 := bt_at a0 (ji33)
                     replace p36 := eq_true p36
                     replace q36 := eq_true q36
                     have p40 : 0 ≤ ((ji37) : Int) := of_decide_eq_true y2_
                     have q40 : (ji37) < (a0.size : Int) := of_decide_eq_true y2_
                     have hx40 := bt_at a0 (ji37)
                     replace p40 := eq_true p40
                     replace q40 := eq_true q40
                     have p44 : 0 ≤ ((ji41) : Int) := of_decide_eq_true y2_
                     have q44 : (ji41) < (a0.size : Int) := of_decide_eq_true y2_
                     have hx44 := bt_at a0 (ji41)
                     replace p44 := eq_true p44
                     replace q44 := eq_true q44
                     go_wp2
                     repeat (go_quiet (fail); try go_wp2)
                     go_ret
                     exact ⟨y95_, y8_⟩
                    ·rw [if_neg c46] at H
                     have c46b0 : decide ((wrap64 ((wrap64 ((wrap64 ((wrap64 ((wrap64 (Int.tmod (bt a0 a1) 8)) * 262144)) + (wrap64 ((wrap64 (Int.tmod (bt a0 (ji33)) 64)) * 4096)))) + (wrap64 ((wrap64 (Int.tmod (bt a0 (ji37)) 64)) * 64)))) + (wrap64 (Int.tmod (bt a0 (ji41)) 64)))) ≤ 1114111) = false := decide_eq_false c46
                     clear c46
                     obtain rfl := Option.some.inj H
                     have p36 : 0 ≤ ((ji33) : Int) := of_decide_eq_true y2_
                     have q36 : (ji33) < (a0.size : Int) := of_decide_eq_true y2_
                     have hx36 := bt_at a0 (ji33)
                     replace p36 := eq_true p36
                     replace q36 := eq_true q36
                     have p40 : 0 ≤ ((ji37) : Int) := of_decide_eq_true y2_
                     have q40 : (ji37) < (a0.size : Int) := of_decide_eq_true y2_
                     have hx40 := bt_at a0 (ji37)
                     replace p40 := eq_true p40
                     replace q40 := eq_true q40
                     have p44 : 0 ≤ ((ji41) : Int) := of_decide_eq_true y2_
                     have q44 : (ji41) < (a0.size : Int) := of_decide_eq_true y2_
                     have hx44 := bt_at a0 (ji41)
                     replace p44 := eq_true p44
                     replace q44 := eq_true q44
                     go_wp2
                     repeat (go_quiet (fail); try go_wp2)
                     go_ret
                     exact ⟨y95_, y8_⟩
                   ·rw [if_neg c45] at H
                    have c45b0 : decide (65536 ≤ (wrap64 ((wrap64 ((wrap64 ((wrap64 ((wrap64 (Int.tmod (bt a0 a1) 8)) * 262144)) + (wrap64 ((wrap64 (Int.tmod (bt a0 (ji33)) 64)) * 4096)))) + (wrap64 ((wrap64 (Int.tmod (bt a0 (ji37)) 64)) * 64)))) + (wrap64 (Int.tmod (bt a0 (ji41)) 64))))) = false := decide_eq_false c45
                    clear c45
                    obtain rfl := Option.some.inj H
                    have p36 : 0 ≤ ((ji33) : Int) := of_decide_eq_true y2_
                    have q36 : (ji33) < (a0.size : Int) := of_decide_eq_true y2_
                    have hx36 := bt_at a0 (ji33)
                    replace p36 := eq_true p36
                    replace q36 := eq_true q36
                    have p40 : 0 ≤ ((ji37) : Int) := of_decide_eq_true y2_
                    have q40 : (ji37) < (a0.size : Int) := of_decide_eq_true y2_
                    have hx40 := bt_at a0 (ji37)
                    replace p40 := eq_true p40
                    replace q40 := eq_true q40
                    have p44 : 0 ≤ ((ji41) : Int) := of_decide_eq_true y2_
                    have q44 : (ji41) < (a0.size : Int) := of_decide_eq_true y2_
                    have hx44 := bt_at a0 (ji41)
                    replace p44 := eq_true p44
                    replace q44 := eq_true q44
                    go_wp2
                    repeat (go_quiet (fail); try go_wp2)
                    go_ret
                    exact ⟨y95_, y8_⟩
                  ·rw [if_neg c43] at H
                   exact absurd H (by simp)
                 ·rw [if_neg c42] at H
                  exact absurd H (by simp)
                ·rw [if_neg c39] at H
                 exact absurd H (by simp)
               ·rw [if_neg c38] at H
                exact absurd H (by simp)
              ·rw [if_neg c35] at H
               exact absurd H (by simp)
             ·rw [if_neg c34] at H
              exact absurd H (by simp)
            ·replace c32 := Bool.eq_false_iff.mpr c32
             subst c32
             have H1 : (some 0) = some r := by rw [if_neg (show ¬ (false = true) by decide)] at H; exact H
             clear H
             have H := H1
             clear H1
             obtain rfl := Option.some.inj H
             go_wp2
             repeat (go_quiet (fail); try go_wp2)
             go_ret
             exact ⟨y17_, y8_⟩
  ·rw [if_neg c4] at H
   exact absurd H (by simp)
 ·rw [if_neg c3] at H
  exact absurd H (by simp)
def manometerref05_Valid.l0 : Nat → ByteArray → Int → Option (Bool)
 | 0, _, _ => none
 | k + 1, x0, x3 => if x3 < (x0.size : Int) then ((manometerref05_step.f k x0 x3).bind fun t242 => (if t242 = 0 then (some false) else (manometerref05_Valid.l0 k x0 (wrap64 (x3 + t242))))) else (some true)
def manometerref05_Valid.f (k : Nat) (a0 : ByteArray) : Option (Bool) := manometerref05_Valid.l0 k a0 0
set_option maxHeartbeats 8000000 in
set_option maxRecDepth 100000 in
theorem manometerref05_Valid.calls (k : Nat) (a0 : ByteArray) (r : Bool) (w : World) (h : manometerref05_Valid.f k a0 = some r) :
  Calls Tryd.prog 63 #[.string a0] w fun e w' => e = .returned (.bool r) ∧ Drawn0 w w' := by
 have H : (manometerref05_Valid.l0 k a0 0) = some r := h
 clear h
 have H' := Aside0.mk H
 clear H
 go_enter Tryd.func63, Tryd.ntmps63
 go_wp2
 go_loopg [3] k (fun kq v3 w' => ∃ (x3_1 : Int), v3 = .int .i64 x3_1 ∧ Aside0 (manometerref05_Valid.l0 kq a0 x3_1 = some r) ∧ Aside0 (kq ≤ k) ∧ Drawn0 w w')
 case atStart => exact ⟨(0), y7_, H', ⟨Nat.le_refl _⟩, y8_⟩
 case round =>
  clear H'
  obtain ⟨x3_1, rfl, HA, HK1, ⟨m1, rfl⟩⟩ := hrel
  cases gk with
  | zero => exact absurd HA.out (by simp [manometerref05_Valid.l0])
  | succ k1 =>
   have H := HA.out
   clear HA
   simp only [manometerref05_Valid.l0] at H
   by_cases c2 : x3_1 < (a0.size : Int)
   ·rw [if_pos c2] at H
    have c2b0 : decide (x3_1 < (a0.size : Int)) = true := decide_eq_true c2
    clear c2
    replace H := Option.bind_eq_some_iff.mp H
    obtain ⟨t242, A30, H⟩ := H
    replace H : (if t242 = 0 then (some false) else (manometerref05_Valid.l0 k1 a0 (wrap64 (x3_1 + t242)))) = some r := H
    have A3 := Aside0.mk A30
    clear A30
    by_cases c4 : t242 = 0
    ·rw [if_pos c4] at H
     have c4b0 : (t242 == 0) = true := beq_iff_eq.mpr c4
     have c4b1 : (t242 != 0) = false := bne_eq_false_iff_eq.mpr c4
     clear c4
     obtain rfl := Option.some.inj H
     go_wp2_with (first | ((with_reducible refine gate_callee (f := 66) rfl ?_); refine goesL_ (some 11) rfl rfl Tryd.func66 (by kernel_rfl) rfl #[.string a0, .int .i64 x3_1] rfl y3_ ?_; (with_reducible refine (manometerref05_step.calls k1 a0 x3_1 t242 _ A3.out).mono ?_); rintro e w' ⟨rfl, ⟨nd, rfl⟩⟩; refine ⟨_, rfl, ?_⟩))
     go_ret
     exact ⟨y17_, y8_⟩
    ·rw [if_neg c4] at H
     have c4b0 : (t242 == 0) = false := beq_eq_false_iff_ne.mpr c4
     have c4b1 : (t242 != 0) = true := bne_iff_ne.mpr c4
     have H' := Aside0.mk H
     clear H
     go_wp2_with (first | ((with_reducible refine gate_callee (f := 66) rfl ?_); refine goesL_ (some 11) rfl rfl Tryd.func66 (by kernel_rfl) rfl #[.string a0, .int .i64 x3_1] rfl y3_ ?_; (with_reducible refine (manometerref05_step.calls k1 a0 x3_1 t242 _ A3.out).mono ?_); rintro e w' ⟨rfl, ⟨nd, rfl⟩⟩; refine ⟨_, rfl, ?_⟩))
     go_roundg k1
     case measure => have := HK1.out; omega
     case rel => exact ⟨(wrap64 (x3_1 + t242)), y7_, H', ⟨y109_⟩, y8_⟩
   ·rw [if_neg c2] at H
    have c2b0 : decide (x3_1 < (a0.size : Int)) = false := decide_eq_false c2
    clear c2
    obtain rfl := Option.some.inj H
    go_wp2
    go_ret
    exact ⟨y17_, y8_⟩
end Go.Proofs.YtdckhaejhfkkbaaDoor.PRT
