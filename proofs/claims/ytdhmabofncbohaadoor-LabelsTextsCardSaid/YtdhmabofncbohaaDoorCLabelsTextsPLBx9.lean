import Derived.Test.YtdhmabofncbohaaDoorCLabelsTextsPLAx1
import Derived.Test.YtdhmabofncbohaaDoorCLabelsTextsPLBx2
import Derived.Test.YtdhmabofncbohaaDoorCLabelsTextsPLBx6
import Derived.Test.YtdhmabofncbohaaDoorCLabelsTextsPLBx7
import Derived.Test.YtdhmabofncbohaaDoorCLabelsTextsPLBx8
namespace Go.Proofs.YtdhmabofncbohaaDoor.PLB
open Go.RowKit Go.Proofs.YtdhmabofncbohaaDoorW.PrintWords Go.Proofs.YtdhmabofncbohaaDoorW.PrintLast Go.Proofs.YtdhmabofncbohaaDoorW.PrintMore
attribute [local go_sem] max2_int min2_int max_two min_two max_three min_three max_four min_four
set_option linter.unusedVariables false
set_option linter.unusedSimpArgs false
mutual
def manometerref05_Unquote.l0 : Nat → ByteArray → List Int → Int → Option (ByteArray × Int × Int)
 | 0, _, _, _ => none
 | k + 1, x0, x5, x6 => if x6 < (x0.size : Int) then (if 0 ≤ x6 then (if (bt x0 x6) = 34 then (some (strOfNums x5, wrap64 (x6 + 1), 0)) else (if (bt x0 x6) = 10 then (some ((⟨#[]⟩ : ByteArray), 0, 8)) else (if (bt x0 x6) = 92 then (if (wrap64 (x6 + 1)) = (x0.size : Int) then (some ((⟨#[]⟩ : ByteArray), 0, 6)) else (if 0 ≤ (wrap64 (x6 + 1)) then (if (wrap64 (x6 + 1)) < (x0.size : Int) then (if (bt x0 (wrap64 (x6 + 1))) = 34 then (manometerref05_Unquote.j1 k x0 x5 (wrap64 (x6 + 1)) (bt x0 (wrap64 (x6 + 1))) false) else (if (bt x0 (wrap64 (x6 + 1))) = 92 then (manometerref05_Unquote.j1 k x0 x5 (wrap64 (x6 + 1)) (bt x0 (wrap64 (x6 + 1))) false) else (manometerref05_Unquote.j1 k x0 x5 (wrap64 (x6 + 1)) (bt x0 (wrap64 (x6 + 1))) ((bt x0 (wrap64 (x6 + 1))) != 110)))) else (none)) else (none))) else (if x5.length < 140737488355328 then (manometerref05_Unquote.l0 k x0 (x5 ++ [bt x0 x6]) (wrap64 (x6 + 1))) else (none))))) else (none)) else (some ((⟨#[]⟩ : ByteArray), 0, 6))
def manometerref05_Unquote.j1 : Nat → ByteArray → List Int → Int → Int → Bool → Option (ByteArray × Int × Int)
 | 0, _, _, _, _, _ => none
 | k + 1, x0, x5, x6, x7, x52 => if x52 = true then (some ((⟨#[]⟩ : ByteArray), 0, 8)) else (if x7 = 110 then (if x5.length < 140737488355328 then (manometerref05_Unquote.l0 k x0 (x5 ++ [10]) (wrap64 (x6 + 1))) else (none)) else (if x5.length < 140737488355328 then (manometerref05_Unquote.l0 k x0 (x5 ++ [x7]) (wrap64 (x6 + 1))) else (none)))
end
def manometerref05_Unquote.f (k : Nat) (a0 : ByteArray) : Option (ByteArray × Int × Int) := if a0.toList = ([] : List UInt8) then (some ((⟨#[]⟩ : ByteArray), 0, 6)) else (if 0 < (a0.size : Int) then (if (bt a0 0) = 34 then (manometerref05_Unquote.l0 k a0 (([] : List Int)) 1) else (some ((⟨#[]⟩ : ByteArray), 0, 8))) else (none))
set_option maxHeartbeats 8000000 in
set_option maxRecDepth 100000 in
theorem manometerref05_Unquote.calls (k : Nat) (a0 : ByteArray) (r1 : ByteArray) (r2 : Int) (r3 : Int) (w : World) (h : manometerref05_Unquote.f k a0 = some (r1, r2, r3)) :
  Calls Tryd.prog 21 #[.string a0] w fun e w' => e = .returned (.tuple #[.string r1, .int .i64 r2, .int .i64 r3]) ∧ Below w.heap.size w w' := by
 have HB := Aside0.mk (Below.refl w.heap.size w)
 have H : (if a0.toList = ([] : List UInt8) then (some ((⟨#[]⟩ : ByteArray), 0, 6)) else (if 0 < (a0.size : Int) then (if (bt a0 0) = 34 then (manometerref05_Unquote.l0 k a0 (([] : List Int)) 1) else (some ((⟨#[]⟩ : ByteArray), 0, 8))) else (none))) = some (r1, r2, r3) := h
 clear h
 by_cases c2 : a0.toList = ([] : List UInt8)
 ·rw [if_pos c2] at H
  have c2b0 : (a0.toList == ([] : List UInt8)) = true := beq_iff_eq.mpr c2
  have c2b1 : (a0.toList != ([] : List UInt8)) = false := bne_eq_false_iff_eq.mpr c2
  clear c2
  simp only [Option.some.injEq, Prod.mk.injEq] at H
  obtain ⟨rfl, rfl, rfl⟩ := H
  go_enter Tryd.func21, Tryd.ntmps21
  go_wp2
  go_ret3
  exact ⟨y7_, y1_⟩
 ·rw [if_neg c2] at H
  have c2b0 : (a0.toList == ([] : List UInt8)) = false := beq_eq_false_iff_ne.mpr c2
  have c2b1 : (a0.toList != ([] : List UInt8)) = true := bne_iff_ne.mpr c2
  by_cases c3 : 0 < (a0.size : Int)
  ·rw [if_pos c3] at H
   have c3b0 : decide (0 < (a0.size : Int)) = true := decide_eq_true c3
   have c3b1 : decide (0 < a0.size) = true := decide_eq_true (by omega)
   clear c3
   by_cases c5 : (bt a0 0) = 34
   ·rw [if_pos c5] at H
    have c5b0 : ((bt a0 0) == 34) = true := beq_iff_eq.mpr c5
    have c5b1 : ((bt a0 0) != 34) = false := bne_eq_false_iff_eq.mpr c5
    clear c5
    obtain ⟨y246, hy246⟩ : ∃ y_ : List Int, y_ = (([] : List Int)) := ⟨_, rfl⟩
    replace H : (manometerref05_Unquote.l0 k a0 y246 1) = some (r1, r2, r3) := by first | (rw [hy246]; with_reducible exact H) | (have H2_ := (Option.bind_some _ _).symm.trans H; rw [hy246]; with_reducible exact H2_) | (have H2_ := (Option.bind_some _ _).symm.trans H; with_reducible exact H2_) | with_reducible exact H | (rw [hy246]; exact H) | exact H
    have Ny246 := Aside0.mk hy246
    clear hy246
    have H' := Aside0.mk H
    clear H
    have p4 : 0 ≤ (0 : Int) := (by omega)
    have q4 : 0 < a0.size := y58_
    have hx4 : ∀ h : 0 < a0.size, ((a0[0]'h).toNat : Int) = bt a0 0 := bt_at a0 0
    clear p4
    have qi4 : (0 < (a0.size : Int)) = True := eq_true (of_decide_eq_true y3_)
    replace q4 := eq_true q4
    go_enter Tryd.func21, Tryd.ntmps21
    go_wp2_with (first | ((with_reducible refine gate_dst (N := 13) rfl ?_); refine Kd.R_lit (Kd.int .u8) _ 5 ?hg (N := 13) ?hd (xs := ([] : List Int)) (inner := []) (ok := fun _ => True) (okp := fun _ => True) ?hr ?hp (fun _ hk => hk) trivial (Below.refl _ _) (Nat.le_refl _) (by simp) ?_; (case hd => rfl); (case hg => rfl); (case hr => first | (go_simp; done) | (go_simp; rfl)); (case hp => exact (Reps.none _ _)); intro v247 w6 ho7 hb hg_ hnew_; clear hg_ hnew_; (first | rw [← Ny246.out] at ho7 | (simp only [Int.reduceToNat] at ho7; rw [← Ny246.out] at ho7)); have n0_ := Aside0.mk (Kd.R_lower ho7 (below_size y1_)); have n1_ := Aside0.mk (below_step y1_ hb); clear HB; have HO248 := n0_; have HB := n1_; clear n0_ n1_; clear hb ho7))
    go_loopg [5, 6] k (fun kq v5 v6 w' => ∃ (x5_1 : List Int) (x6_1 : Int), v6 = .int .i64 x6_1 ∧ Aside0 (manometerref05_Unquote.l0 kq a0 x5_1 x6_1 = some (r1, r2, r3)) ∧ Aside0 (kq ≤ k) ∧ Aside0 (Kd.R (Kd.int .u8) 5 w' w.heap.size (fun _ => True) v5 x5_1) ∧ Aside0 (Below w.heap.size w w'))
    case atStart => exact ⟨(y246), (1), y5_, H', ⟨Nat.le_refl _⟩, ⟨by (with_reducible repeat (first | apply Kd.R_alloc | apply Kd.R_drewN | apply Kd.R_drew)); exact HO248.out⟩, ⟨y1_⟩⟩
    case round =>
     clear H'
     try clear c2
     try clear c2b0
     try clear c2b1
     try clear p2
     try clear c3
     try clear c3b0
     try clear c3b1
     try clear p4
     try clear q4
     try clear hx4
     try clear qi4
     try clear c5
     try clear c5b0
     try clear c5b1
     try clear p4
     try clear q4
     obtain ⟨x5_1, x6_1, rfl, HA, HK1, HO_5, HB⟩ := hrel
     cases gk with
     | zero => exact absurd HA.out (by simp [manometerref05_Unquote.l0])
     | succ k1 =>
      have H := HA.out
      clear HA
      simp only [manometerref05_Unquote.l0] at H
      by_cases c8 : x6_1 < (a0.size : Int)
      ·rw [if_pos c8] at H
       have c8b0 : decide (x6_1 < (a0.size : Int)) = true := decide_eq_true c8
       clear c8
       by_cases c9 : 0 ≤ x6_1
       ·rw [if_pos c9] at H
        have c9b0 : decide (0 ≤ x6_1) = true := decide_eq_true c9
        clear c9
        by_cases c11 : (bt a0 x6_1) = 34
        ·rw [if_pos c11] at H
         have c11b0 : ((bt a0 x6_1) == 34) = true := beq_iff_eq.mpr c11
         have c11b1 : ((bt a0 x6_1) != 34) = false := bne_eq_false_iff_eq.mpr c11
         clear c11
         simp only [Option.some.injEq, Prod.mk.injEq] at H
         obtain ⟨rfl, rfl, rfl⟩ := H
         have p10 : 0 ≤ (x6_1 : Int) := of_decide_eq_true y3_
         have q10 : x6_1 < (a0.size : Int) := of_decide_eq_true y3_
         have hx10 := bt_at a0 x6_1
         replace p10 := eq_true p10
         replace q10 := eq_true q10
         have hcv12 := own_string (P := Tryd.prog) Tryd.underlying53 Tryd.underlying5 Tryd.underlying9 (Kd.own_of_R HO_5.out)
         go_wp2
         go_ret3
         exact ⟨y7_, y1_⟩
        ·rw [if_neg c11] at H
         have c11b0 : ((bt a0 x6_1) == 34) = false := beq_eq_false_iff_ne.mpr c11
         have c11b1 : ((bt a0 x6_1) != 34) = true := bne_iff_ne.mpr c11
         by_cases c13 : (bt a0 x6_1) = 10
         ·rw [if_pos c13] at H
          have c13b0 : ((bt a0 x6_1) == 10) = true := beq_iff_eq.mpr c13
          have c13b1 : ((bt a0 x6_1) != 10) = false := bne_eq_false_iff_eq.mpr c13
          clear c13
          simp only [Option.some.injEq, Prod.mk.injEq] at H
          obtain ⟨rfl, rfl, rfl⟩ := H
          have p10 : 0 ≤ (x6_1 : Int) := of_decide_eq_true y3_
          have q10 : x6_1 < (a0.size : Int) := of_decide_eq_true y3_
          have hx10 := bt_at a0 x6_1
          replace p10 := eq_true p10
          replace q10 := eq_true q10
          go_wp2
          go_ret3
          exact ⟨y7_, y1_⟩
         ·rw [if_neg c13] at H
          have c13b0 : ((bt a0 x6_1) == 10) = false := beq_eq_false_iff_ne.mpr c13
          have c13b1 : ((bt a0 x6_1) != 10) = true := bne_iff_ne.mpr c13
          by_cases c14 : (bt a0 x6_1) = 92
          ·rw [if_pos c14] at H
           have c14b0 : ((bt a0 x6_1) == 92) = true := beq_iff_eq.mpr c14
           have c14b1 : ((bt a0 x6_1) != 92) = false := bne_eq_false_iff_eq.mpr c14
           clear c14
           by_cases c15 : (wrap64 (x6_1 + 1)) = (a0.size : Int)
           ·rw [if_pos c15] at H
            have c15b0 : ((wrap64 (x6_1 + 1)) == (a0.size : Int)) = true := beq_iff_eq.mpr c15
            have c15b1 : ((wrap64 (x6_1 + 1)) != (a0.size : Int)) = false := bne_eq_false_iff_eq.mpr c15
            clear c15
            simp only [Option.some.injEq, Prod.mk.injEq] at H
            obtain ⟨rfl, rfl, rfl⟩ := H
            have p10 : 0 ≤ (x6_1 : Int) := of_decide_eq_true y3_
            have q10 : x6_1 < (a0.size : Int) := of_decide_eq_true y3_
            have hx10 := bt_at a0 x6_1
            replace p10 := eq_true p10
            replace q10 := eq_true q10
            go_wp2
            go_ret3
            exact ⟨y7_, y1_⟩
           ·rw [if_neg c15] at H
            have c15b0 : ((wrap64 (x6_1 + 1)) == (a0.size : Int)) = false := beq_eq_false_iff_ne.mpr c15
            have c15b1 : ((wrap64 (x6_1 + 1)) != (a0.size : Int)) = true := bne_iff_ne.mpr c15
            obtain ⟨ji16, hji16⟩ : ∃ j_ : Int, (wrap64 (x6_1 + 1)) = j_ := ⟨_, rfl⟩
            replace H : (if 0 ≤ (ji16) then (if (ji16) < (a0.size : Int) then (if (bt a0 (ji16)) = 34 then (manometerref05_Unquote.j1 k1 a0 x5_1 ji16 (bt a0 (ji16)) false) else (if (bt a0 (ji16)) = 92 then (manometerref05_Unquote.j1 k1 a0 x5_1 ji16 (bt a0 (ji16)) false) else (manometerref05_Unquote.j1 k1 a0 x5_1 ji16 (bt a0 (ji16)) ((bt a0 (ji16)) != 110)))) else (none)) else (none)) = some (r1, r2, r3) := by first | (rw [hji16] at H; exact H) | (simp only [hji16] at H ⊢; exact H)
            (try rw [hji16] at c15b0)
            (try rw [hji16] at c15b1)
            have hji16w : (IntKind.i64.wrap (x6_1 + 1)) = ji16 := (i64_w _).trans hji16
            by_cases c17 : 0 ≤ (ji16)
            ·rw [if_pos c17] at H
             have c17b0 : decide (0 ≤ (ji16)) = true := decide_eq_true c17
             clear c17
             by_cases c18 : (ji16) < (a0.size : Int)
             ·rw [if_pos c18] at H
              have c18b0 : decide ((ji16) < (a0.size : Int)) = true := decide_eq_true c18
              clear c18
              have HC20 := Aside0.mk H
              clear H
              have p10 : 0 ≤ (x6_1 : Int) := of_decide_eq_true y3_
              have q10 : x6_1 < (a0.size : Int) := of_decide_eq_true y3_
              have hx10 := bt_at a0 x6_1
              replace p10 := eq_true p10
              replace q10 := eq_true q10
              have p19 : 0 ≤ ((ji16) : Int) := of_decide_eq_true y3_
              have q19 : (ji16) < (a0.size : Int) := of_decide_eq_true y3_
              have hx19 := bt_at a0 (ji16)
              replace p19 := eq_true p19
              replace q19 := eq_true q19
              go_upto_region 20 with (fail)
              go_cut [52] (fun v52 wc => ∃ (kq : Nat) (x52_19 : Bool), v52 = .bool x52_19 ∧ Aside0 (manometerref05_Unquote.j1 kq a0 x5_1 ji16 (bt a0 (ji16)) x52_19 = some (r1, r2, r3)) ∧ Aside0 (kq ≤ k1) ∧ Aside0 (Kd.R (Kd.int .u8) 5 wc w.heap.size (fun _ => True) u5 x5_1) ∧ Aside0 (Below w.heap.size w wc))
              case first =>
               have H := HC20.out
               clear HC20
               by_cases c21 : (bt a0 (ji16)) = 34
               ·rw [if_pos c21] at H
                have c21b0 : ((bt a0 (ji16)) == 34) = true := beq_iff_eq.mpr c21
                have c21b1 : ((bt a0 (ji16)) != 34) = false := bne_eq_false_iff_eq.mpr c21
                clear c21
                (first | rw [c21b0] | (simp only [i64_w, i32_w]; rw [c21b0]) | skip)
                have H' := Aside0.mk H
                clear H
                go_wp2
                go_meet
                case rel => exact ⟨_, (false), y5_, H', ⟨y44_⟩, ⟨y15_⟩, ⟨y1_⟩⟩
               ·rw [if_neg c21] at H
                have c21b0 : ((bt a0 (ji16)) == 34) = false := beq_eq_false_iff_ne.mpr c21
                have c21b1 : ((bt a0 (ji16)) != 34) = true := bne_iff_ne.mpr c21
                (first | rw [c21b0] | (simp only [i64_w, i32_w]; rw [c21b0]) | skip)
                by_cases c22 : (bt a0 (ji16)) = 92
                ·rw [if_pos c22] at H
                 have c22b0 : ((bt a0 (ji16)) == 92) = true := beq_iff_eq.mpr c22
                 have c22b1 : ((bt a0 (ji16)) != 92) = false := bne_eq_false_iff_eq.mpr c22
                 clear c22
                 have H' := Aside0.mk H
                 clear H
                 go_wp2
                 go_meet
                 case rel => exact ⟨_, (false), y5_, H', ⟨y44_⟩, ⟨y15_⟩, ⟨y1_⟩⟩
                ·rw [if_neg c22] at H
                 have c22b0 : ((bt a0 (ji16)) == 92) = false := beq_eq_false_iff_ne.mpr c22
                 have c22b1 : ((bt a0 (ji16)) != 92) = true := bne_iff_ne.mpr c22
                 have H' := Aside0.mk H
                 clear H
                 go_wp2
                 go_meet
                 case rel => exact ⟨_, (((bt a0 (ji16)) != 110)), y77_, H', ⟨y44_⟩, ⟨y15_⟩, ⟨y1_⟩⟩
              case rest =>
               clear HC20
               try clear c1
               try clear p1
               try clear q1
               try clear hx1
               try clear hcv1
               try clear c2
               try clear c2b0
               try clear c2b1
               try clear p2
               try clear c3
               try clear c3b0
               try clear c3b1
               try clear p4
               try clear q4
               try clear hx4
               try clear qi4
               try clear c5
               try clear c5b0
               try clear c5b1
               try clear p6
               try clear c8
               try clear c8b0
               try clear c9
               try clear c9b0
               try clear p10
               try clear q10
               try clear hx10
               try clear c11
               try clear c11b0
               try clear c11b1
               try clear hcv12
               try clear c13
               try clear c13b0
               try clear c13b1
               try clear c14
               try clear c14b0
               try clear c14b1
               try clear c15
               try clear c15b0
               try clear c15b1
               try clear c17
               try clear c17b0
               try clear c18
               try clear c18b0
               try clear p19
               try clear q19
               try clear hx19
               try clear c21
               try clear c21b0
               try clear c21b1
               try clear c22
               try clear c22b0
               try clear c22b1
               try clear p10
               try clear p19
               try clear p2
               try clear p4
               try clear q10
               try clear q19
               try clear q4
               obtain ⟨kq, x52_19, rfl, HA, HJ19, HO_5, HB⟩ := hcut
               cases kq with
               | zero => exact absurd HA.out (by simp [manometerref05_Unquote.j1])
               | succ kj19 =>
                have H := HA.out
                clear HA
                simp only [manometerref05_Unquote.j1] at H
                by_cases c23 : x52_19 = true
                ·subst c23
                 have H1 : (some ((⟨#[]⟩ : ByteArray), 0, 8)) = some (r1, r2, r3) := by rw [if_pos rfl] at H; exact H
                 clear H
                 have H := H1
                 clear H1
                 simp only [Option.some.injEq, Prod.mk.injEq] at H
                 obtain ⟨rfl, rfl, rfl⟩ := H
                 go_wp2
                 go_ret3
                 exact ⟨by first | rfl | (simp [errW_none, errW_some] <;> rfl) | (simp only [← hji16]; first | rfl | (simp [errW_none, errW_some] <;> rfl)) | (simp [*, errW_none, errW_some] <;> rfl), y1_⟩
                ·replace c23 := Bool.eq_false_iff.mpr c23
                 subst c23
                 have H1 : (if (bt a0 (ji16)) = 110 then (if x5_1.length < 140737488355328 then (manometerref05_Unquote.l0 kj19 a0 (x5_1 ++ [10]) (wrap64 (ji16 + 1))) else (none)) else (if x5_1.length < 140737488355328 then (manometerref05_Unquote.l0 kj19 a0 (x5_1 ++ [(bt a0 (ji16))]) (wrap64 (ji16 + 1))) else (none))) = some (r1, r2, r3) := by rw [if_neg (show ¬ (false = true) by decide)] at H; exact H
                 clear H
                 have H := H1
                 clear H1
                 by_cases c24 : (bt a0 (ji16)) = 110
                 ·rw [if_pos c24] at H
                  have c24b0 : ((bt a0 (ji16)) == 110) = true := beq_iff_eq.mpr c24
                  have c24b1 : ((bt a0 (ji16)) != 110) = false := bne_eq_false_iff_eq.mpr c24
                  clear c24
                  by_cases c25 : x5_1.length < 140737488355328
                  ·rw [if_pos c25] at H
                   have LMc25 := Aside0.mk c25
                   clear c25
                   obtain ⟨y249, hy249⟩ : ∃ y_ : List Int, y_ = (x5_1 ++ [10]) := ⟨_, rfl⟩
                   replace H : (manometerref05_Unquote.l0 kj19 a0 y249 (wrap64 (ji16 + 1))) = some (r1, r2, r3) := by first | (rw [hy249]; with_reducible exact H) | (have H2_ := (Option.bind_some _ _).symm.trans H; rw [hy249]; with_reducible exact H2_) | (have H2_ := (Option.bind_some _ _).symm.trans H; with_reducible exact H2_) | with_reducible exact H | (rw [hy249]; exact H) | exact H
                   have Ny249 := Aside0.mk hy249
                   clear hy249
                   have H' := Aside0.mk H
                   clear H
                   go_wp2_with (first | ((with_reducible refine gate_builtin (b := .append) (xs := #[.tmp 55, .tmp 57]) rfl ?_); at_builtin; refine Kd.R_append (Kd.int .u8) (w0 := w) w.heap.size rfl (.tmp 55) (.tmp 57) 53 5 (.int .u8 0) 1 rfl Tryd.underlying53 info5 rfl (by decide) (by omega) u5 x5_1 10 [.int .u8 10] (fun _ => True) (fun _ => False) rfl rfl ?aP (fun _ hk => hk.elim) ?aF ?aO ?aB ?aS ?aL ?_; (case aP => exact rfl); (case aB => exact y1_); (case aF => exact (fun _ _ => trivial)); (case aO => exact y15_); (case aS => exact (below_size y1_)); (case aL => have := LMc25.out; omega); intro v250 w26 ho hb hg hat; rw [← Ny249.out] at ho; have n0_ := Aside0.mk (hb); have n1_ := Aside0.mk (ho); clear HB; clear HO_5; have HB := n0_; have HO251 := n1_; clear n0_ n1_; clear ho hb hg hat))
                   go_roundg kj19
                   case measure => have := HK1.out; have := HJ19.out; omega
                   case rel => exact ⟨(y249), (wrap64 (ji16 + 1)), y77_, H', ⟨by have := HK1.out; have := HJ19.out; omega⟩, ⟨by (with_reducible repeat (first | apply Kd.R_alloc | apply Kd.R_drewN | apply Kd.R_drew)); exact HO251.out⟩, ⟨y1_⟩⟩
                  ·rw [if_neg c25] at H
                   exact absurd H (by simp)
                 ·rw [if_neg c24] at H
                  have c24b0 : ((bt a0 (ji16)) == 110) = false := beq_eq_false_iff_ne.mpr c24
                  have c24b1 : ((bt a0 (ji16)) != 110) = true := bne_iff_ne.mpr c24
                  by_cases c27 : x5_1.length < 140737488355328
                  ·rw [if_pos c27] at H
                   have LMc27 := Aside0.mk c27
                   clear c27
                   obtain ⟨y252, hy252⟩ : ∃ y_ : List Int, y_ = (x5_1 ++ [(bt a0 (ji16))]) := ⟨_, rfl⟩
                   replace H : (manometerref05_Unquote.l0 kj19 a0 y252 (wrap64 (ji16 + 1))) = some (r1, r2, r3) := by first | (rw [hy252]; with_reducible exact H) | (have H2_ := (Option.bind_some _ _).symm.trans H; rw [hy252]; with_reducible exact H2_) | (have H2_ := (Option.bind_some _ _).symm.trans H; with_reducible exact H2_) | with_reducible exact H | (rw [hy252]; exact H) | exact H
                   have Ny252 := Aside0.mk hy252
                   clear hy252
                   have H' := Aside0.mk H
                   clear H
                   go_wp2_with (first | ((with_reducible refine gate_builtin (b := .append) (xs := #[.tmp 55, .tmp 57]) rfl ?_); at_builtin; refine Kd.R_append (Kd.int .u8) (w0 := w) w.heap.size rfl (.tmp 55) (.tmp 57) 53 5 (.int .u8 0) 1 rfl Tryd.underlying53 info5 rfl (by decide) (by omega) u5 x5_1 (bt a0 (ji16)) [.int .u8 (bt a0 (ji16))] (fun _ => True) (fun _ => False) rfl rfl ?aP (fun _ hk => hk.elim) ?aF ?aO ?aB ?aS ?aL ?_; (case aP => exact rfl); (case aB => exact y1_); (case aF => exact (fun _ _ => trivial)); (case aO => exact y15_); (case aS => exact (below_size y1_)); (case aL => have := LMc27.out; omega); intro v253 w28 ho hb hg hat; rw [← Ny252.out] at ho; have n0_ := Aside0.mk (hb); have n1_ := Aside0.mk (ho); clear HB; clear HO_5; have HB := n0_; have HO254 := n1_; clear n0_ n1_; clear ho hb hg hat))
                   go_roundg kj19
                   case measure => have := HK1.out; have := HJ19.out; omega
                   case rel => exact ⟨(y252), (wrap64 (ji16 + 1)), y77_, H', ⟨by have := HK1.out; have := HJ19.out; omega⟩, ⟨by (with_reducible repeat (first | apply Kd.R_alloc | apply Kd.R_drewN | apply Kd.R_drew)); exact HO254.out⟩, ⟨y1_⟩⟩
                  ·rw [if_neg c27] at H
                   exact absurd H (by simp)
             ·rw [if_neg c18] at H
              exact absurd H (by simp)
            ·rw [if_neg c17] at H
             exact absurd H (by simp)
          ·rw [if_neg c14] at H
           have c14b0 : ((bt a0 x6_1) == 92) = false := beq_eq_false_iff_ne.mpr c14
           have c14b1 : ((bt a0 x6_1) != 92) = true := bne_iff_ne.mpr c14
           by_cases c29 : x5_1.length < 140737488355328
           ·rw [if_pos c29] at H
            have LMc29 := Aside0.mk c29
            clear c29
            obtain ⟨y255, hy255⟩ : ∃ y_ : List Int, y_ = (x5_1 ++ [bt a0 x6_1]) := ⟨_, rfl⟩
            replace H : (manometerref05_Unquote.l0 k1 a0 y255 (wrap64 (x6_1 + 1))) = some (r1, r2, r3) := by first | (rw [hy255]; with_reducible exact H) | (have H2_ := (Option.bind_some _ _).symm.trans H; rw [hy255]; with_reducible exact H2_) | (have H2_ := (Option.bind_some _ _).symm.trans H; with_reducible exact H2_) | with_reducible exact H | (rw [hy255]; exact H) | exact H
            have Ny255 := Aside0.mk hy255
            clear hy255
            have H' := Aside0.mk H
            clear H
            have p10 : 0 ≤ (x6_1 : Int) := of_decide_eq_true y3_
            have q10 : x6_1 < (a0.size : Int) := of_decide_eq_true y3_
            have hx10 := bt_at a0 x6_1
            replace p10 := eq_true p10
            replace q10 := eq_true q10
            go_wp2_with (first | ((with_reducible refine gate_builtin (b := .append) (xs := #[.tmp 55, .tmp 57]) rfl ?_); at_builtin; refine Kd.R_append (Kd.int .u8) (w0 := w) w.heap.size rfl (.tmp 55) (.tmp 57) 53 5 (.int .u8 0) 1 rfl Tryd.underlying53 info5 rfl (by decide) (by omega) u5 x5_1 (bt a0 x6_1) [.int .u8 (bt a0 x6_1)] (fun _ => True) (fun _ => False) rfl rfl ?aP (fun _ hk => hk.elim) ?aF ?aO ?aB ?aS ?aL ?_; (case aP => exact rfl); (case aB => exact y1_); (case aF => exact (fun _ _ => trivial)); (case aO => exact y15_); (case aS => exact (below_size y1_)); (case aL => have := LMc29.out; omega); intro v256 w30 ho hb hg hat; rw [← Ny255.out] at ho; have n0_ := Aside0.mk (hb); have n1_ := Aside0.mk (ho); clear HB; clear HO_5; have HB := n0_; have HO257 := n1_; clear n0_ n1_; clear ho hb hg hat))
            go_roundg k1
            case measure => have := HK1.out; omega
            case rel => exact ⟨(y255), (wrap64 (x6_1 + 1)), y5_, H', ⟨y60_⟩, ⟨by (with_reducible repeat (first | apply Kd.R_alloc | apply Kd.R_drewN | apply Kd.R_drew)); exact HO257.out⟩, ⟨y1_⟩⟩
           ·rw [if_neg c29] at H
            exact absurd H (by simp)
       ·rw [if_neg c9] at H
        exact absurd H (by simp)
      ·rw [if_neg c8] at H
       have c8b0 : decide (x6_1 < (a0.size : Int)) = false := decide_eq_false c8
       clear c8
       simp only [Option.some.injEq, Prod.mk.injEq] at H
       obtain ⟨rfl, rfl, rfl⟩ := H
       go_wp2
       go_ret3
       exact ⟨y7_, y1_⟩
   ·rw [if_neg c5] at H
    have c5b0 : ((bt a0 0) == 34) = false := beq_eq_false_iff_ne.mpr c5
    have c5b1 : ((bt a0 0) != 34) = true := bne_iff_ne.mpr c5
    simp only [Option.some.injEq, Prod.mk.injEq] at H
    obtain ⟨rfl, rfl, rfl⟩ := H
    have p4 : 0 ≤ (0 : Int) := (by omega)
    have q4 : 0 < a0.size := y58_
    have hx4 : ∀ h : 0 < a0.size, ((a0[0]'h).toNat : Int) = bt a0 0 := bt_at a0 0
    clear p4
    have qi4 : (0 < (a0.size : Int)) = True := eq_true (of_decide_eq_true y3_)
    replace q4 := eq_true q4
    go_enter Tryd.func21, Tryd.ntmps21
    go_wp2
    go_ret3
    exact ⟨y7_, y1_⟩
  ·rw [if_neg c3] at H
   exact absurd H (by simp)
mutual
def manometerref05_Quote.l0 : Nat → ByteArray → ByteArray → Int → Int → Option (ByteArray)
 | 0, _, _, _, _ => none
 | k + 1, x0, x3, x6, x7 => if x7 < x6 then (if 0 ≤ x7 then (if x7 < (x0.size : Int) then (if (bt x0 x7) = 34 then (manometerref05_Quote.j1 k x0 x3 x7 x6 x7 (bt x0 x7) ((bt x0 x7) == 34)) else (manometerref05_Quote.j1 k x0 x3 x7 x6 x7 (bt x0 x7) ((bt x0 x7) == 92))) else (none)) else (none)) else (if x3.size + 1 ≤ 9223372036854775807 then (some (x3 ++ (⟨#[34]⟩ : ByteArray))) else (none))
def manometerref05_Quote.j1 : Nat → ByteArray → ByteArray → Int → Int → Int → Int → Bool → Option (ByteArray)
 | 0, _, _, _, _, _, _, _ => none
 | k + 1, x0, x3, x4, x6, x7, x12, x20 => if x20 = true then (if 0 ≤ x4 then (if x4 ≤ (wrap64 (x4 + 1)) then (if (wrap64 (x4 + 1)) ≤ (x0.size : Int) then (if 1 + (x0.extract (x4 : Int).toNat ((wrap64 (x4 + 1)) : Int).toNat).size ≤ 9223372036854775807 then (if x3.size + ((⟨#[92]⟩ : ByteArray) ++ (x0.extract (x4 : Int).toNat ((wrap64 (x4 + 1)) : Int).toNat)).size ≤ 9223372036854775807 then (manometerref05_Quote.l0 k x0 (x3 ++ ((⟨#[92]⟩ : ByteArray) ++ (x0.extract (x4 : Int).toNat ((wrap64 (x4 + 1)) : Int).toNat))) x6 (wrap64 (x7 + 1))) else (none)) else (none)) else (none)) else (none)) else (none)) else (if x12 = 10 then (if x3.size + 2 ≤ 9223372036854775807 then (manometerref05_Quote.l0 k x0 (x3 ++ (⟨#[92, 110]⟩ : ByteArray)) x6 (wrap64 (x7 + 1))) else (none)) else (if 0 ≤ x4 then (if x4 ≤ (wrap64 (x4 + 1)) then (if (wrap64 (x4 + 1)) ≤ (x0.size : Int) then (if x3.size + (x0.extract (x4 : Int).toNat ((wrap64 (x4 + 1)) : Int).toNat).size ≤ 9223372036854775807 then (manometerref05_Quote.l0 k x0 (x3 ++ (x0.extract (x4 : Int).toNat ((wrap64 (x4 + 1)) : Int).toNat)) x6 (wrap64 (x7 + 1))) else (none)) else (none)) else (none)) else (none)))
end
def manometerref05_Quote.f (k : Nat) (a0 : ByteArray) : Option (ByteArray) := manometerref05_Quote.l0 k a0 (⟨#[34]⟩ : ByteArray) (a0.size : Int) 0
set_option maxHeartbeats 8000000 in
set_option maxRecDepth 100000 in
theorem manometerref05_Quote.calls (k : Nat) (a0 : ByteArray) (r : ByteArray) (w : World) (h : manometerref05_Quote.f k a0 = some r) :
  Calls Tryd.prog 23 #[.string a0] w fun e w' => e = .returned (.string r) ∧ Drawn0 w w' := by
 have H : (manometerref05_Quote.l0 k a0 (⟨#[34]⟩ : ByteArray) (a0.size : Int) 0) = some r := h
 clear h
 have H' := Aside0.mk H
 clear H
 go_enter Tryd.func23, Tryd.ntmps23
 go_wp2
 go_loopg [3, 7] k (fun kq v3 v7 w' => ∃ (x3_1 : ByteArray) (x7_1 : Int), v3 = .string x3_1 ∧ v7 = .int .i64 x7_1 ∧ Aside0 (manometerref05_Quote.l0 kq a0 x3_1 (a0.size : Int) x7_1 = some r) ∧ Aside0 (kq ≤ k) ∧ Drawn0 w w')
 case atStart => exact ⟨((⟨#[34]⟩ : ByteArray)), (0), y5_, y5_, H', ⟨Nat.le_refl _⟩, y6_⟩
 case round =>
  clear H'
  obtain ⟨x3_1, x7_1, rfl, rfl, HA, HK1, ⟨m1, rfl⟩⟩ := hrel
  cases gk with
  | zero => exact absurd HA.out (by simp [manometerref05_Quote.l0])
  | succ k1 =>
   have H := HA.out
   clear HA
   simp only [manometerref05_Quote.l0] at H
   by_cases c2 : x7_1 < (a0.size : Int)
   ·rw [if_pos c2] at H
    have c2b0 : decide (x7_1 < (a0.size : Int)) = true := decide_eq_true c2
    clear c2
    by_cases c3 : 0 ≤ x7_1
    ·rw [if_pos c3] at H
     have c3b0 : decide (0 ≤ x7_1) = true := decide_eq_true c3
     clear c3
     by_cases c4 : x7_1 < (a0.size : Int)
     ·rw [if_pos c4] at H
      have c4b0 : decide (x7_1 < (a0.size : Int)) = true := decide_eq_true c4
      clear c4
      have HC6 := Aside0.mk H
      clear H
      have p5 : 0 ≤ (x7_1 : Int) := of_decide_eq_true y3_
      have q5 : x7_1 < (a0.size : Int) := of_decide_eq_true y3_
      have hx5 := bt_at a0 x7_1
      replace p5 := eq_true p5
      replace q5 := eq_true q5
      go_upto_if 20 with (fail)
      go_cut [20] (fun v20 wc => ∃ (kq : Nat) (x20_5 : Bool), v20 = .bool x20_5 ∧ Aside0 (manometerref05_Quote.j1 kq a0 x3_1 x7_1 (a0.size : Int) x7_1 (bt a0 x7_1) x20_5 = some r) ∧ Aside0 (kq ≤ k1) ∧ Drawn0 w wc)
      case first =>
       have H := HC6.out
       clear HC6
       by_cases c7 : (bt a0 x7_1) = 34
       ·rw [if_pos c7] at H
        have c7b0 : ((bt a0 x7_1) == 34) = true := beq_iff_eq.mpr c7
        have c7b1 : ((bt a0 x7_1) != 34) = false := bne_eq_false_iff_eq.mpr c7
        clear c7
        (first | rw [c7b0] | (simp only [i64_w, i32_w]; rw [c7b0]) | skip)
        have H' := Aside0.mk H
        clear H
        go_wp2
        go_meet
        case rel => exact ⟨_, (((bt a0 x7_1) == 34)), y5_, H', ⟨y44_⟩, y6_⟩
       ·rw [if_neg c7] at H
        have c7b0 : ((bt a0 x7_1) == 34) = false := beq_eq_false_iff_ne.mpr c7
        have c7b1 : ((bt a0 x7_1) != 34) = true := bne_iff_ne.mpr c7
        (first | rw [c7b0] | (simp only [i64_w, i32_w]; rw [c7b0]) | skip)
        have H' := Aside0.mk H
        clear H
        go_wp2
        go_meet
        case rel => exact ⟨_, (((bt a0 x7_1) == 92)), y5_, H', ⟨y44_⟩, y6_⟩
      case rest =>
       clear HC6
       try clear c2
       try clear c2b0
       try clear p2
       try clear c3
       try clear c3b0
       try clear c4
       try clear c4b0
       try clear p5
       try clear q5
       try clear hx5
       try clear c7
       try clear c7b0
       try clear c7b1
       try clear p5
       try clear q5
       obtain ⟨kq, x20_5, rfl, HA, HJ5, ⟨mc5, rfl⟩⟩ := hcut
       cases kq with
       | zero => exact absurd HA.out (by simp [manometerref05_Quote.j1])
       | succ kj5 =>
        have H := HA.out
        clear HA
        simp only [manometerref05_Quote.j1] at H
        by_cases c8 : x20_5 = true
        ·subst c8
         have H1 : (if 0 ≤ x7_1 then (if x7_1 ≤ (wrap64 (x7_1 + 1)) then (if (wrap64 (x7_1 + 1)) ≤ (a0.size : Int) then (if 1 + (a0.extract (x7_1 : Int).toNat ((wrap64 (x7_1 + 1)) : Int).toNat).size ≤ 9223372036854775807 then (if x3_1.size + ((⟨#[92]⟩ : ByteArray) ++ (a0.extract (x7_1 : Int).toNat ((wrap64 (x7_1 + 1)) : Int).toNat)).size ≤ 9223372036854775807 then (manometerref05_Quote.l0 kj5 a0 (x3_1 ++ ((⟨#[92]⟩ : ByteArray) ++ (a0.extract (x7_1 : Int).toNat ((wrap64 (x7_1 + 1)) : Int).toNat))) (a0.size : Int) (wrap64 (x7_1 + 1))) else (none)) else (none)) else (none)) else (none)) else (none)) = some r := by rw [if_pos rfl] at H; exact H
         clear H
         have H := H1
         clear H1
         by_cases c9 : 0 ≤ x7_1
         ·rw [if_pos c9] at H
          have c9b0 := eq_true c9
          have c9b1 : decide (0 ≤ x7_1) = true := decide_eq_true c9
          clear c9
          by_cases c10 : x7_1 ≤ (wrap64 (x7_1 + 1))
          ·rw [if_pos c10] at H
           have c10b0 := eq_true c10
           have c10b1 : decide (x7_1 ≤ (wrap64 (x7_1 + 1))) = true := decide_eq_true c10
           by_cases c11 : (wrap64 (x7_1 + 1)) ≤ (a0.size : Int)
           ·rw [if_pos c11] at H
            have c11b0 := eq_true c11
            have c11b1 : decide ((wrap64 (x7_1 + 1)) ≤ (a0.size : Int)) = true := decide_eq_true c11
            by_cases c12 : 1 + (a0.extract (x7_1 : Int).toNat ((wrap64 (x7_1 + 1)) : Int).toNat).size ≤ 9223372036854775807
            ·rw [if_pos c12] at H
             have c12b0 := eq_true c12
             try (have c12z := c12; simp [ByteArray.size_append, Kd.size_mk_] at c12z; replace c12z := eq_false (Nat.not_lt.2 c12z))
             try (have c12m := c12; simp [ByteArray.size_append, Kd.size_mk_] at c12m; rw [Nat.min_eq_left (by omega)] at c12m; replace c12m := eq_false (Nat.not_lt.2 c12m))
             have c12b1 : decide (1 + (a0.extract (x7_1 : Int).toNat ((wrap64 (x7_1 + 1)) : Int).toNat).size ≤ 9223372036854775807) = true := decide_eq_true c12
             try have c12b2 : (9223372036854775807 < 1 + (a0.extract (x7_1 : Int).toNat ((wrap64 (x7_1 + 1)) : Int).toNat).size) = False := eq_false (Nat.not_lt.2 c12)
             by_cases c13 : x3_1.size + ((⟨#[92]⟩ : ByteArray) ++ (a0.extract (x7_1 : Int).toNat ((wrap64 (x7_1 + 1)) : Int).toNat)).size ≤ 9223372036854775807
             ·rw [if_pos c13] at H
              have c13b0 := eq_true c13
              try (have c13z := c13; simp [ByteArray.size_append, Kd.size_mk_] at c13z; replace c13z := eq_false (Nat.not_lt.2 c13z))
              try (have c13m := c13; simp [ByteArray.size_append, Kd.size_mk_] at c13m; rw [Nat.min_eq_left (by omega)] at c13m; replace c13m := eq_false (Nat.not_lt.2 c13m))
              have c13b1 : decide (x3_1.size + ((⟨#[92]⟩ : ByteArray) ++ (a0.extract (x7_1 : Int).toNat ((wrap64 (x7_1 + 1)) : Int).toNat)).size ≤ 9223372036854775807) = true := decide_eq_true c13
              try have c13b2 : (9223372036854775807 < x3_1.size + ((⟨#[92]⟩ : ByteArray) ++ (a0.extract (x7_1 : Int).toNat ((wrap64 (x7_1 + 1)) : Int).toNat)).size) = False := eq_false (Nat.not_lt.2 c13)
              have H' := Aside0.mk H
              clear H
              go_wp2
              go_roundg kj5
              case measure => have := HK1.out; have := HJ5.out; omega
              case rel => exact ⟨(x3_1 ++ ((⟨#[92]⟩ : ByteArray) ++ (a0.extract (x7_1 : Int).toNat ((wrap64 (x7_1 + 1)) : Int).toNat))), (wrap64 (x7_1 + 1)), y5_, y5_, H', ⟨by have := HK1.out; have := HJ5.out; omega⟩, y6_⟩
             ·rw [if_neg c13] at H
              exact absurd H (by simp)
            ·rw [if_neg c12] at H
             exact absurd H (by simp)
           ·rw [if_neg c11] at H
            exact absurd H (by simp)
          ·rw [if_neg c10] at H
           exact absurd H (by simp)
         ·rw [if_neg c9] at H
          exact absurd H (by simp)
        ·replace c8 := Bool.eq_false_iff.mpr c8
         subst c8
         have H1 : (if (bt a0 x7_1) = 10 then (if x3_1.size + 2 ≤ 9223372036854775807 then (manometerref05_Quote.l0 kj5 a0 (x3_1 ++ (⟨#[92, 110]⟩ : ByteArray)) (a0.size : Int) (wrap64 (x7_1 + 1))) else (none)) else (if 0 ≤ x7_1 then (if x7_1 ≤ (wrap64 (x7_1 + 1)) then (if (wrap64 (x7_1 + 1)) ≤ (a0.size : Int) then (if x3_1.size + (a0.extract (x7_1 : Int).toNat ((wrap64 (x7_1 + 1)) : Int).toNat).size ≤ 9223372036854775807 then (manometerref05_Quote.l0 kj5 a0 (x3_1 ++ (a0.extract (x7_1 : Int).toNat ((wrap64 (x7_1 + 1)) : Int).toNat)) (a0.size : Int) (wrap64 (x7_1 + 1))) else (none)) else (none)) else (none)) else (none))) = some r := by rw [if_neg (show ¬ (false = true) by decide)] at H; exact H
         clear H
         have H := H1
         clear H1
         by_cases c14 : (bt a0 x7_1) = 10
         ·rw [if_pos c14] at H
          have c14b0 : ((bt a0 x7_1) == 10) = true := beq_iff_eq.mpr c14
          have c14b1 : ((bt a0 x7_1) != 10) = false := bne_eq_false_iff_eq.mpr c14
          clear c14
          by_cases c15 : x3_1.size + 2 ≤ 9223372036854775807
          ·rw [if_pos c15] at H
           have c15b0 := eq_true c15
           try (have c15z := c15; simp [ByteArray.size_append, Kd.size_mk_] at c15z; replace c15z := eq_false (Nat.not_lt.2 c15z))
           have c15b1 : decide (x3_1.size + 2 ≤ 9223372036854775807) = true := decide_eq_true c15
           try have c15b2 : (9223372036854775807 < x3_1.size + 2) = False := eq_false (Nat.not_lt.2 c15)
           have H' := Aside0.mk H
           clear H
           go_wp2
           go_roundg kj5
           case measure => have := HK1.out; have := HJ5.out; omega
           case rel => exact ⟨(x3_1 ++ (⟨#[92, 110]⟩ : ByteArray)), (wrap64 (x7_1 + 1)), y5_, y5_, H', ⟨by have := HK1.out; have := HJ5.out; omega⟩, y6_⟩
          ·rw [if_neg c15] at H
           exact absurd H (by simp)
         ·rw [if_neg c14] at H
          have c14b0 : ((bt a0 x7_1) == 10) = false := beq_eq_false_iff_ne.mpr c14
          have c14b1 : ((bt a0 x7_1) != 10) = true := bne_iff_ne.mpr c14
          by_cases c16 : 0 ≤ x7_1
          ·rw [if_pos c16] at H
           have c16b0 := eq_true c16
           have c16b1 : decide (0 ≤ x7_1) = true := decide_eq_true c16
           clear c16
           by_cases c17 : x7_1 ≤ (wrap64 (x7_1 + 1))
           ·rw [if_pos c17] at H
            have c17b0 := eq_true c17
            have c17b1 : decide (x7_1 ≤ (wrap64 (x7_1 + 1))) = true := decide_eq_true c17
            by_cases c18 : (wrap64 (x7_1 + 1)) ≤ (a0.size : Int)
            ·rw [if_pos c18] at H
             have c18b0 := eq_true c18
             have c18b1 : decide ((wrap64 (x7_1 + 1)) ≤ (a0.size : Int)) = true := decide_eq_true c18
             by_cases c19 : x3_1.size + (a0.extract (x7_1 : Int).toNat ((wrap64 (x7_1 + 1)) : Int).toNat).size ≤ 9223372036854775807
             ·rw [if_pos c19] at H
              have c19b0 := eq_true c19
              try (have c19z := c19; simp [ByteArray.size_append, Kd.size_mk_] at c19z; replace c19z := eq_false (Nat.not_lt.2 c19z))
              try (have c19m := c19; simp [ByteArray.size_append, Kd.size_mk_] at c19m; rw [Nat.min_eq_left (by omega)] at c19m; replace c19m := eq_false (Nat.not_lt.2 c19m))
              have c19b1 : decide (x3_1.size + (a0.extract (x7_1 : Int).toNat ((wrap64 (x7_1 + 1)) : Int).toNat).size ≤ 9223372036854775807) = true := decide_eq_true c19
              try have c19b2 : (9223372036854775807 < x3_1.size + (a0.extract (x7_1 : Int).toNat ((wrap64 (x7_1 + 1)) : Int).toNat).size) = False := eq_false (Nat.not_lt.2 c19)
              have H' := Aside0.mk H
              clear H
              go_wp2
              go_roundg kj5
              case measure => have := HK1.out; have := HJ5.out; omega
              case rel => exact ⟨(x3_1 ++ (a0.extract (x7_1 : Int).toNat ((wrap64 (x7_1 + 1)) : Int).toNat)), (wrap64 (x7_1 + 1)), y5_, y5_, H', ⟨by have := HK1.out; have := HJ5.out; omega⟩, y6_⟩
             ·rw [if_neg c19] at H
              exact absurd H (by simp)
            ·rw [if_neg c18] at H
             exact absurd H (by simp)
           ·rw [if_neg c17] at H
            exact absurd H (by simp)
          ·rw [if_neg c16] at H
           exact absurd H (by simp)
     ·rw [if_neg c4] at H
      exact absurd H (by simp)
    ·rw [if_neg c3] at H
     exact absurd H (by simp)
   ·rw [if_neg c2] at H
    have c2b0 : decide (x7_1 < (a0.size : Int)) = false := decide_eq_false c2
    clear c2
    by_cases c20 : x3_1.size + 1 ≤ 9223372036854775807
    ·rw [if_pos c20] at H
     have c20b0 := eq_true c20
     try (have c20z := c20; simp [ByteArray.size_append, Kd.size_mk_] at c20z; replace c20z := eq_false (Nat.not_lt.2 c20z))
     have c20b1 : decide (x3_1.size + 1 ≤ 9223372036854775807) = true := decide_eq_true c20
     try have c20b2 : (9223372036854775807 < x3_1.size + 1) = False := eq_false (Nat.not_lt.2 c20)
     obtain rfl := Option.some.inj H
     go_wp2
     go_ret
     exact ⟨y9_, y6_⟩
    ·rw [if_neg c20] at H
     exact absurd H (by simp)
end Go.Proofs.YtdhmabofncbohaaDoor.PLB
