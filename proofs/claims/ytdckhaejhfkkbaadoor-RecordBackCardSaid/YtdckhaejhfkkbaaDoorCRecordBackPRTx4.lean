import Derived.Test.YtdckhaejhfkkbaaDoorCRecordBackPRTx0
import Derived.Test.YtdckhaejhfkkbaaDoorCRecordBackPRTx3
import Derived.Test.YtdckhaejhfkkbaaDoorCRecordBackO2
import Derived.Test.YtdckhaejhfkkbaaDoorCRecordBackPRTx2
import Derived.Test.YtdckhaejhfkkbaaDoorCRecordBackY
namespace Go.Proofs.YtdckhaejhfkkbaaDoor.PRT
open Go.RowKit Go.Proofs.YtdckhaejhfkkbaaDoorW.PrintWords Go.Proofs.YtdckhaejhfkkbaaDoorW.PrintLast Go.Proofs.YtdckhaejhfkkbaaDoorW.PrintMore
attribute [local go_sem] max2_int min2_int max_two min_two max_three min_three max_four min_four
set_option linter.unusedVariables false
set_option linter.unusedSimpArgs false
def labels_Take.l0 : Nat → List Int → Int → List (S52) → Int → Int → Option ((List (S52)) × Int × Int)
 | 0, _, _, _, _, _ => none
 | k + 1, x0, x6, x8, x25, x26 => if x26 < x25 then ((labels_text.f k x0 x6 64).bind fun bt125 => (if 0 ≤ x26 then (if x26 < (x8.length : Int) then ((some (x8.set (x26 : Int).toNat (⟨bt125.1, (rd_T52 x8 x26).f1⟩ : S52) : List (S52))).bind fun y128 => (if bt125.2.2 = 0 then ((labels_text.f k x0 bt125.2.1 128).bind fun bt129 => (if bt129.2.2 = 0 then (labels_Take.l0 k x0 bt129.2.1 (y128.set (x26 : Int).toNat (⟨(rd_T52 y128 x26).f0, bt129.1⟩ : S52)) x25 (wrap64 (x26 + 1))) else (some (([] : List (S52)), 0, bt129.2.2)))) else (some (([] : List (S52)), 0, bt125.2.2)))) else (none)) else (none))) else ((labels_Right.f k x8).bind fun t124 => (if t124 = 0 then (some (x8, x6, 0)) else (some (([] : List (S52)), 0, t124))))
def labels_Take.f (k : Nat) (l0 : List Int) : Option ((List (S52)) × Int × Int) := (bits_Uvarint.f k l0).bind fun bt118 => (if bt118.2.2 = 0 then (if bt118.1 > 16 then (some (([] : List (S52)), 0, 3)) else (if 0 ≤ bt118.1 then (if (bt118.1 : Int).toNat ≤ 8796093022208 then ((some (List.replicate (bt118.1 : Int).toNat z52 : List (S52))).bind fun y121 => (labels_Take.l0 k l0 bt118.2.1 y121 (y121.length : Int) 0)) else (none)) else (none))) else (some (([] : List (S52)), 0, bt118.2.2)))
theorem labels_Take.mono_l : ∀ k, (∀ y0 y1 y2 y3 y4, LeO (labels_Take.l0 k y0 y1 y2 y3 y4) (labels_Take.l0 (k + 1) y0 y1 y2 y3 y4))
 | 0 => fun _ _ _ _ _ r h => by simp [labels_Take.l0] at h
 | k + 1 => by
  have ih0 := labels_Take.mono_l k
  ·intro y0 y1 y2 y3 y4
   unfold labels_Take.l0
   repeat' first
   | (with_reducible exact ih0 _ _ _ _ _)
   | (with_reducible exact bits_Uvarint.mono _ _)
   | (with_reducible exact labels_Right.mono _ _)
   | (with_reducible exact labels_text.mono _ _ _ _)
   | (with_reducible exact LeO.refl _)
   | (with_reducible exact LeO.none _)
   | (with_reducible refine LeO.ite ?_ ?_)
   | (with_reducible refine LeO.bind ?_ (fun _ => ?_))
   | exact ih0 _ _ _ _ _
   | exact bits_Uvarint.mono _ _
   | exact labels_Right.mono _ _
   | exact labels_text.mono _ _ _ _
   | exact LeO.none _
   | refine LeO.ite ?_ ?_
   | refine LeO.bind ?_ (fun _ => ?_)
theorem labels_Take.mono : ∀ a0 k, LeO (labels_Take.f k a0) (labels_Take.f (k + 1) a0) := by
 intro a0 k
 have ih0 := labels_Take.mono_l k
 unfold labels_Take.f
 repeat' first
   | (with_reducible exact ih0 _ _ _ _ _)
   | (with_reducible exact bits_Uvarint.mono _ _)
   | (with_reducible exact labels_Right.mono _ _)
   | (with_reducible exact labels_text.mono _ _ _ _)
   | (with_reducible exact LeO.refl _)
   | (with_reducible exact LeO.none _)
   | (with_reducible refine LeO.ite ?_ ?_)
   | (with_reducible refine LeO.bind ?_ (fun _ => ?_))
   | exact ih0 _ _ _ _ _
   | exact bits_Uvarint.mono _ _
   | exact labels_Right.mono _ _
   | exact labels_text.mono _ _ _ _
   | exact LeO.none _
   | refine LeO.ite ?_ ?_
   | refine LeO.bind ?_ (fun _ => ?_)
set_option maxHeartbeats 8000000 in
set_option maxRecDepth 100000 in
theorem labels_Take.calls (k : Nat) (A0 : Option Addr) (c0 : Nat) (l0 : List Int) (r1 : List (S52)) (r2 : Int) (r3 : Int) (w : World) (hT : Aside0 (Tab w)) (hr0 : Kd.C (Kd.int .u8) w A0 l0.length l0) (hc0 : l0.length ≤ c0) (h : labels_Take.f k l0 = some (r1, r2, r3)) :
  Calls Tryd.prog 39 #[.slice A0 l0.length c0] w fun e w' => ∃ v0_ : Value, e = .returned (.tuple #[v0_, .int .i64 r2, .int .i64 r3]) ∧ Kd.R k52 52 w' w.heap.size (fun _ => True) v0_ r1 ∧ Below w.heap.size w w' := by
 have HR0 := Aside0.mk hr0
 have HC0 := Aside0.mk hc0
 clear hr0 hc0
 have HB := Aside0.mk (Below.refl w.heap.size w)
 have H : ((bits_Uvarint.f k l0).bind fun bt118 => (if bt118.2.2 = 0 then (if bt118.1 > 16 then (some (([] : List (S52)), 0, 3)) else (if 0 ≤ bt118.1 then (if (bt118.1 : Int).toNat ≤ 8796093022208 then ((some (List.replicate (bt118.1 : Int).toNat z52 : List (S52))).bind fun y121 => (labels_Take.l0 k l0 bt118.2.1 y121 (y121.length : Int) 0)) else (none)) else (none))) else (some (([] : List (S52)), 0, bt118.2.2)))) = some (r1, r2, r3) := h
 clear h
 replace H := Option.bind_eq_some_iff.mp H
 obtain ⟨⟨t118, t119, t120⟩, A20, H⟩ := H
 replace H : (if t120 = 0 then (if t118 > 16 then (some (([] : List (S52)), 0, 3)) else (if 0 ≤ t118 then (if (t118 : Int).toNat ≤ 8796093022208 then ((some (List.replicate (t118 : Int).toNat z52 : List (S52))).bind fun y121 => (labels_Take.l0 k l0 t119 y121 (y121.length : Int) 0)) else (none)) else (none))) else (some (([] : List (S52)), 0, t120))) = some (r1, r2, r3) := H
 have A2 := Aside0.mk A20
 clear A20
 by_cases c3 : t120 = 0
 ·rw [if_pos c3] at H
  have c3b0 : (t120 == 0) = true := beq_iff_eq.mpr c3
  have c3b1 : (t120 != 0) = false := bne_eq_false_iff_eq.mpr c3
  clear c3
  by_cases c4 : t118 > 16
  ·rw [if_pos c4] at H
   have c4b0 : decide (16 < t118) = true := decide_eq_true c4
   clear c4
   simp only [Option.some.injEq, Prod.mk.injEq] at H
   obtain ⟨rfl, rfl, rfl⟩ := H
   go_enter Tryd.func39, Tryd.ntmps39
   go_wp2_with (first | ((with_reducible refine gate_callee (f := 38) rfl ?_); refine goesL_ (some 13) rfl rfl Tryd.func38 (by kernel_rfl) rfl #[.slice A0 l0.length c0] rfl y3_ ?_; (with_reducible refine (bits_Uvarint.calls k _ _ l0 t118 t119 t120 _ ?side1 ?side2 A2.out).mono ?_); (case side1 => repeat (first | exact HR0.out | (with_reducible refine Kd.C_alloc ?_ _) | (with_reducible refine Kd.C_drewN ?_ _) | (with_reducible refine Kd.C_drew ?_))); (case side2 => exact HC0.out); rintro e w' ⟨rfl, ⟨nd, rfl⟩⟩; refine ⟨_, rfl, ?_⟩))
   go_ret3
   exact ⟨_, y8_, y25_, y1_⟩
  ·rw [if_neg c4] at H
   have c4b0 : decide (16 < t118) = false := decide_eq_false c4
   clear c4
   by_cases c5 : 0 ≤ t118
   ·rw [if_pos c5] at H
    have c5b0 := eq_true c5
    have c5b1 : decide (0 ≤ t118) = true := decide_eq_true c5
    clear c5
    by_cases c6 : (t118 : Int).toNat ≤ 8796093022208
    ·rw [if_pos c6] at H
     have c6b0 := eq_true c6
     have c6b1 : decide ((t118 : Int).toNat ≤ 8796093022208) = true := decide_eq_true c6
     clear c6
     obtain ⟨y121, hy121⟩ : ∃ y_ : List (S52), y_ = (List.replicate (t118 : Int).toNat z52) := ⟨_, rfl⟩
     replace H : (labels_Take.l0 k l0 t119 y121 (y121.length : Int) 0) = some (r1, r2, r3) := by first | (rw [hy121]; with_reducible exact H) | (have H2_ := (Option.bind_some _ _).symm.trans H; rw [hy121]; with_reducible exact H2_) | (have H2_ := (Option.bind_some _ _).symm.trans H; with_reducible exact H2_) | with_reducible exact H | (rw [hy121]; exact H) | exact H
     have Ny121 := Aside0.mk hy121
     clear hy121
     have H' := Aside0.mk H
     clear H
     go_enter Tryd.func39, Tryd.ntmps39
     go_wp2_with (first | ((with_reducible refine gate_callee (f := 38) rfl ?_); refine goesL_ (some 13) rfl rfl Tryd.func38 (by kernel_rfl) rfl #[.slice A0 l0.length c0] rfl y3_ ?_; (with_reducible refine (bits_Uvarint.calls k _ _ l0 t118 t119 t120 _ ?side1 ?side2 A2.out).mono ?_); (case side1 => repeat (first | exact HR0.out | (with_reducible refine Kd.C_alloc ?_ _) | (with_reducible refine Kd.C_drewN ?_ _) | (with_reducible refine Kd.C_drew ?_))); (case side2 => exact HC0.out); rintro e w' ⟨rfl, ⟨nd, rfl⟩⟩; refine ⟨_, rfl, ?_⟩) | ((with_reducible refine gate_dst (N := 23) rfl ?_); refine Kd.R_makeU k52 _ 52 rfl (N := 23) rfl 26 _ _ rfl t118 rfl rfl Tryd.underlying26 (.agg #[(.string ⟨#[]⟩), (.string ⟨#[]⟩)]) 32 info52 rfl (by decide) (by omega) z52 (ok := fun _ => True) (okp := fun _ => True) (k52_mkM _ _ _ z52 ) (fun _ hk => hk) trivial (of_decide_eq_true y7_) (Nat.le_trans (Nat.mul_le_mul_right _ (of_decide_eq_true y7_ : t118.toNat ≤ 8796093022208)) (by omega)) (Below.refl _ _) (Nat.le_refl _) ?_; intro v122 w7 ho8 hb hg_ hnew_; clear hg_ hnew_; (first | rw [← Ny121.out] at ho8 | (simp only [Int.reduceToNat] at ho8; rw [← Ny121.out] at ho8)); have n0_ := Aside0.mk (Kd.R_lower ho8 (below_size y1_)); have n1_ := Aside0.mk (below_step y1_ hb); clear HB; have HO123 := n0_; have HB := n1_; clear n0_ n1_; clear hb ho8; obtain ⟨Ao9, co9, eo9⟩ := Kd.R_slice HO123.out; subst eo9))
     go_loopg [6, 26] k (fun kq v6 v26 w' => ∃ (x6_1 : Int) (x8_1 : List (S52)) (x26_1 : Int), v6 = .int .i64 x6_1 ∧ v26 = .int .i64 x26_1 ∧ Aside0 (labels_Take.l0 kq l0 x6_1 x8_1 (y121.length : Int) x26_1 = some (r1, r2, r3)) ∧ Aside0 (kq ≤ k) ∧ Aside0 (Kd.R k52 52 w' w.heap.size (fun _ => True) (.slice Ao9 y121.length co9) x8_1) ∧ Aside0 (Below w.heap.size w w'))
     case atStart => exact ⟨(t119), (y121), (0), y15_, y15_, H', ⟨Nat.le_refl _⟩, ⟨by (with_reducible repeat (first | apply Kd.R_alloc | apply Kd.R_drewN | apply Kd.R_drew)); exact HO123.out⟩, ⟨y1_⟩⟩
     case round =>
      clear H'
      try clear p2
      try clear c3
      try clear c3b0
      try clear c3b1
      try clear c4
      try clear c4b0
      try clear c5
      try clear c5b0
      try clear c5b1
      try clear c6
      try clear c6b0
      try clear c6b1
      obtain ⟨x6_1, x8_1, x26_1, rfl, rfl, HA, HK1, HO_8, HB⟩ := hrel
      have hl8_1 := (Kd.R_reads' HO_8.out).1
      rw [hl8_1] at HO_8
      (try simp only [hl8_1])
      cases gk with
      | zero => exact absurd HA.out (by simp [labels_Take.l0])
      | succ k1 =>
       have H := HA.out
       clear HA
       simp only [labels_Take.l0] at H
       by_cases c10 : x26_1 < (y121.length : Int)
       ·rw [if_pos c10] at H
        have c10b0 : decide (x26_1 < (y121.length : Int)) = true := decide_eq_true c10
        try (have c10b0l_ := c10b0; rw [hl8_1] at c10b0l_)
        clear c10
        replace H := Option.bind_eq_some_iff.mp H
        obtain ⟨⟨t125, t126, t127⟩, A110, H⟩ := H
        replace H : (if 0 ≤ x26_1 then (if x26_1 < (x8_1.length : Int) then ((some (x8_1.set (x26_1 : Int).toNat (⟨t125, (rd_T52 x8_1 x26_1).f1⟩ : S52) : List (S52))).bind fun y128 => (if t127 = 0 then ((labels_text.f k1 l0 t126 128).bind fun bt129 => (if bt129.2.2 = 0 then (labels_Take.l0 k1 l0 bt129.2.1 (y128.set (x26_1 : Int).toNat (⟨(rd_T52 y128 x26_1).f0, bt129.1⟩ : S52)) (y121.length : Int) (wrap64 (x26_1 + 1))) else (some (([] : List (S52)), 0, bt129.2.2)))) else (some (([] : List (S52)), 0, t127)))) else (none)) else (none)) = some (r1, r2, r3) := H
        have A11 := Aside0.mk A110
        clear A110
        by_cases c12 : 0 ≤ x26_1
        ·rw [if_pos c12] at H
         have c12b0 : decide (0 ≤ x26_1) = true := decide_eq_true c12
         clear c12
         by_cases c13 : x26_1 < (x8_1.length : Int)
         ·rw [if_pos c13] at H
          have c13b0 : decide (x26_1 < (x8_1.length : Int)) = true := decide_eq_true c13
          clear c13
          obtain ⟨y128, hy128⟩ : ∃ y_ : List (S52), y_ = (x8_1.set (x26_1 : Int).toNat (⟨t125, (rd_T52 x8_1 x26_1).f1⟩ : S52)) := ⟨_, rfl⟩
          replace H : (if t127 = 0 then ((labels_text.f k1 l0 t126 128).bind fun bt129 => (if bt129.2.2 = 0 then (labels_Take.l0 k1 l0 bt129.2.1 (y128.set (x26_1 : Int).toNat (⟨(rd_T52 y128 x26_1).f0, bt129.1⟩ : S52)) (y121.length : Int) (wrap64 (x26_1 + 1))) else (some (([] : List (S52)), 0, bt129.2.2)))) else (some (([] : List (S52)), 0, t127))) = some (r1, r2, r3) := by first | (rw [hy128]; with_reducible exact H) | (have H2_ := (Option.bind_some _ _).symm.trans H; rw [hy128]; with_reducible exact H2_) | (have H2_ := (Option.bind_some _ _).symm.trans H; with_reducible exact H2_) | with_reducible exact H | (rw [hy128]; exact H) | exact H
          have Ny128 := Aside0.mk hy128
          clear hy128
          by_cases c15 : t127 = 0
          ·rw [if_pos c15] at H
           have c15b0 : (t127 == 0) = true := beq_iff_eq.mpr c15
           have c15b1 : (t127 != 0) = false := bne_eq_false_iff_eq.mpr c15
           clear c15
           replace H := Option.bind_eq_some_iff.mp H
           obtain ⟨⟨t129, t130, t131⟩, A160, H⟩ := H
           replace H : (if t131 = 0 then (labels_Take.l0 k1 l0 t130 (y128.set (x26_1 : Int).toNat (⟨(rd_T52 y128 x26_1).f0, t129⟩ : S52)) (y121.length : Int) (wrap64 (x26_1 + 1))) else (some (([] : List (S52)), 0, t131))) = some (r1, r2, r3) := H
           have A16 := Aside0.mk A160
           clear A160
           obtain ⟨y132, hy132⟩ : ∃ y_ : List (S52), y_ = (y128.set (x26_1 : Int).toNat (⟨(rd_T52 y128 x26_1).f0, t129⟩ : S52)) := ⟨_, rfl⟩
           replace H : (if t131 = 0 then (labels_Take.l0 k1 l0 t130 y132 (y121.length : Int) (wrap64 (x26_1 + 1))) else (some (([] : List (S52)), 0, t131))) = some (r1, r2, r3) := by first | (rw [hy132]; with_reducible exact H) | (have H2_ := (Option.bind_some _ _).symm.trans H; rw [hy132]; with_reducible exact H2_) | (have H2_ := (Option.bind_some _ _).symm.trans H; with_reducible exact H2_) | with_reducible exact H | (rw [hy132]; exact H) | exact H
           have Ny132 := Aside0.mk hy132
           clear hy132
           by_cases c18 : t131 = 0
           ·rw [if_pos c18] at H
            have c18b0 : (t131 == 0) = true := beq_iff_eq.mpr c18
            have c18b1 : (t131 != 0) = false := bne_eq_false_iff_eq.mpr c18
            clear c18
            have H' := Aside0.mk H
            clear H
            go_wp2_with (first | ((with_reducible refine gate_callee (f := 54) rfl ?_); refine goesL_ (some 34) rfl rfl Tryd.func54 (by kernel_rfl) rfl #[.slice A0 l0.length c0, .int .i64 x6_1, .int .i64 64] rfl y3_ ?_; (with_reducible refine (labels_text.calls k1 _ _ l0 x6_1 64 t125 t126 t127 _ ?side1 ?side2 A11.out).mono ?_); (case side1 => repeat (first | exact (Kd.C_below HR0.out HB.out) | (with_reducible refine Kd.C_alloc ?_ _) | (with_reducible refine Kd.C_drewN ?_ _) | (with_reducible refine Kd.C_drew ?_))); (case side2 => exact HC0.out); rintro e w' ⟨rfl, ⟨nd, rfl⟩⟩; refine ⟨_, rfl, ?_⟩; (try (rw [drewN_self wr]; generalize hq_ : World.drewN wr _ = wr; have n0_ : Aside0 (Kd.R k52 52 wr w.heap.size (fun _ => True) (.slice Ao9 x8_1.length co9) x8_1) := ⟨by rw [← hq_]; exact y43_⟩; have n1_ : Aside0 (Below w.heap.size w wr) := ⟨by rw [← hq_]; exact y1_⟩; clear HO_8 HB hq_; have HO_8 := n0_; have HB := n1_; clear n0_ n1_)); have p14 : 0 ≤ (x26_1 : Int) := of_decide_eq_true y7_; have q14 : (x26_1 : Int) < ((x8_1.length : Int) : Int) := of_decide_eq_true y7_; obtain ⟨go14, co14, eo14, gb14, gl14, cl14, HG14⟩ := Kd.R_form HO_8.out (by omega); (first | cases eo14 | (injection eo14 with ea_ en_ ec_; (first | subst ea_ | (injection ea_ with ea_; subst ea_)); subst ec_; clear en_)); have GB14 := Aside0.mk gb14; have GG14 := Aside0.mk HG14; clear gb14 gl14 HG14; obtain ⟨ce14, hcl14, hM14, hcc14, hfr14⟩ := Kd.R_elem HO_8.out z52 (x26_1 : Int) p14 q14; obtain rfl := k52_openM hM14; have hx14_0 : wr.cell? ⟨go14, (x26_1 : Int).toNat * 2, none⟩ = some (.string ((rd_T52 x8_1 x26_1).f0)) := hcc14 0 _ rfl; have hx14_1 : wr.cell? ⟨go14, (x26_1 : Int).toNat * 2 + 1, none⟩ = some (.string ((rd_T52 x8_1 x26_1).f1)) := hcc14 1 _ rfl; have hf14_0 : wr.frozen? ⟨go14, (x26_1 : Int).toNat * 2, none⟩ = false := hfr14 0; have hf14_1 : wr.frozen? ⟨go14, (x26_1 : Int).toNat * 2 + 1, none⟩ = false := hfr14 1; clear hcl14 hcc14 hfr14 hM14; replace p14 := eq_true p14; replace q14 := eq_true q14; have HX19 := Aside0.mk (show Kd.R k52 52 wr w.heap.size (fun _ => True) (.slice (some ⟨go14, 0, none⟩) x8_1.length co9) x8_1 from y43_); obtain ⟨ce19, hcl19, hM19, hcc19, hfr19⟩ := Kd.R_elem HX19.out z52 (x26_1 : Int) (of_decide_eq_true y7_) y39_; obtain rfl := k52_openM hM19; have HP19 := Kd.R_seg HX19.out (x26_1 : Int) (of_decide_eq_true y7_) y39_ (seg := [.string t125]) (j := 0) hcl19 hcc19 (show 1 ≤ 2 from by decide) (x' := (⟨t125, (rd_T52 x8_1 x26_1).f1⟩ : S52)) (k52_mkM _ _ _ (⟨t125, (rd_T52 x8_1 x26_1).f1⟩ : S52) ) (fun _ hk => hk); have hx19_0 := hcc19 0 _ rfl; (try simp only [show (k52).sz = 2 from rfl, Nat.mul_one, Nat.add_zero] at hx19_0); have hf19_0 := hfr19 0; (try simp only [show (k52).sz = 2 from rfl, Nat.mul_one, Nat.add_zero] at hf19_0); clear hcl19 hcc19 hfr19 hM19) | ((with_reducible refine gate_store (t := 9) (p := 39) rfl ?_); refine store_event (t := 9) (p := 39) (v := ?vo_w20) (w1 := (wr.setCell ⟨go14, (x26_1 : Int).toNat * 2, none⟩ (.string t125))) ?hg ?ho ?hn ?hr ?_; (case ho => rfl); (case hg => rfl); (case hn => rfl); (case hr => first | (go_simp; done) | (go_simp; rfl)); intro w20 hw; have hg : wr.grownBy w20 (some go14) := (by rw [hw]; exact HP19.2); have hp_ : Kd.R k52 52 w20 w.heap.size (fun _ => True) (.slice (some ⟨go14, 0, none⟩) x8_1.length co9) y128 := (by rw [hw, Ny128.out]; exact HP19.1); clear HP19; have n0_ := Aside0.mk (hp_); have n1_ := Aside0.mk ((by rw [hw]; exact below_set (HB.out) GB14.out : Below w.heap.size w w20)); clear HO_8; clear HB; have HO_8 := n0_; have HB := n1_; clear n0_ n1_; clear hg hw hp_) | ((with_reducible refine gate_callee (f := 54) rfl ?_); refine goesL_ (some 48) rfl rfl Tryd.func54 (by kernel_rfl) rfl #[.slice A0 l0.length c0, .int .i64 t126, .int .i64 128] rfl y3_ ?_; (with_reducible refine (labels_text.calls k1 _ _ l0 t126 128 t129 t130 t131 _ ?side1 ?side2 A16.out).mono ?_); (case side1 => repeat (first | exact (Kd.C_below HR0.out HB.out) | (with_reducible refine Kd.C_alloc ?_ _) | (with_reducible refine Kd.C_drewN ?_ _) | (with_reducible refine Kd.C_drew ?_))); (case side2 => exact HC0.out); rintro e w' ⟨rfl, ⟨nd, rfl⟩⟩; refine ⟨_, rfl, ?_⟩; (try (rw [drewN_self w20]; generalize hq_ : World.drewN w20 _ = w20; have n0_ : Aside0 (Kd.R k52 52 w20 w.heap.size (fun _ => True) (.slice (some ⟨go14, 0, none⟩) x8_1.length co9) y128) := ⟨by rw [← hq_]; exact y43_⟩; have n1_ : Aside0 (Below w.heap.size w w20) := ⟨by rw [← hq_]; exact y1_⟩; clear HO_8 HB hq_; have HO_8 := n0_; have HB := n1_; clear n0_ n1_)); have p17 : 0 ≤ (x26_1 : Int) := of_decide_eq_true y7_; have q17 : (x26_1 : Int) < ((x8_1.length : Int) : Int) := of_decide_eq_true y7_; obtain ⟨ce17, hcl17, hM17, hcc17, hfr17⟩ := Kd.R_elem HO_8.out z52 (x26_1 : Int) p17 q17; obtain rfl := k52_openM hM17; have hx17_0 : w20.cell? ⟨go14, (x26_1 : Int).toNat * 2, none⟩ = some (.string ((rd_T52 y128 x26_1).f0)) := hcc17 0 _ rfl; have hx17_1 : w20.cell? ⟨go14, (x26_1 : Int).toNat * 2 + 1, none⟩ = some (.string ((rd_T52 y128 x26_1).f1)) := hcc17 1 _ rfl; have hf17_0 : w20.frozen? ⟨go14, (x26_1 : Int).toNat * 2, none⟩ = false := hfr17 0; have hf17_1 : w20.frozen? ⟨go14, (x26_1 : Int).toNat * 2 + 1, none⟩ = false := hfr17 1; clear hcl17 hcc17 hfr17 hM17; replace p17 := eq_true p17; replace q17 := eq_true q17; have HX21 := Aside0.mk (show Kd.R k52 52 w20 w.heap.size (fun _ => True) (.slice (some ⟨go14, 0, none⟩) x8_1.length co9) y128 from y43_); obtain ⟨ce21, hcl21, hM21, hcc21, hfr21⟩ := Kd.R_elem HX21.out z52 (x26_1 : Int) (of_decide_eq_true y7_) y39_; obtain rfl := k52_openM hM21; have HP21 := Kd.R_seg HX21.out (x26_1 : Int) (of_decide_eq_true y7_) y39_ (seg := [.string t129]) (j := 1) hcl21 hcc21 (show 2 ≤ 2 from by decide) (x' := (⟨(rd_T52 y128 x26_1).f0, t129⟩ : S52)) (k52_mkM _ _ _ (⟨(rd_T52 y128 x26_1).f0, t129⟩ : S52) ) (fun _ hk => hk); have hx21_1 := hcc21 1 _ rfl; (try simp only [show (k52).sz = 2 from rfl, Nat.mul_one, Nat.add_zero] at hx21_1); have hf21_1 := hfr21 1; (try simp only [show (k52).sz = 2 from rfl, Nat.mul_one, Nat.add_zero] at hf21_1); clear hcl21 hcc21 hfr21 hM21) | ((with_reducible refine gate_store (t := 9) (p := 53) rfl ?_); refine store_event (t := 9) (p := 53) (v := ?vo_w22) (w1 := (w20.setCell ⟨go14, (x26_1 : Int).toNat * 2 + 1, none⟩ (.string t129))) ?hg ?ho ?hn ?hr ?_; (case ho => rfl); (case hg => rfl); (case hn => rfl); (case hr => first | (go_simp; done) | (go_simp; rfl)); intro w22 hw; have hg : w20.grownBy w22 (some go14) := (by rw [hw]; exact HP21.2); have hp_ : Kd.R k52 52 w22 w.heap.size (fun _ => True) (.slice (some ⟨go14, 0, none⟩) x8_1.length co9) y132 := (by rw [hw, Ny132.out]; exact HP21.1); clear HP21; have n0_ := Aside0.mk (hp_); have n1_ := Aside0.mk ((by rw [hw]; exact below_set (HB.out) GB14.out : Below w.heap.size w w22)); clear HO_8; clear HB; have HO_8 := n0_; have HB := n1_; clear n0_ n1_; clear hg hw hp_))
            (try simp only [← hl8_1])
            go_roundg k1
            case measure => have := HK1.out; omega
            case rel => exact ⟨(t130), (y132), (wrap64 (x26_1 + 1)), y15_, y15_, H', ⟨by have := HK1.out; omega⟩, ⟨by (try simp only [hl8_1]); (with_reducible repeat (first | apply Kd.R_alloc | apply Kd.R_drewN | apply Kd.R_drew)); exact HO_8.out⟩, ⟨y1_⟩⟩
           ·rw [if_neg c18] at H
            have c18b0 : (t131 == 0) = false := beq_eq_false_iff_ne.mpr c18
            have c18b1 : (t131 != 0) = true := bne_iff_ne.mpr c18
            simp only [Option.some.injEq, Prod.mk.injEq] at H
            obtain ⟨rfl, rfl, rfl⟩ := H
            go_wp2_with (first | ((with_reducible refine gate_callee (f := 54) rfl ?_); refine goesL_ (some 34) rfl rfl Tryd.func54 (by kernel_rfl) rfl #[.slice A0 l0.length c0, .int .i64 x6_1, .int .i64 64] rfl y3_ ?_; (with_reducible refine (labels_text.calls k1 _ _ l0 x6_1 64 t125 t126 t127 _ ?side1 ?side2 A11.out).mono ?_); (case side1 => repeat (first | exact (Kd.C_below HR0.out HB.out) | (with_reducible refine Kd.C_alloc ?_ _) | (with_reducible refine Kd.C_drewN ?_ _) | (with_reducible refine Kd.C_drew ?_))); (case side2 => exact HC0.out); rintro e w' ⟨rfl, ⟨nd, rfl⟩⟩; refine ⟨_, rfl, ?_⟩; (try (rw [drewN_self wr]; generalize hq_ : World.drewN wr _ = wr; have n0_ : Aside0 (Kd.R k52 52 wr w.heap.size (fun _ => True) (.slice Ao9 x8_1.length co9) x8_1) := ⟨by rw [← hq_]; exact y43_⟩; have n1_ : Aside0 (Below w.heap.size w wr) := ⟨by rw [← hq_]; exact y1_⟩; clear HO_8 HB hq_; have HO_8 := n0_; have HB := n1_; clear n0_ n1_)); have p14 : 0 ≤ (x26_1 : Int) := of_decide_eq_true y7_; have q14 : (x26_1 : Int) < ((x8_1.length : Int) : Int) := of_decide_eq_true y7_; obtain ⟨go14, co14, eo14, gb14, gl14, cl14, HG14⟩ := Kd.R_form HO_8.out (by omega); (first | cases eo14 | (injection eo14 with ea_ en_ ec_; (first | subst ea_ | (injection ea_ with ea_; subst ea_)); subst ec_; clear en_)); have GB14 := Aside0.mk gb14; have GG14 := Aside0.mk HG14; clear gb14 gl14 HG14; obtain ⟨ce14, hcl14, hM14, hcc14, hfr14⟩ := Kd.R_elem HO_8.out z52 (x26_1 : Int) p14 q14; obtain rfl := k52_openM hM14; have hx14_0 : wr.cell? ⟨go14, (x26_1 : Int).toNat * 2, none⟩ = some (.string ((rd_T52 x8_1 x26_1).f0)) := hcc14 0 _ rfl; have hx14_1 : wr.cell? ⟨go14, (x26_1 : Int).toNat * 2 + 1, none⟩ = some (.string ((rd_T52 x8_1 x26_1).f1)) := hcc14 1 _ rfl; have hf14_0 : wr.frozen? ⟨go14, (x26_1 : Int).toNat * 2, none⟩ = false := hfr14 0; have hf14_1 : wr.frozen? ⟨go14, (x26_1 : Int).toNat * 2 + 1, none⟩ = false := hfr14 1; clear hcl14 hcc14 hfr14 hM14; replace p14 := eq_true p14; replace q14 := eq_true q14; have HX23 := Aside0.mk (show Kd.R k52 52 wr w.heap.size (fun _ => True) (.slice (some ⟨go14, 0, none⟩) x8_1.length co9) x8_1 from y43_); obtain ⟨ce23, hcl23, hM23, hcc23, hfr23⟩ := Kd.R_elem HX23.out z52 (x26_1 : Int) (of_decide_eq_true y7_) y39_; obtain rfl := k52_openM hM23; have HP23 := Kd.R_seg HX23.out (x26_1 : Int) (of_decide_eq_true y7_) y39_ (seg := [.string t125]) (j := 0) hcl23 hcc23 (show 1 ≤ 2 from by decide) (x' := (⟨t125, (rd_T52 x8_1 x26_1).f1⟩ : S52)) (k52_mkM _ _ _ (⟨t125, (rd_T52 x8_1 x26_1).f1⟩ : S52) ) (fun _ hk => hk); have hx23_0 := hcc23 0 _ rfl; (try simp only [show (k52).sz = 2 from rfl, Nat.mul_one, Nat.add_zero] at hx23_0); have hf23_0 := hfr23 0; (try simp only [show (k52).sz = 2 from rfl, Nat.mul_one, Nat.add_zero] at hf23_0); clear hcl23 hcc23 hfr23 hM23) | ((with_reducible refine gate_store (t := 9) (p := 39) rfl ?_); refine store_event (t := 9) (p := 39) (v := ?vo_w24) (w1 := (wr.setCell ⟨go14, (x26_1 : Int).toNat * 2, none⟩ (.string t125))) ?hg ?ho ?hn ?hr ?_; (case ho => rfl); (case hg => rfl); (case hn => rfl); (case hr => first | (go_simp; done) | (go_simp; rfl)); intro w24 hw; have hg : wr.grownBy w24 (some go14) := (by rw [hw]; exact HP23.2); have hp_ : Kd.R k52 52 w24 w.heap.size (fun _ => True) (.slice (some ⟨go14, 0, none⟩) x8_1.length co9) y128 := (by rw [hw, Ny128.out]; exact HP23.1); clear HP23; have n0_ := Aside0.mk (hp_); have n1_ := Aside0.mk ((by rw [hw]; exact below_set (HB.out) GB14.out : Below w.heap.size w w24)); clear HO_8; clear HB; have HO_8 := n0_; have HB := n1_; clear n0_ n1_; clear hg hw hp_) | ((with_reducible refine gate_callee (f := 54) rfl ?_); refine goesL_ (some 48) rfl rfl Tryd.func54 (by kernel_rfl) rfl #[.slice A0 l0.length c0, .int .i64 t126, .int .i64 128] rfl y3_ ?_; (with_reducible refine (labels_text.calls k1 _ _ l0 t126 128 t129 t130 t131 _ ?side1 ?side2 A16.out).mono ?_); (case side1 => repeat (first | exact (Kd.C_below HR0.out HB.out) | (with_reducible refine Kd.C_alloc ?_ _) | (with_reducible refine Kd.C_drewN ?_ _) | (with_reducible refine Kd.C_drew ?_))); (case side2 => exact HC0.out); rintro e w' ⟨rfl, ⟨nd, rfl⟩⟩; refine ⟨_, rfl, ?_⟩; (try (rw [drewN_self w24]; generalize hq_ : World.drewN w24 _ = w24; have n0_ : Aside0 (Kd.R k52 52 w24 w.heap.size (fun _ => True) (.slice (some ⟨go14, 0, none⟩) x8_1.length co9) y128) := ⟨by rw [← hq_]; exact y43_⟩; have n1_ : Aside0 (Below w.heap.size w w24) := ⟨by rw [← hq_]; exact y1_⟩; clear HO_8 HB hq_; have HO_8 := n0_; have HB := n1_; clear n0_ n1_)); have p17 : 0 ≤ (x26_1 : Int) := of_decide_eq_true y7_; have q17 : (x26_1 : Int) < ((x8_1.length : Int) : Int) := of_decide_eq_true y7_; obtain ⟨ce17, hcl17, hM17, hcc17, hfr17⟩ := Kd.R_elem HO_8.out z52 (x26_1 : Int) p17 q17; obtain rfl := k52_openM hM17; have hx17_0 : w24.cell? ⟨go14, (x26_1 : Int).toNat * 2, none⟩ = some (.string ((rd_T52 y128 x26_1).f0)) := hcc17 0 _ rfl; have hx17_1 : w24.cell? ⟨go14, (x26_1 : Int).toNat * 2 + 1, none⟩ = some (.string ((rd_T52 y128 x26_1).f1)) := hcc17 1 _ rfl; have hf17_0 : w24.frozen? ⟨go14, (x26_1 : Int).toNat * 2, none⟩ = false := hfr17 0; have hf17_1 : w24.frozen? ⟨go14, (x26_1 : Int).toNat * 2 + 1, none⟩ = false := hfr17 1; clear hcl17 hcc17 hfr17 hM17; replace p17 := eq_true p17; replace q17 := eq_true q17; have HX25 := Aside0.mk (show Kd.R k52 52 w24 w.heap.size (fun _ => True) (.slice (some ⟨go14, 0, none⟩) x8_1.length co9) y128 from y43_); obtain ⟨ce25, hcl25, hM25, hcc25, hfr25⟩ := Kd.R_elem HX25.out z52 (x26_1 : Int) (of_decide_eq_true y7_) y39_; obtain rfl := k52_openM hM25; have HP25 := Kd.R_seg HX25.out (x26_1 : Int) (of_decide_eq_true y7_) y39_ (seg := [.string t129]) (j := 1) hcl25 hcc25 (show 2 ≤ 2 from by decide) (x' := (⟨(rd_T52 y128 x26_1).f0, t129⟩ : S52)) (k52_mkM _ _ _ (⟨(rd_T52 y128 x26_1).f0, t129⟩ : S52) ) (fun _ hk => hk); have hx25_1 := hcc25 1 _ rfl; (try simp only [show (k52).sz = 2 from rfl, Nat.mul_one, Nat.add_zero] at hx25_1); have hf25_1 := hfr25 1; (try simp only [show (k52).sz = 2 from rfl, Nat.mul_one, Nat.add_zero] at hf25_1); clear hcl25 hcc25 hfr25 hM25) | ((with_reducible refine gate_store (t := 9) (p := 53) rfl ?_); refine store_event (t := 9) (p := 53) (v := ?vo_w26) (w1 := (w24.setCell ⟨go14, (x26_1 : Int).toNat * 2 + 1, none⟩ (.string t129))) ?hg ?ho ?hn ?hr ?_; (case ho => rfl); (case hg => rfl); (case hn => rfl); (case hr => first | (go_simp; done) | (go_simp; rfl)); intro w26 hw; have hg : w24.grownBy w26 (some go14) := (by rw [hw]; exact HP25.2); have hp_ : Kd.R k52 52 w26 w.heap.size (fun _ => True) (.slice (some ⟨go14, 0, none⟩) x8_1.length co9) y132 := (by rw [hw, Ny132.out]; exact HP25.1); clear HP25; have n0_ := Aside0.mk (hp_); have n1_ := Aside0.mk ((by rw [hw]; exact below_set (HB.out) GB14.out : Below w.heap.size w w26)); clear HO_8; clear HB; have HO_8 := n0_; have HB := n1_; clear n0_ n1_; clear hg hw hp_))
            go_ret3
            exact ⟨_, y8_, y25_, y1_⟩
          ·rw [if_neg c15] at H
           have c15b0 : (t127 == 0) = false := beq_eq_false_iff_ne.mpr c15
           have c15b1 : (t127 != 0) = true := bne_iff_ne.mpr c15
           simp only [Option.some.injEq, Prod.mk.injEq] at H
           obtain ⟨rfl, rfl, rfl⟩ := H
           go_wp2_with (first | ((with_reducible refine gate_callee (f := 54) rfl ?_); refine goesL_ (some 34) rfl rfl Tryd.func54 (by kernel_rfl) rfl #[.slice A0 l0.length c0, .int .i64 x6_1, .int .i64 64] rfl y3_ ?_; (with_reducible refine (labels_text.calls k1 _ _ l0 x6_1 64 t125 t126 t127 _ ?side1 ?side2 A11.out).mono ?_); (case side1 => repeat (first | exact (Kd.C_below HR0.out HB.out) | (with_reducible refine Kd.C_alloc ?_ _) | (with_reducible refine Kd.C_drewN ?_ _) | (with_reducible refine Kd.C_drew ?_))); (case side2 => exact HC0.out); rintro e w' ⟨rfl, ⟨nd, rfl⟩⟩; refine ⟨_, rfl, ?_⟩; (try (rw [drewN_self wr]; generalize hq_ : World.drewN wr _ = wr; have n0_ : Aside0 (Kd.R k52 52 wr w.heap.size (fun _ => True) (.slice Ao9 x8_1.length co9) x8_1) := ⟨by rw [← hq_]; exact y43_⟩; have n1_ : Aside0 (Below w.heap.size w wr) := ⟨by rw [← hq_]; exact y1_⟩; clear HO_8 HB hq_; have HO_8 := n0_; have HB := n1_; clear n0_ n1_)); have p14 : 0 ≤ (x26_1 : Int) := of_decide_eq_true y7_; have q14 : (x26_1 : Int) < ((x8_1.length : Int) : Int) := of_decide_eq_true y7_; obtain ⟨go14, co14, eo14, gb14, gl14, cl14, HG14⟩ := Kd.R_form HO_8.out (by omega); (first | cases eo14 | (injection eo14 with ea_ en_ ec_; (first | subst ea_ | (injection ea_ with ea_; subst ea_)); subst ec_; clear en_)); have GB14 := Aside0.mk gb14; have GG14 := Aside0.mk HG14; clear gb14 gl14 HG14; obtain ⟨ce14, hcl14, hM14, hcc14, hfr14⟩ := Kd.R_elem HO_8.out z52 (x26_1 : Int) p14 q14; obtain rfl := k52_openM hM14; have hx14_0 : wr.cell? ⟨go14, (x26_1 : Int).toNat * 2, none⟩ = some (.string ((rd_T52 x8_1 x26_1).f0)) := hcc14 0 _ rfl; have hx14_1 : wr.cell? ⟨go14, (x26_1 : Int).toNat * 2 + 1, none⟩ = some (.string ((rd_T52 x8_1 x26_1).f1)) := hcc14 1 _ rfl; have hf14_0 : wr.frozen? ⟨go14, (x26_1 : Int).toNat * 2, none⟩ = false := hfr14 0; have hf14_1 : wr.frozen? ⟨go14, (x26_1 : Int).toNat * 2 + 1, none⟩ = false := hfr14 1; clear hcl14 hcc14 hfr14 hM14; replace p14 := eq_true p14; replace q14 := eq_true q14; have HX27 := Aside0.mk (show Kd.R k52 52 wr w.heap.size (fun _ => True) (.slice (some ⟨go14, 0, none⟩) x8_1.length co9) x8_1 from y43_); obtain ⟨ce27, hcl27, hM27, hcc27, hfr27⟩ := Kd.R_elem HX27.out z52 (x26_1 : Int) (of_decide_eq_true y7_) y39_; obtain rfl := k52_openM hM27; have HP27 := Kd.R_seg HX27.out (x26_1 : Int) (of_decide_eq_true y7_) y39_ (seg := [.string t125]) (j := 0) hcl27 hcc27 (show 1 ≤ 2 from by decide) (x' := (⟨t125, (rd_T52 x8_1 x26_1).f1⟩ : S52)) (k52_mkM _ _ _ (⟨t125, (rd_T52 x8_1 x26_1).f1⟩ : S52) ) (fun _ hk => hk); have hx27_0 := hcc27 0 _ rfl; (try simp only [show (k52).sz = 2 from rfl, Nat.mul_one, Nat.add_zero] at hx27_0); have hf27_0 := hfr27 0; (try simp only [show (k52).sz = 2 from rfl, Nat.mul_one, Nat.add_zero] at hf27_0); clear hcl27 hcc27 hfr27 hM27) | ((with_reducible refine gate_store (t := 9) (p := 39) rfl ?_); refine store_event (t := 9) (p := 39) (v := ?vo_w28) (w1 := (wr.setCell ⟨go14, (x26_1 : Int).toNat * 2, none⟩ (.string t125))) ?hg ?ho ?hn ?hr ?_; (case ho => rfl); (case hg => rfl); (case hn => rfl); (case hr => first | (go_simp; done) | (go_simp; rfl)); intro w28 hw; have hg : wr.grownBy w28 (some go14) := (by rw [hw]; exact HP27.2); have hp_ : Kd.R k52 52 w28 w.heap.size (fun _ => True) (.slice (some ⟨go14, 0, none⟩) x8_1.length co9) y128 := (by rw [hw, Ny128.out]; exact HP27.1); clear HP27; have n0_ := Aside0.mk (hp_); have n1_ := Aside0.mk ((by rw [hw]; exact below_set (HB.out) GB14.out : Below w.heap.size w w28)); clear HO_8; clear HB; have HO_8 := n0_; have HB := n1_; clear n0_ n1_; clear hg hw hp_))
           go_ret3
           exact ⟨_, y8_, y25_, y1_⟩
         ·rw [if_neg c13] at H
          exact absurd H (by simp)
        ·rw [if_neg c12] at H
         exact absurd H (by simp)
       ·rw [if_neg c10] at H
        have c10b0 : decide (x26_1 < (y121.length : Int)) = false := decide_eq_false c10
        try (have c10b0l_ := c10b0; rw [hl8_1] at c10b0l_)
        clear c10
        replace H := Option.bind_eq_some_iff.mp H
        obtain ⟨t124, A290, H⟩ := H
        replace H : (if t124 = 0 then (some (x8_1, x6_1, 0)) else (some (([] : List (S52)), 0, t124))) = some (r1, r2, r3) := H
        have A29 := Aside0.mk A290
        clear A290
        by_cases c30 : t124 = 0
        ·rw [if_pos c30] at H
         have c30b0 : (t124 == 0) = true := beq_iff_eq.mpr c30
         have c30b1 : (t124 != 0) = false := bne_eq_false_iff_eq.mpr c30
         clear c30
         simp only [Option.some.injEq, Prod.mk.injEq] at H
         obtain ⟨rfl, rfl, rfl⟩ := H
         go_wp2_with (first | ((with_reducible refine gate_callee (f := 35) rfl ?_); refine goesL_ (some 59) rfl rfl Tryd.func35 (by kernel_rfl) rfl #[.slice Ao9 x8_1.length co9] rfl y3_ ?_; (with_reducible refine (labels_Right.calls k1 _ _ x8_1 t124 _ ?side1 ?side2 ?side3 A29.out).mono ?_); (case side1 => exact ⟨Tab_below hT.out y1_⟩); (case side2 => repeat (first | exact (Kd.R_reads' HO_8.out).2.2 | (with_reducible refine Kd.C_alloc ?_ _) | (with_reducible refine Kd.C_drewN ?_ _) | (with_reducible refine Kd.C_drew ?_))); (case side3 => exact (Kd.R_reads' HO_8.out).2.1); rintro e w31 ⟨rfl, hb⟩; refine ⟨_, rfl, ?_⟩; have n0_ := Aside0.mk (Kd.R_below y43_ hb); have n1_ := Aside0.mk (below_step y1_ hb); clear HO_8; clear HB; have HO_8 := n0_; have HB := n1_; clear n0_ n1_; (try clear hb); (try clear hb2); (try clear hk); (try clear hi)))
         go_ret3
         exact ⟨_, y8_, y43_, y1_⟩
        ·rw [if_neg c30] at H
         have c30b0 : (t124 == 0) = false := beq_eq_false_iff_ne.mpr c30
         have c30b1 : (t124 != 0) = true := bne_iff_ne.mpr c30
         simp only [Option.some.injEq, Prod.mk.injEq] at H
         obtain ⟨rfl, rfl, rfl⟩ := H
         go_wp2_with (first | ((with_reducible refine gate_callee (f := 35) rfl ?_); refine goesL_ (some 59) rfl rfl Tryd.func35 (by kernel_rfl) rfl #[.slice Ao9 x8_1.length co9] rfl y3_ ?_; (with_reducible refine (labels_Right.calls k1 _ _ x8_1 t124 _ ?side1 ?side2 ?side3 A29.out).mono ?_); (case side1 => exact ⟨Tab_below hT.out y1_⟩); (case side2 => repeat (first | exact (Kd.R_reads' HO_8.out).2.2 | (with_reducible refine Kd.C_alloc ?_ _) | (with_reducible refine Kd.C_drewN ?_ _) | (with_reducible refine Kd.C_drew ?_))); (case side3 => exact (Kd.R_reads' HO_8.out).2.1); rintro e w32 ⟨rfl, hb⟩; refine ⟨_, rfl, ?_⟩; have n0_ := Aside0.mk (Kd.R_below y43_ hb); have n1_ := Aside0.mk (below_step y1_ hb); clear HO_8; clear HB; have HO_8 := n0_; have HB := n1_; clear n0_ n1_; (try clear hb); (try clear hb2); (try clear hk); (try clear hi)))
         go_ret3
         exact ⟨_, y8_, y25_, y1_⟩
    ·rw [if_neg c6] at H
     exact absurd H (by simp)
   ·rw [if_neg c5] at H
    exact absurd H (by simp)
 ·rw [if_neg c3] at H
  have c3b0 : (t120 == 0) = false := beq_eq_false_iff_ne.mpr c3
  have c3b1 : (t120 != 0) = true := bne_iff_ne.mpr c3
  simp only [Option.some.injEq, Prod.mk.injEq] at H
  obtain ⟨rfl, rfl, rfl⟩ := H
  go_enter Tryd.func39, Tryd.ntmps39
  go_wp2_with (first | ((with_reducible refine gate_callee (f := 38) rfl ?_); refine goesL_ (some 13) rfl rfl Tryd.func38 (by kernel_rfl) rfl #[.slice A0 l0.length c0] rfl y3_ ?_; (with_reducible refine (bits_Uvarint.calls k _ _ l0 t118 t119 t120 _ ?side1 ?side2 A2.out).mono ?_); (case side1 => repeat (first | exact HR0.out | (with_reducible refine Kd.C_alloc ?_ _) | (with_reducible refine Kd.C_drewN ?_ _) | (with_reducible refine Kd.C_drew ?_))); (case side2 => exact HC0.out); rintro e w' ⟨rfl, ⟨nd, rfl⟩⟩; refine ⟨_, rfl, ?_⟩))
  go_ret3
  exact ⟨_, y8_, y25_, y1_⟩
def record_series.j0 : Nat → List Int → Int → Int → Bool → Option (Int × Int × (List (S52)) × (List (S45)) × Int)
 | 0, _, _, _, _ => none
 | k + 1, x0, x4, x5, x24 => if x24 = true then (some (0, 0, ([] : List (S52)), ([] : List (S45)), 1)) else (if 0 ≤ x5 then (if x5 ≤ (x0.length : Int) then ((labels_Take.f k (x0.drop (x5 : Int).toNat)).bind fun bt138 => (if bt138.2.2 = 0 then (if (wrap64 (x5 + bt138.2.1)) < (x0.length : Int) then (some (0, 0, ([] : List (S52)), ([] : List (S45)), 8)) else (some (1, (x4) % 4294967296, bt138.1, ([] : List (S45)), 0))) else (some (0, 0, ([] : List (S52)), ([] : List (S45)), bt138.2.2)))) else (none)) else (none))
def record_series.f (k : Nat) (l0 : List Int) : Option (Int × Int × (List (S52)) × (List (S45)) × Int) := (bits_Uvarint.f k l0).bind fun bt134 => (if bt134.2.2 = 0 then (if bt134.1 = 0 then (record_series.j0 k l0 bt134.1 bt134.2.1 true) else (record_series.j0 k l0 bt134.1 bt134.2.1 (decide (bt134.1 > 4294967295)))) else (some (0, 0, ([] : List (S52)), ([] : List (S45)), bt134.2.2)))
theorem record_series.mono_l : ∀ k, (∀ y0 y1 y2 y3, LeO (record_series.j0 k y0 y1 y2 y3) (record_series.j0 (k + 1) y0 y1 y2 y3))
 | 0 => fun _ _ _ _ r h => by simp [record_series.j0] at h
 | k + 1 => by
  have ih0 := record_series.mono_l k
  ·intro y0 y1 y2 y3
   unfold record_series.j0
   repeat' first
   | (with_reducible exact ih0 _ _ _ _)
   | (with_reducible exact bits_Uvarint.mono _ _)
   | (with_reducible exact labels_Take.mono _ _)
   | (with_reducible exact LeO.refl _)
   | (with_reducible exact LeO.none _)
   | (with_reducible refine LeO.ite ?_ ?_)
   | (with_reducible refine LeO.bind ?_ (fun _ => ?_))
   | exact ih0 _ _ _ _
   | exact bits_Uvarint.mono _ _
   | exact labels_Take.mono _ _
   | exact LeO.none _
   | refine LeO.ite ?_ ?_
   | refine LeO.bind ?_ (fun _ => ?_)
theorem record_series.mono : ∀ a0 k, LeO (record_series.f k a0) (record_series.f (k + 1) a0) := by
 intro a0 k
 have ih0 := record_series.mono_l k
 unfold record_series.f
 repeat' first
   | (with_reducible exact ih0 _ _ _ _)
   | (with_reducible exact bits_Uvarint.mono _ _)
   | (with_reducible exact labels_Take.mono _ _)
   | (with_reducible exact LeO.refl _)
   | (with_reducible exact LeO.none _)
   | (with_reducible refine LeO.ite ?_ ?_)
   | (with_reducible refine LeO.bind ?_ (fun _ => ?_))
   | exact ih0 _ _ _ _
   | exact bits_Uvarint.mono _ _
   | exact labels_Take.mono _ _
   | exact LeO.none _
   | refine LeO.ite ?_ ?_
   | refine LeO.bind ?_ (fun _ => ?_)
set_option maxHeartbeats 8000000 in
set_option maxRecDepth 100000 in
theorem record_series.calls (k : Nat) (A0 : Option Addr) (c0 : Nat) (l0 : List Int) (r1 : Int) (r2 : Int) (r3 : List (S52)) (r4 : List (S45)) (r5 : Int) (w : World) (hT : Aside0 (Tab w)) (hr0 : Kd.C (Kd.int .u8) w A0 l0.length l0) (hc0 : l0.length ≤ c0) (h : record_series.f k l0 = some (r1, r2, r3, r4, r5)) :
  Calls Tryd.prog 21 #[.slice A0 l0.length c0] w fun e w' => ∃ v2_ v3_ : Value, e = .returned (.tuple #[.agg #[.int .i64 r1, .int .u32 r2, v2_, v3_], .int .i64 r5]) ∧ Kd.R k52 52 w' w.heap.size (fun _ => True) v2_ r3 ∧ Kd.R k45 45 w' w.heap.size (fun _ => True) v3_ r4 ∧ Below w.heap.size w w' := by
 have hu29 := Tryd.underlying29
 have HR0 := Aside0.mk hr0
 have HC0 := Aside0.mk hc0
 clear hr0 hc0
 have HB := Aside0.mk (Below.refl w.heap.size w)
 have H : ((bits_Uvarint.f k l0).bind fun bt134 => (if bt134.2.2 = 0 then (if bt134.1 = 0 then (record_series.j0 k l0 bt134.1 bt134.2.1 true) else (record_series.j0 k l0 bt134.1 bt134.2.1 (decide (bt134.1 > 4294967295)))) else (some (0, 0, ([] : List (S52)), ([] : List (S45)), bt134.2.2)))) = some (r1, r2, r3, r4, r5) := h
 clear h
 replace H := Option.bind_eq_some_iff.mp H
 obtain ⟨⟨t134, t135, t136⟩, A20, H⟩ := H
 replace H : (if t136 = 0 then (if t134 = 0 then (record_series.j0 k l0 t134 t135 true) else (record_series.j0 k l0 t134 t135 (decide (t134 > 4294967295)))) else (some (0, 0, ([] : List (S52)), ([] : List (S45)), t136))) = some (r1, r2, r3, r4, r5) := H
 have A2 := Aside0.mk A20
 clear A20
 by_cases c3 : t136 = 0
 ·rw [if_pos c3] at H
  have c3b0 : (t136 == 0) = true := beq_iff_eq.mpr c3
  have c3b1 : (t136 != 0) = false := bne_eq_false_iff_eq.mpr c3
  clear c3
  have HC4 := Aside0.mk H
  clear H
  go_enter Tryd.func21, Tryd.ntmps21
  go_upto_region 4 with (first | ((with_reducible refine gate_dst (N := 2) rfl ?_); refine box_event ?hg (N := 2) ?hd (cs := #[.int .i64 0, .int .u32 0, .slice none 0 0, .slice none 0 0]) (t := 29) ?hr ?_; (case hd => rfl); (case hg => rfl); (case hr => first | (go_simp; done) | (go_simp; rfl)); intro gb133 hg w5 hbox hb; have n0_ := Aside0.mk (below_step y1_ hb); have n1_ := Aside0.mk (hbox); have n2_ := Aside0.mk ((y29_ : w.heap.size ≤ gb133)); have n3_ := Aside0.mk ((y29_ : w.heap.size ≤ gb133)); clear HB; have HB := n0_; have BK133 := n1_; have GW133 := n2_; have GE133 := n3_; clear n0_ n1_ n2_ n3_; clear hb hbox hg) | ((with_reducible refine gate_callee (f := 38) rfl ?_); refine goesL_ (some 11) rfl rfl Tryd.func38 (by kernel_rfl) rfl #[.slice A0 l0.length c0] rfl y3_ ?_; (with_reducible refine (bits_Uvarint.calls k _ _ l0 t134 t135 t136 _ ?side1 ?side2 A2.out).mono ?_); (case side1 => repeat (first | exact (Kd.C_below HR0.out HB.out) | (with_reducible refine Kd.C_alloc ?_ _) | (with_reducible refine Kd.C_drewN ?_ _) | (with_reducible refine Kd.C_drew ?_))); (case side2 => exact HC0.out); rintro e w' ⟨rfl, ⟨nd, rfl⟩⟩; refine ⟨_, rfl, ?_⟩))
  (try simp only [Act.put, List.setIfInBounds_toArray, List.set_cons_zero, List.set_cons_succ])
  go_cut [24] (fun v24 wc => ∃ (kq : Nat) (x24_3 : Bool), v24 = .bool x24_3 ∧ Aside0 (record_series.j0 kq l0 t134 t135 x24_3 = some (r1, r2, r3, r4, r5)) ∧ Aside0 (kq ≤ k) ∧ Aside0 (wc.heap[gb133]? = some (.cells #[.int .i64 0, .int .u32 0, (.slice none 0 0), (.slice none 0 0)] 29 (0, 0))) ∧ Aside0 (Below w.heap.size w wc))
  case first =>
   have H := HC4.out
   clear HC4
   by_cases c6 : t134 = 0
   ·rw [if_pos c6] at H
    have c6b0 : (t134 == 0) = true := beq_iff_eq.mpr c6
    have c6b1 : (t134 != 0) = false := bne_eq_false_iff_eq.mpr c6
    clear c6
    (first | rw [c6b0] | (simp only [i64_w, i32_w]; rw [c6b0]) | skip)
    have H' := Aside0.mk H
    clear H
    go_wp2
    go_meet
    case rel => exact ⟨_, (true), y15_, H', ⟨y85_⟩, ⟨y65_⟩, ⟨y24_⟩⟩
   ·rw [if_neg c6] at H
    have c6b0 : (t134 == 0) = false := beq_eq_false_iff_ne.mpr c6
    have c6b1 : (t134 != 0) = true := bne_iff_ne.mpr c6
    (first | rw [c6b0] | (simp only [i64_w, i32_w]; rw [c6b0]) | skip)
    have H' := Aside0.mk H
    clear H
    go_wp2
    go_meet
    case rel => exact ⟨_, (decide (t134 > 4294967295)), y15_, H', ⟨y85_⟩, ⟨y65_⟩, ⟨y24_⟩⟩
  case rest =>
   clear HC4
   try clear c2
   try clear p2
   try clear c3
   try clear c3b0
   try clear c3b1
   try clear c6
   try clear c6b0
   try clear c6b1
   obtain ⟨kq, x24_3, rfl, HA, HJ3, BK133, HB⟩ := hcut
   cases kq with
   | zero => exact absurd HA.out (by simp [record_series.j0])
   | succ kj3 =>
    have H := HA.out
    clear HA
    simp only [record_series.j0] at H
    by_cases c7 : x24_3 = true
    ·subst c7
     have H1 : (some (0, 0, ([] : List (S52)), ([] : List (S45)), 1)) = some (r1, r2, r3, r4, r5) := by rw [if_pos rfl] at H; exact H
     clear H
     have H := H1
     clear H1
     simp only [Option.some.injEq, Prod.mk.injEq] at H
     obtain ⟨rfl, rfl, rfl, rfl, rfl⟩ := H
     have hcz8_0 : wc.cell? ⟨gb133, 0, none⟩ = some (.int .i64 0) := (blk_cell BK133.out 0).trans rfl
     have hcz8_1 : wc.cell? ⟨gb133, 1, none⟩ = some (.int .u32 0) := (blk_cell BK133.out 1).trans rfl
     have hcz8_2 : wc.cell? ⟨gb133, 2, none⟩ = some (.slice none 0 0) := (blk_cell BK133.out 2).trans rfl
     have hcz8_3 : wc.cell? ⟨gb133, 3, none⟩ = some (.slice none 0 0) := (blk_cell BK133.out 3).trans rfl
     have hfz8_0 := blk_frozen BK133.out 0
     have hfz8_1 := blk_frozen BK133.out 1
     have hfz8_2 := blk_frozen BK133.out 2
     have hfz8_3 := blk_frozen BK133.out 3
     go_wp2
     refine bodyPost_ret (results_ct rfl _ _ gb133 29 #[.int .i64 0, .int .u32 0, .slice none 0 0, .slice none 0 0] (0, 0) _ rfl y23_ Tryd.underlying29 rfl (by kernel_rfl)) rfl ?_
     exact ⟨_, _, y8_, y25_, y25_, y24_⟩
    ·replace c7 := Bool.eq_false_iff.mpr c7
     subst c7
     have H1 : (if 0 ≤ t135 then (if t135 ≤ (l0.length : Int) then ((labels_Take.f kj3 (l0.drop (t135 : Int).toNat)).bind fun bt138 => (if bt138.2.2 = 0 then (if (wrap64 (t135 + bt138.2.1)) < (l0.length : Int) then (some (0, 0, ([] : List (S52)), ([] : List (S45)), 8)) else (some (1, (t134) % 4294967296, bt138.1, ([] : List (S45)), 0))) else (some (0, 0, ([] : List (S52)), ([] : List (S45)), bt138.2.2)))) else (none)) else (none)) = some (r1, r2, r3, r4, r5) := by rw [if_neg (show ¬ (false = true) by decide)] at H; exact H
     clear H
     have H := H1
     clear H1
     by_cases c9 : 0 ≤ t135
     ·rw [if_pos c9] at H
      have c9b0 := eq_true c9
      have c9b1 : decide (0 ≤ t135) = true := decide_eq_true c9
      clear c9
      by_cases c10 : t135 ≤ (l0.length : Int)
      ·rw [if_pos c10] at H
       have c10b0 := eq_true c10
       have c10b1 : decide (t135 ≤ (l0.length : Int)) = true := decide_eq_true c10
       clear c10
       replace H := Option.bind_eq_some_iff.mp H
       obtain ⟨⟨t138, t139, t140⟩, A110, H⟩ := H
       replace H : (if t140 = 0 then (if (wrap64 (t135 + t139)) < (l0.length : Int) then (some (0, 0, ([] : List (S52)), ([] : List (S45)), 8)) else (some (1, (t134) % 4294967296, t138, ([] : List (S45)), 0))) else (some (0, 0, ([] : List (S52)), ([] : List (S45)), t140))) = some (r1, r2, r3, r4, r5) := H
       have A11 := Aside0.mk A110
       clear A110
       by_cases c12 : t140 = 0
       ·rw [if_pos c12] at H
        have c12b0 : (t140 == 0) = true := beq_iff_eq.mpr c12
        have c12b1 : (t140 != 0) = false := bne_eq_false_iff_eq.mpr c12
        clear c12
        by_cases c13 : (wrap64 (t135 + t139)) < (l0.length : Int)
        ·rw [if_pos c13] at H
         have c13b0 : decide ((wrap64 (t135 + t139)) < (l0.length : Int)) = true := decide_eq_true c13
         clear c13
         simp only [Option.some.injEq, Prod.mk.injEq] at H
         obtain ⟨rfl, rfl, rfl, rfl, rfl⟩ := H
         obtain ⟨i014, hi014, _, hsz14, _⟩ := info_parts info5
         obtain ⟨A14, hcut14, hA14, hC14⟩ := print_drop_of (P := Tryd.prog) (Value.int .u8) 0 22 5 .i64 Tryd.underlying22 hi014 hsz14 A0 c0 l0 t135 (of_decide_eq_true y7_) (of_decide_eq_true y7_) HC0.out
         have HR137 := Aside0.mk (Kd.C_of_reads (h1 := fun _ => rfl) (hA14 _ (Kd.reads_of_C HR0.out)))
         have HC137 := Aside0.mk hC14
         clear hA14 hC14 hi014 hsz14
         go_wp2_with (first | ((with_reducible refine gate_callee (f := 39) rfl ?_); refine goesL_ (some 30) rfl rfl Tryd.func39 (by kernel_rfl) rfl #[.slice A14 (l0.drop (t135 : Int).toNat).length (c0 - t135.toNat)] rfl y78_ ?_; (with_reducible refine (labels_Take.calls kj3 _ _ (l0.drop (t135 : Int).toNat) t138 t139 t140 _ ?side1 ?side2 ?side3 A11.out).mono ?_); (case side1 => exact ⟨Tab_below hT.out y24_⟩); (case side2 => repeat (first | exact (Kd.C_below HR137.out HB.out) | (with_reducible refine Kd.C_alloc ?_ _) | (with_reducible refine Kd.C_drewN ?_ _) | (with_reducible refine Kd.C_drew ?_))); (case side3 => exact HC137.out); rintro e w15 ⟨v141, rfl, ho0, hb⟩; refine ⟨_, rfl, ?_⟩; have n0_ := Aside0.mk (Kd.R_lower ho0 (below_size y24_)); have n1_ := Aside0.mk (blk_below (g := gb133) (o := .cells #[.int .i64 0, .int .u32 0, .slice none 0 0, .slice none 0 0] 29 (0, 0)) y65_ hb); have n2_ := Aside0.mk (below_step y24_ hb); clear BK133; clear HB; have HO142 := n0_; have BK133 := n1_; have HB := n2_; clear n0_ n1_ n2_; (try clear hb); (try clear hb2); (try clear hk); (try clear hi); (try clear ho0); have hcz16_0 : w15.cell? ⟨gb133, 0, none⟩ = some (.int .i64 0) := (blk_cell BK133.out 0).trans rfl; have hcz16_1 : w15.cell? ⟨gb133, 1, none⟩ = some (.int .u32 0) := (blk_cell BK133.out 1).trans rfl; have hcz16_2 : w15.cell? ⟨gb133, 2, none⟩ = some (.slice none 0 0) := (blk_cell BK133.out 2).trans rfl; have hcz16_3 : w15.cell? ⟨gb133, 3, none⟩ = some (.slice none 0 0) := (blk_cell BK133.out 3).trans rfl; have hfz16_0 := blk_frozen BK133.out 0; have hfz16_1 := blk_frozen BK133.out 1; have hfz16_2 := blk_frozen BK133.out 2; have hfz16_3 := blk_frozen BK133.out 3))
         refine bodyPost_ret (results_ct rfl _ _ gb133 29 #[.int .i64 0, .int .u32 0, .slice none 0 0, .slice none 0 0] (0, 0) _ rfl y23_ Tryd.underlying29 rfl (by kernel_rfl)) rfl ?_
         exact ⟨_, _, y8_, y25_, y25_, y24_⟩
        ·rw [if_neg c13] at H
         have c13b0 : decide ((wrap64 (t135 + t139)) < (l0.length : Int)) = false := decide_eq_false c13
         clear c13
         simp only [Option.some.injEq, Prod.mk.injEq] at H
         obtain ⟨rfl, rfl, rfl, rfl, rfl⟩ := H
         obtain ⟨i017, hi017, _, hsz17, _⟩ := info_parts info5
         obtain ⟨A17, hcut17, hA17, hC17⟩ := print_drop_of (P := Tryd.prog) (Value.int .u8) 0 22 5 .i64 Tryd.underlying22 hi017 hsz17 A0 c0 l0 t135 (of_decide_eq_true y7_) (of_decide_eq_true y7_) HC0.out
         have HR137 := Aside0.mk (Kd.C_of_reads (h1 := fun _ => rfl) (hA17 _ (Kd.reads_of_C HR0.out)))
         have HC137 := Aside0.mk hC17
         clear hA17 hC17 hi017 hsz17
         go_wp2_with (first | ((with_reducible refine gate_callee (f := 39) rfl ?_); refine goesL_ (some 30) rfl rfl Tryd.func39 (by kernel_rfl) rfl #[.slice A17 (l0.drop (t135 : Int).toNat).length (c0 - t135.toNat)] rfl y78_ ?_; (with_reducible refine (labels_Take.calls kj3 _ _ (l0.drop (t135 : Int).toNat) t138 t139 t140 _ ?side1 ?side2 ?side3 A11.out).mono ?_); (case side1 => exact ⟨Tab_below hT.out y24_⟩); (case side2 => repeat (first | exact (Kd.C_below HR137.out HB.out) | (with_reducible refine Kd.C_alloc ?_ _) | (with_reducible refine Kd.C_drewN ?_ _) | (with_reducible refine Kd.C_drew ?_))); (case side3 => exact HC137.out); rintro e w18 ⟨v141, rfl, ho0, hb⟩; refine ⟨_, rfl, ?_⟩; have n0_ := Aside0.mk (Kd.R_lower ho0 (below_size y24_)); have n1_ := Aside0.mk (blk_below (g := gb133) (o := .cells #[.int .i64 0, .int .u32 0, .slice none 0 0, .slice none 0 0] 29 (0, 0)) y65_ hb); have n2_ := Aside0.mk (below_step y24_ hb); clear BK133; clear HB; have HO142 := n0_; have BK133 := n1_; have HB := n2_; clear n0_ n1_ n2_; (try clear hb); (try clear hb2); (try clear hk); (try clear hi); (try clear ho0); obtain ⟨Ao19, co19, eo19⟩ := Kd.R_slice HO142.out; subst eo19; have hcz20_0 : w18.cell? ⟨gb133, 0, none⟩ = some (.int .i64 0) := (blk_cell BK133.out 0).trans rfl; have hcz20_1 : w18.cell? ⟨gb133, 1, none⟩ = some (.int .u32 0) := (blk_cell BK133.out 1).trans rfl; have hcz20_2 : w18.cell? ⟨gb133, 2, none⟩ = some (.slice none 0 0) := (blk_cell BK133.out 2).trans rfl; have hcz20_3 : w18.cell? ⟨gb133, 3, none⟩ = some (.slice none 0 0) := (blk_cell BK133.out 3).trans rfl; have hfz20_0 := blk_frozen BK133.out 0; have hfz20_1 := blk_frozen BK133.out 1; have hfz20_2 := blk_frozen BK133.out 2; have hfz20_3 := blk_frozen BK133.out 3))
         refine bodyPost_ret (results_ct rfl _ _ gb133 29 #[.int .i64 1, .int .u32 ((t134) % 4294967296), .slice Ao19 t138.length co19, .slice none 0 0] (0, 0) _ rfl (by (with_reducible repeat (first | refine blk_drewN ?_ _ | refine blk_drew ?_ | refine blk_alloc ?_ _)); refine blk_put (cs := #[.int .i64 1, .int .u32 ((t134) % 4294967296), .slice Ao19 t138.length co19, .slice none 0 0]) ?_ 3 _ rfl; (with_reducible repeat (first | refine blk_drewN ?_ _ | refine blk_drew ?_ | refine blk_alloc ?_ _)); refine blk_put (cs := #[.int .i64 1, .int .u32 ((t134) % 4294967296), .slice none 0 0, .slice none 0 0]) ?_ 2 _ rfl; (with_reducible repeat (first | refine blk_drewN ?_ _ | refine blk_drew ?_ | refine blk_alloc ?_ _)); refine blk_put (cs := #[.int .i64 1, .int .u32 0, .slice none 0 0, .slice none 0 0]) ?_ 1 _ rfl; (with_reducible repeat (first | refine blk_drewN ?_ _ | refine blk_drew ?_ | refine blk_alloc ?_ _)); refine blk_put (cs := #[.int .i64 0, .int .u32 0, .slice none 0 0, .slice none 0 0]) ?_ 0 _ rfl; (with_reducible repeat (first | refine blk_drewN ?_ _ | refine blk_drew ?_ | refine blk_alloc ?_ _)); exact BK133.out) Tryd.underlying29 rfl (by kernel_rfl)) rfl ?_
         exact ⟨_, _, y8_, by (with_reducible repeat (first | apply Kd.R_alloc | apply Kd.R_drewN | apply Kd.R_drew)); exact Kd.R_mono (Kd.R_far (p := ⟨gb133, 3, none⟩) (Kd.R_far (p := ⟨gb133, 2, none⟩) (Kd.R_far (p := ⟨gb133, 1, none⟩) (Kd.R_far (p := ⟨gb133, 0, none⟩) (Kd.R_types HO142.out BK133.out (by decide)) (fun _ hk => hk.2) (.int .i64 1)) (fun _ hk => hk.2) (.int .u32 ((t134) % 4294967296))) (fun _ hk => hk.2) (.slice Ao19 t138.length co19)) (fun _ hk => hk.2) (.slice none 0 0)) (fun _ hk => trivial), y25_, y24_⟩
       ·rw [if_neg c12] at H
        have c12b0 : (t140 == 0) = false := beq_eq_false_iff_ne.mpr c12
        have c12b1 : (t140 != 0) = true := bne_iff_ne.mpr c12
        simp only [Option.some.injEq, Prod.mk.injEq] at H
        obtain ⟨rfl, rfl, rfl, rfl, rfl⟩ := H
        obtain ⟨i021, hi021, _, hsz21, _⟩ := info_parts info5
        obtain ⟨A21, hcut21, hA21, hC21⟩ := print_drop_of (P := Tryd.prog) (Value.int .u8) 0 22 5 .i64 Tryd.underlying22 hi021 hsz21 A0 c0 l0 t135 (of_decide_eq_true y7_) (of_decide_eq_true y7_) HC0.out
        have HR137 := Aside0.mk (Kd.C_of_reads (h1 := fun _ => rfl) (hA21 _ (Kd.reads_of_C HR0.out)))
        have HC137 := Aside0.mk hC21
        clear hA21 hC21 hi021 hsz21
        go_wp2_with (first | ((with_reducible refine gate_callee (f := 39) rfl ?_); refine goesL_ (some 30) rfl rfl Tryd.func39 (by kernel_rfl) rfl #[.slice A21 (l0.drop (t135 : Int).toNat).length (c0 - t135.toNat)] rfl y78_ ?_; (with_reducible refine (labels_Take.calls kj3 _ _ (l0.drop (t135 : Int).toNat) t138 t139 t140 _ ?side1 ?side2 ?side3 A11.out).mono ?_); (case side1 => exact ⟨Tab_below hT.out y24_⟩); (case side2 => repeat (first | exact (Kd.C_below HR137.out HB.out) | (with_reducible refine Kd.C_alloc ?_ _) | (with_reducible refine Kd.C_drewN ?_ _) | (with_reducible refine Kd.C_drew ?_))); (case side3 => exact HC137.out); rintro e w22 ⟨v141, rfl, ho0, hb⟩; refine ⟨_, rfl, ?_⟩; have n0_ := Aside0.mk (Kd.R_lower ho0 (below_size y24_)); have n1_ := Aside0.mk (blk_below (g := gb133) (o := .cells #[.int .i64 0, .int .u32 0, .slice none 0 0, .slice none 0 0] 29 (0, 0)) y65_ hb); have n2_ := Aside0.mk (below_step y24_ hb); clear BK133; clear HB; have HO142 := n0_; have BK133 := n1_; have HB := n2_; clear n0_ n1_ n2_; (try clear hb); (try clear hb2); (try clear hk); (try clear hi); (try clear ho0); have hcz23_0 : w22.cell? ⟨gb133, 0, none⟩ = some (.int .i64 0) := (blk_cell BK133.out 0).trans rfl; have hcz23_1 : w22.cell? ⟨gb133, 1, none⟩ = some (.int .u32 0) := (blk_cell BK133.out 1).trans rfl; have hcz23_2 : w22.cell? ⟨gb133, 2, none⟩ = some (.slice none 0 0) := (blk_cell BK133.out 2).trans rfl; have hcz23_3 : w22.cell? ⟨gb133, 3, none⟩ = some (.slice none 0 0) := (blk_cell BK133.out 3).trans rfl; have hfz23_0 := blk_frozen BK133.out 0; have hfz23_1 := blk_frozen BK133.out 1; have hfz23_2 := blk_frozen BK133.out 2; have hfz23_3 := blk_frozen BK133.out 3))
        refine bodyPost_ret (results_ct rfl _ _ gb133 29 #[.int .i64 0, .int .u32 0, .slice none 0 0, .slice none 0 0] (0, 0) _ rfl y23_ Tryd.underlying29 rfl (by kernel_rfl)) rfl ?_
        exact ⟨_, _, y8_, y25_, y25_, y24_⟩
      ·rw [if_neg c10] at H
       exact absurd H (by simp)
     ·rw [if_neg c9] at H
      exact absurd H (by simp)
 ·rw [if_neg c3] at H
  have c3b0 : (t136 == 0) = false := beq_eq_false_iff_ne.mpr c3
  have c3b1 : (t136 != 0) = true := bne_iff_ne.mpr c3
  simp only [Option.some.injEq, Prod.mk.injEq] at H
  obtain ⟨rfl, rfl, rfl, rfl, rfl⟩ := H
  go_enter Tryd.func21, Tryd.ntmps21
  go_wp2_with (first | ((with_reducible refine gate_dst (N := 2) rfl ?_); refine box_event ?hg (N := 2) ?hd (cs := #[.int .i64 0, .int .u32 0, .slice none 0 0, .slice none 0 0]) (t := 29) ?hr ?_; (case hd => rfl); (case hg => rfl); (case hr => first | (go_simp; done) | (go_simp; rfl)); intro gb133 hg w24 hbox hb; have n0_ := Aside0.mk (below_step y1_ hb); have n1_ := Aside0.mk (hbox); have n2_ := Aside0.mk ((y29_ : w.heap.size ≤ gb133)); have n3_ := Aside0.mk ((y29_ : w.heap.size ≤ gb133)); clear HB; have HB := n0_; have BK133 := n1_; have GW133 := n2_; have GE133 := n3_; clear n0_ n1_ n2_ n3_; clear hb hbox hg) | ((with_reducible refine gate_callee (f := 38) rfl ?_); refine goesL_ (some 11) rfl rfl Tryd.func38 (by kernel_rfl) rfl #[.slice A0 l0.length c0] rfl y3_ ?_; (with_reducible refine (bits_Uvarint.calls k _ _ l0 t134 t135 t136 _ ?side1 ?side2 A2.out).mono ?_); (case side1 => repeat (first | exact (Kd.C_below HR0.out HB.out) | (with_reducible refine Kd.C_alloc ?_ _) | (with_reducible refine Kd.C_drewN ?_ _) | (with_reducible refine Kd.C_drew ?_))); (case side2 => exact HC0.out); rintro e w' ⟨rfl, ⟨nd, rfl⟩⟩; refine ⟨_, rfl, ?_⟩; (try (rw [drewN_self w24]; generalize hq_ : World.drewN w24 _ = w24; have n0_ : Aside0 (w24.heap[gb133]? = some (.cells #[.int .i64 0, .int .u32 0, .slice none 0 0, .slice none 0 0] 29 (0, 0))) := ⟨by rw [← hq_]; exact y65_⟩; have n1_ : Aside0 (Below w.heap.size w w24) := ⟨by rw [← hq_]; exact y24_⟩; clear BK133 HB hq_; have BK133 := n0_; have HB := n1_; clear n0_ n1_)); have hcz25_0 : w24.cell? ⟨gb133, 0, none⟩ = some (.int .i64 0) := (blk_cell BK133.out 0).trans rfl; have hcz25_1 : w24.cell? ⟨gb133, 1, none⟩ = some (.int .u32 0) := (blk_cell BK133.out 1).trans rfl; have hcz25_2 : w24.cell? ⟨gb133, 2, none⟩ = some (.slice none 0 0) := (blk_cell BK133.out 2).trans rfl; have hcz25_3 : w24.cell? ⟨gb133, 3, none⟩ = some (.slice none 0 0) := (blk_cell BK133.out 3).trans rfl; have hfz25_0 := blk_frozen BK133.out 0; have hfz25_1 := blk_frozen BK133.out 1; have hfz25_2 := blk_frozen BK133.out 2; have hfz25_3 := blk_frozen BK133.out 3))
  refine bodyPost_ret (results_ct rfl _ _ gb133 29 #[.int .i64 0, .int .u32 0, .slice none 0 0, .slice none 0 0] (0, 0) _ rfl y23_ Tryd.underlying29 rfl (by kernel_rfl)) rfl ?_
  exact ⟨_, _, y8_, y25_, y25_, y24_⟩
def bits_Zag.f (a0 : Int) : Option (Int) := some (Go.bits .xor .i64 (wrap64 (a0 / 2)) (wrap64 (-(wrap64 (Go.bits .and .u64 a0 1)))))
set_option maxHeartbeats 8000000 in
set_option maxRecDepth 100000 in
theorem bits_Zag.calls (a0 : Int) (r : Int) (w : World) (h : bits_Zag.f a0 = some r) :
  Calls Tryd.prog 55 #[.int .u64 a0] w fun e w' => e = .returned (.int .i64 r) ∧ Drawn0 w w' := by
 have H : (some (Go.bits .xor .i64 (wrap64 (a0 / 2)) (wrap64 (-(wrap64 (Go.bits .and .u64 a0 1)))))) = some r := h
 clear h
 obtain rfl := Option.some.inj H
 go_enter Tryd.func55, Tryd.ntmps55
 go_wp2
 go_ret
 exact ⟨y42_, y30_⟩
def bits_Varint.f (k : Nat) (l0 : List Int) : Option (Int × Int × Int) := (bits_Uvarint.f k l0).bind fun bt143 => ((bits_Zag.f bt143.1).bind fun t146 => (some (t146, bt143.2.1, bt143.2.2)))
theorem bits_Varint.mono : ∀ a0 k, LeO (bits_Varint.f k a0) (bits_Varint.f (k + 1) a0) := by
 intro a0 k
 unfold bits_Varint.f
 repeat' first
   | (with_reducible exact bits_Uvarint.mono _ _)
   | (with_reducible exact LeO.refl _)
   | (with_reducible exact LeO.none _)
   | (with_reducible refine LeO.ite ?_ ?_)
   | (with_reducible refine LeO.bind ?_ (fun _ => ?_))
   | exact bits_Uvarint.mono _ _
   | exact LeO.none _
   | refine LeO.ite ?_ ?_
   | refine LeO.bind ?_ (fun _ => ?_)
set_option maxHeartbeats 8000000 in
set_option maxRecDepth 100000 in
theorem bits_Varint.calls (k : Nat) (A0 : Option Addr) (c0 : Nat) (l0 : List Int) (r1 : Int) (r2 : Int) (r3 : Int) (w : World) (hr0 : Kd.C (Kd.int .u8) w A0 l0.length l0) (hc0 : l0.length ≤ c0) (h : bits_Varint.f k l0 = some (r1, r2, r3)) :
  Calls Tryd.prog 41 #[.slice A0 l0.length c0] w fun e w' => e = .returned (.tuple #[.int .i64 r1, .int .i64 r2, .int .i64 r3]) ∧ Drawn0 w w' := by
 have HR0 := Aside0.mk hr0
 have HC0 := Aside0.mk hc0
 clear hr0 hc0
 have H : ((bits_Uvarint.f k l0).bind fun bt143 => ((bits_Zag.f bt143.1).bind fun t146 => (some (t146, bt143.2.1, bt143.2.2)))) = some (r1, r2, r3) := h
 clear h
 replace H := Option.bind_eq_some_iff.mp H
 obtain ⟨⟨t143, t144, t145⟩, A20, H⟩ := H
 replace H : ((bits_Zag.f t143).bind fun t146 => (some (t146, t144, t145))) = some (r1, r2, r3) := H
 have A2 := Aside0.mk A20
 clear A20
 replace H := Option.bind_eq_some_iff.mp H
 obtain ⟨t146, A30, H⟩ := H
 replace H : (some (t146, t144, t145)) = some (r1, r2, r3) := H
 have A3 := Aside0.mk A30
 clear A30
 simp only [Option.some.injEq, Prod.mk.injEq] at H
 obtain ⟨rfl, rfl, rfl⟩ := H
 go_enter Tryd.func41, Tryd.ntmps41
 go_wp2_with (first | ((with_reducible refine gate_callee (f := 38) rfl ?_); refine goesL_ (some 10) rfl rfl Tryd.func38 (by kernel_rfl) rfl #[.slice A0 l0.length c0] rfl y3_ ?_; (with_reducible refine (bits_Uvarint.calls k _ _ l0 t143 t144 t145 _ ?side1 ?side2 A2.out).mono ?_); (case side1 => repeat (first | exact HR0.out | (with_reducible refine Kd.C_alloc ?_ _) | (with_reducible refine Kd.C_drewN ?_ _) | (with_reducible refine Kd.C_drew ?_))); (case side2 => exact HC0.out); rintro e w' ⟨rfl, ⟨nd, rfl⟩⟩; refine ⟨_, rfl, ?_⟩) | ((with_reducible refine gate_callee (f := 55) rfl ?_); refine goesL_ (some 15) rfl rfl Tryd.func55 (by kernel_rfl) rfl #[.int .u64 t143] rfl y3_ ?_; (with_reducible refine (bits_Zag.calls t143 t146 _ A3.out).mono ?_); rintro e w' ⟨rfl, ⟨nd, rfl⟩⟩; refine ⟨_, rfl, ?_⟩))
 go_ret3
 exact ⟨y42_, y30_⟩
end Go.Proofs.YtdckhaejhfkkbaaDoor.PRT
