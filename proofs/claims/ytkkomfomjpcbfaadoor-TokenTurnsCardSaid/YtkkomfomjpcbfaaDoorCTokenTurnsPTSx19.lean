import Derived.Test.YtkkomfomjpcbfaaDoorCTokenTurnsPLAx0
import Derived.Test.YtkkomfomjpcbfaaDoorCTokenTurnsPTSx1
import Derived.Test.YtkkomfomjpcbfaaDoorCTokenTurnsPTSx5
import Derived.Test.YtkkomfomjpcbfaaDoorCTokenTurnsPTSx7
import Derived.Test.YtkkomfomjpcbfaaDoorCTokenTurnsPTSx8
import Derived.Test.YtkkomfomjpcbfaaDoorCTokenTurnsPTSx16
import Derived.Laws.RangeAny
import Derived.Lib.OthersKept
import Derived.Test.YtkkomfomjpcbfaaDoorCTokenTurnsG1
import Derived.Test.YtkkomfomjpcbfaaDoorCTokenTurnsTT
import Derived.Test.YtkkomfomjpcbfaaDoorCTokenTurnsY
namespace Go.Proofs.YtkkomfomjpcbfaaDoor.PTS
open Go.RowKit Go.Proofs.YtkkomfomjpcbfaaDoorW.PrintWords Go.Proofs.YtkkomfomjpcbfaaDoorW.PrintLast Go.Proofs.YtkkomfomjpcbfaaDoorW.PrintMore
attribute [local go_sem] max2_int min2_int max_two min_two max_three min_three max_four min_four
set_option linter.unusedVariables false
set_option linter.unusedSimpArgs false
attribute [local go_sem high] eqA26
mutual
def manometerlaw17_TokenTurns.j0 : Nat → ByteArray → List (S43) → Int → Int → Int → Int → Bool → Option (Bool)
 | 0, _, _, _, _, _, _, _ => none
 | k + 1, x0, x1, x2, x3, x4, x5, x35 => if x35 = true then ((manometerlaw17_live.f k).bind fun t508 => (some t508)) else ((token_Verify.f k x0 x1 x2 x4).bind fun bt509 => ((token_Read.f k x0).bind fun bt519 => (manometerlaw17_TokenTurns.l0 k x0 x1 x2 x3 x4 x5 bt509.2.2.2.2.2 (([] : List (S43))) bt519.2.2.2.2.2 x1 (x1.length : Int) 0 bt509.1 bt509.2.1 bt509.2.2.1 bt509.2.2.2.1 bt509.2.2.2.2.1 bt519.1 bt519.2.1 bt519.2.2.1 bt519.2.2.2.1 bt519.2.2.2.2.1)))
def manometerlaw17_TokenTurns.l0 : Nat → ByteArray → List (S43) → Int → Int → Int → Int → Int → List (S43) → Int → List (S43) → Int → Int → ByteArray → Int → Int → Int → Int → ByteArray → Int → Int → Int → Int → Option (Bool)
 | 0, _, _, _, _, _, _, _, _, _, _, _, _, _, _, _, _, _, _, _, _, _, _ => none
 | k + 1, x0, x1, x2, x3, x4, x5, x14, x15, x17, x51, x52, x53, x516000, x516001, x516002, x516003, x516004, x526000, x526001, x526002, x526003, x526004 => if x53 < x52 then (if 0 ≤ x53 then (if x53 < (x51.length : Int) then (if x17 = 0 then (if ((rd_T43 x51 x53).f0).toList = x526000.toList then (if x15.length < 3518437208883 then (manometerlaw17_TokenTurns.l0 k x0 x1 x2 x3 x4 x5 x14 (x15 ++ [(⟨(rd_T43 x51 x53).f0, (⟨(rd_T43 x51 x53).f1.f0, (rd_T43 x51 x53).f1.f1⟩ : S23)⟩ : S43)]) x17 x51 x52 (wrap64 (x53 + 1)) x516000 x516001 x516002 x516003 x516004 x526000 x526001 x526002 x526003 x526004) else (none)) else (manometerlaw17_TokenTurns.l0 k x0 x1 x2 x3 x4 x5 x14 x15 x17 x51 x52 (wrap64 (x53 + 1)) x516000 x516001 x516002 x516003 x516004 x526000 x526001 x526002 x526003 x526004)) else (manometerlaw17_TokenTurns.l0 k x0 x1 x2 x3 x4 x5 x14 x15 x17 x51 x52 (wrap64 (x53 + 1)) x516000 x516001 x516002 x516003 x516004 x526000 x526001 x526002 x526003 x526004)) else (none)) else (none)) else ((token_Verify.f k x0 x15 x2 x4).bind fun bt531 => (if (!(x516000.toList == bt531.1.toList) || (!(x516001 == bt531.2.1) || (!(x516002 == bt531.2.2.1) || (!(x516003 == bt531.2.2.2.1) || (!(x516004 == bt531.2.2.2.2.1)))))) = true then (manometerlaw17_TokenTurns.j2 k x0 x1 x2 x3 x4 x5 x14 true x516000 x516001 x516002 x516003 x516004) else (manometerlaw17_TokenTurns.j2 k x0 x1 x2 x3 x4 x5 x14 (x14 != bt531.2.2.2.2.2) x516000 x516001 x516002 x516003 x516004)))
def manometerlaw17_TokenTurns.j2 : Nat → ByteArray → List (S43) → Int → Int → Int → Int → Int → Bool → ByteArray → Int → Int → Int → Int → Option (Bool)
 | 0, _, _, _, _, _, _, _, _, _, _, _, _, _ => none
 | k + 1, x0, x1, x2, x3, x4, x5, x14, x86, x516000, x516001, x516002, x516003, x516004 => if x86 = true then (some false) else (if x14 = 0 then (if x3 > x2 then (some true) else ((token_Verify.f k x0 x1 x3 (Go.bits .and .u8 x4 x5)).bind fun bt538 => (if bt538.2.2.2.2.2 = 0 then (some (bt538.1.toList == x516000.toList && (bt538.2.1 == x516001 && (bt538.2.2.1 == x516002 && (bt538.2.2.2.1 == x516003 && (bt538.2.2.2.2.1 == x516004)))))) else (some false)))) else (some (x516000.toList == ([] : List UInt8) && (x516001 == 0 && (x516002 == 0 && (x516003 == 0 && (x516004 == 0)))))))
end
def manometerlaw17_TokenTurns.f (k : Nat) (a0 : ByteArray) (l1 : List (S43)) (a2 : Int) (a3 : Int) (a4 : Int) (a5 : Int) : Option (Bool) := (manometerlaw17_live.f k).bind fun t506 => (if t506 = true then (if (a0.size : Int) > 1000 then (manometerlaw17_TokenTurns.j0 k a0 l1 a2 a3 a4 a5 true) else ((manometerlaw17_few.f k l1).bind fun t507 => (manometerlaw17_TokenTurns.j0 k a0 l1 a2 a3 a4 a5 (!t507)))) else (manometerlaw17_TokenTurns.j0 k a0 l1 a2 a3 a4 a5 true))
set_option maxHeartbeats 8000000 in
set_option maxRecDepth 100000 in
theorem manometerlaw17_TokenTurns.calls (k : Nat) (a0 : ByteArray) (A1 : Option Addr) (c1 : Nat) (l1 : List (S43)) (a2 : Int) (a3 : Int) (a4 : Int) (a5 : Int) (r : Bool) (w : World) (hT : Aside0 (Tab w)) (hr1 : Kd.C k43 w A1 l1.length l1) (hc1 : l1.length ≤ c1) (h : manometerlaw17_TokenTurns.f k a0 l1 a2 a3 a4 a5 = some r) :
  Calls Tryd.prog 8 #[.string a0, .slice A1 l1.length c1, .int .i64 a2, .int .i64 a3, .int .u8 a4, .int .u8 a5] w fun e w' => e = .returned (.bool r) ∧ Below w.heap.size w w' := by
 have hu26 := Tryd.underlying26
 have hu43 := Tryd.underlying43
 have HR1 := Aside0.mk hr1
 have HC1 := Aside0.mk hc1
 clear hr1 hc1
 have HB := Aside0.mk (Below.refl w.heap.size w)
 have H : ((manometerlaw17_live.f k).bind fun t506 => (if t506 = true then (if (a0.size : Int) > 1000 then (manometerlaw17_TokenTurns.j0 k a0 l1 a2 a3 a4 a5 true) else ((manometerlaw17_few.f k l1).bind fun t507 => (manometerlaw17_TokenTurns.j0 k a0 l1 a2 a3 a4 a5 (!t507)))) else (manometerlaw17_TokenTurns.j0 k a0 l1 a2 a3 a4 a5 true))) = some r := h
 clear h
 have HC7 := Aside0.mk H
 clear H
 go_enter Tryd.func8, Tryd.ntmps8
 go_upto_region 1 with (fail)
 go_cut [35] (fun v35 wc => ∃ (kq : Nat) (x35_6 : Bool), v35 = .bool x35_6 ∧ Aside0 (manometerlaw17_TokenTurns.j0 kq a0 l1 a2 a3 a4 a5 x35_6 = some r) ∧ Aside0 (kq ≤ k) ∧ Aside0 (Below w.heap.size w wc))
 case first =>
  have H := HC7.out
  clear HC7
  replace H := Option.bind_eq_some_iff.mp H
  obtain ⟨t506, A80, H⟩ := H
  replace H : (if t506 = true then (if (a0.size : Int) > 1000 then (manometerlaw17_TokenTurns.j0 k a0 l1 a2 a3 a4 a5 true) else ((manometerlaw17_few.f k l1).bind fun t507 => (manometerlaw17_TokenTurns.j0 k a0 l1 a2 a3 a4 a5 (!t507)))) else (manometerlaw17_TokenTurns.j0 k a0 l1 a2 a3 a4 a5 true)) = some r := H
  have A8 := Aside0.mk A80
  clear A80
  by_cases c9 : t506 = true
  ·subst c9
   have H1 : (if (a0.size : Int) > 1000 then (manometerlaw17_TokenTurns.j0 k a0 l1 a2 a3 a4 a5 true) else ((manometerlaw17_few.f k l1).bind fun t507 => (manometerlaw17_TokenTurns.j0 k a0 l1 a2 a3 a4 a5 (!t507)))) = some r := by rw [if_pos rfl] at H; exact H
   clear H
   have H := H1
   clear H1
   by_cases c10 : (a0.size : Int) > 1000
   ·rw [if_pos c10] at H
    have c10b0 : decide (1000 < (a0.size : Int)) = true := decide_eq_true c10
    have c10b1 : decide (1000 < a0.size) = true := decide_eq_true (by omega)
    clear c10
    (first | rw [c10b0] | (simp only [i64_w, i32_w]; rw [c10b0]) | skip)
    have H' := Aside0.mk H
    clear H
    go_wp2_with (first | ((with_reducible refine gate_callee (f := 9) rfl ?_); refine goesL_ (some 24) rfl rfl Tryd.func9 (by kernel_rfl) rfl #[] rfl y4_ ?_; (with_reducible refine (manometerlaw17_live.calls k  true _ ?side1 A8.out).mono ?_); (case side1 => exact ⟨Tab_below hT.out y1_⟩); rintro e w11 ⟨rfl, hb⟩; refine ⟨_, rfl, ?_⟩; have n0_ := Aside0.mk (below_step y1_ hb); clear HB; have HB := n0_; clear n0_; (try clear hb); (try clear hb2); (try clear hk); (try clear hi)))
    go_meet
    case rel => exact ⟨_, (true), y3_, H', ⟨y77_⟩, ⟨y1_⟩⟩
   ·rw [if_neg c10] at H
    have c10b0 : decide (1000 < (a0.size : Int)) = false := decide_eq_false c10
    have c10b1 : decide (1000 < a0.size) = false := decide_eq_false (by omega)
    clear c10
    (first | rw [c10b0] | (simp only [i64_w, i32_w]; rw [c10b0]) | skip)
    replace H := Option.bind_eq_some_iff.mp H
    obtain ⟨t507, A120, H⟩ := H
    replace H : (manometerlaw17_TokenTurns.j0 k a0 l1 a2 a3 a4 a5 (!t507)) = some r := H
    have A12 := Aside0.mk A120
    clear A120
    have H' := Aside0.mk H
    clear H
    go_wp2_with (first | ((with_reducible refine gate_callee (f := 9) rfl ?_); refine goesL_ (some 24) rfl rfl Tryd.func9 (by kernel_rfl) rfl #[] rfl y4_ ?_; (with_reducible refine (manometerlaw17_live.calls k  true _ ?side1 A8.out).mono ?_); (case side1 => exact ⟨Tab_below hT.out y1_⟩); rintro e w13 ⟨rfl, hb⟩; refine ⟨_, rfl, ?_⟩; have n0_ := Aside0.mk (below_step y1_ hb); clear HB; have HB := n0_; clear n0_; (try clear hb); (try clear hb2); (try clear hk); (try clear hi)) | (go_at_call 22; (with_reducible refine (manometerlaw17_few.calls k _ _ l1 t507 _ ?side1 ?side2 A12.out).mono ?_); (case side1 => repeat (first | exact (Kd.C_below HR1.out HB.out) | (with_reducible refine Kd.C_alloc ?_ _) | (with_reducible refine Kd.C_drewN ?_ _) | (with_reducible refine Kd.C_drew ?_))); (case side2 => exact HC1.out); rintro e w14 ⟨rfl, hb⟩; have n0_ := Aside0.mk (below_step y1_ hb); clear HB; have HB := n0_; clear n0_; (try clear hb); (try clear hb2); (try clear hk); (try clear hi)))
    go_meet
    case rel => exact ⟨_, (!t507), y3_, H', ⟨y77_⟩, ⟨y1_⟩⟩
  ·replace c9 := Bool.eq_false_iff.mpr c9
   subst c9
   have H1 : (manometerlaw17_TokenTurns.j0 k a0 l1 a2 a3 a4 a5 true) = some r := by rw [if_neg (show ¬ (false = true) by decide)] at H; exact H
   clear H
   have H := H1
   clear H1
   have H' := Aside0.mk H
   clear H
   go_wp2_with (first | ((with_reducible refine gate_callee (f := 9) rfl ?_); refine goesL_ (some 24) rfl rfl Tryd.func9 (by kernel_rfl) rfl #[] rfl y4_ ?_; (with_reducible refine (manometerlaw17_live.calls k  false _ ?side1 A8.out).mono ?_); (case side1 => exact ⟨Tab_below hT.out y1_⟩); rintro e w15 ⟨rfl, hb⟩; refine ⟨_, rfl, ?_⟩; have n0_ := Aside0.mk (below_step y1_ hb); clear HB; have HB := n0_; clear n0_; (try clear hb); (try clear hb2); (try clear hk); (try clear hi)))
   go_meet
   case rel => exact ⟨_, (true), y3_, H', ⟨y77_⟩, ⟨y1_⟩⟩
 case rest =>
  clear HC7
  try clear c1
  try clear p2
  try clear c8
  try clear c9
  try clear c10
  try clear c10b0
  try clear c10b1
  obtain ⟨kq, x35_6, rfl, HA, HJ6, HB⟩ := hcut
  cases kq with
  | zero => exact absurd HA.out (by simp [manometerlaw17_TokenTurns.j0])
  | succ kj6 =>
   have H := HA.out
   clear HA
   simp only [manometerlaw17_TokenTurns.j0] at H
   by_cases c16 : x35_6 = true
   ·subst c16
    have H1 : ((manometerlaw17_live.f kj6).bind fun t508 => (some t508)) = some r := by rw [if_pos rfl] at H; exact H
    clear H
    have H := H1
    clear H1
    replace H := Option.bind_eq_some_iff.mp H
    obtain ⟨t508, A170, H⟩ := H
    replace H : (some t508) = some r := H
    have A17 := Aside0.mk A170
    clear A170
    obtain rfl := Option.some.inj H
    go_wp2_with (first | ((with_reducible refine gate_callee (f := 9) rfl ?_); refine goesL_ (some 36) rfl rfl Tryd.func9 (by kernel_rfl) rfl #[] rfl y4_ ?_; (with_reducible refine (manometerlaw17_live.calls kj6  t508 _ ?side1 A17.out).mono ?_); (case side1 => exact ⟨Tab_below hT.out y1_⟩); rintro e w18 ⟨rfl, hb⟩; refine ⟨_, rfl, ?_⟩; have n0_ := Aside0.mk (below_step y1_ hb); clear HB; have HB := n0_; clear n0_; (try clear hb); (try clear hb2); (try clear hk); (try clear hi)))
    go_ret
    exact ⟨y8_, y1_⟩
   ·replace c16 := Bool.eq_false_iff.mpr c16
    subst c16
    have H1 : ((token_Verify.f kj6 a0 l1 a2 a4).bind fun bt509 => ((token_Read.f kj6 a0).bind fun bt519 => (manometerlaw17_TokenTurns.l0 kj6 a0 l1 a2 a3 a4 a5 bt509.2.2.2.2.2 (([] : List (S43))) bt519.2.2.2.2.2 l1 (l1.length : Int) 0 bt509.1 bt509.2.1 bt509.2.2.1 bt509.2.2.2.1 bt509.2.2.2.2.1 bt519.1 bt519.2.1 bt519.2.2.1 bt519.2.2.2.1 bt519.2.2.2.2.1))) = some r := by rw [if_neg (show ¬ (false = true) by decide)] at H; exact H
    clear H
    have H := H1
    clear H1
    replace H := Option.bind_eq_some_iff.mp H
    obtain ⟨⟨t509, t510, t511, t512, t513, t514⟩, A190, H⟩ := H
    replace H : ((token_Read.f kj6 a0).bind fun bt519 => (manometerlaw17_TokenTurns.l0 kj6 a0 l1 a2 a3 a4 a5 t514 (([] : List (S43))) bt519.2.2.2.2.2 l1 (l1.length : Int) 0 t509 t510 t511 t512 t513 bt519.1 bt519.2.1 bt519.2.2.1 bt519.2.2.2.1 bt519.2.2.2.2.1)) = some r := H
    have A19 := Aside0.mk A190
    clear A190
    obtain ⟨y516, hy516⟩ : ∃ y_ : List (S43), y_ = (([] : List (S43))) := ⟨_, rfl⟩
    replace H : ((token_Read.f kj6 a0).bind fun bt519 => (manometerlaw17_TokenTurns.l0 kj6 a0 l1 a2 a3 a4 a5 t514 y516 bt519.2.2.2.2.2 l1 (l1.length : Int) 0 t509 t510 t511 t512 t513 bt519.1 bt519.2.1 bt519.2.2.1 bt519.2.2.2.1 bt519.2.2.2.2.1)) = some r := by first | (rw [hy516]; with_reducible exact H) | (have H2_ := (Option.bind_some _ _).symm.trans H; rw [hy516]; with_reducible exact H2_) | (have H2_ := (Option.bind_some _ _).symm.trans H; with_reducible exact H2_) | with_reducible exact H | (rw [hy516]; exact H) | exact H
    have Ny516 := Aside0.mk hy516
    clear hy516
    replace H := Option.bind_eq_some_iff.mp H
    obtain ⟨⟨t519, t520, t521, t522, t523, t524⟩, A200, H⟩ := H
    replace H : (manometerlaw17_TokenTurns.l0 kj6 a0 l1 a2 a3 a4 a5 t514 y516 t524 l1 (l1.length : Int) 0 t509 t510 t511 t512 t513 t519 t520 t521 t522 t523) = some r := H
    have A20 := Aside0.mk A200
    clear A200
    have H' := Aside0.mk H
    clear H
    go_wp2_with (first | ((with_reducible refine gate_callee (f := 23) rfl ?_); refine goesL_ (some 42) rfl rfl Tryd.func23 (by kernel_rfl) rfl #[.string a0, .slice A1 l1.length c1, .int .i64 a2, .int .u8 a4] rfl y4_ ?_; (with_reducible refine (token_Verify.calls kj6 a0 _ _ l1 a2 a4 t509 t510 t511 t512 t513 t514 _ ?side1 ?side2 ?side3 A19.out).mono ?_); (case side1 => exact ⟨Tab_below hT.out y1_⟩); (case side2 => repeat (first | exact (Kd.C_below HR1.out HB.out) | (with_reducible refine Kd.C_alloc ?_ _) | (with_reducible refine Kd.C_drewN ?_ _) | (with_reducible refine Kd.C_drew ?_))); (case side3 => exact HC1.out); rintro e w21 ⟨rfl, hb⟩; refine ⟨_, rfl, ?_⟩; have n0_ := Aside0.mk (below_step y1_ hb); clear HB; have HB := n0_; clear n0_; (try clear hb); (try clear hb2); (try clear hk); (try clear hi)) | ((with_reducible refine gate_dst (N := 13) rfl ?_); (try (refine gate_guard (by rfl) ?_; dsimp only)); refine box_event ?hg (N := 13) ?hd (cs := #[.string (⟨#[]⟩ : ByteArray), .int .i64 0, .int .i64 0, .int .u8 0, .int .u64 0]) (t := 26) ?hr ?_; (case hd => rfl); (case hg => rfl); (case hr => first | (go_simp; done) | (go_simp; rfl)); intro gb515 hg w22 hbox hb; have n0_ := Aside0.mk (below_step y1_ hb); have n1_ := Aside0.mk (hbox); have n2_ := Aside0.mk ((y42_ : w.heap.size ≤ gb515)); have n3_ := Aside0.mk ((y42_ : w.heap.size ≤ gb515)); clear HB; have HB := n0_; have BK515 := n1_; have GW515 := n2_; have GE515 := n3_; clear n0_ n1_ n2_ n3_; clear hb hbox hg; have hcz23_0 : w22.cell? ⟨gb515, 0, none⟩ = some (.string (⟨#[]⟩ : ByteArray)) := (blk_cell BK515.out 0).trans rfl; have hcz23_1 : w22.cell? ⟨gb515, 1, none⟩ = some (.int .i64 0) := (blk_cell BK515.out 1).trans rfl; have hcz23_2 : w22.cell? ⟨gb515, 2, none⟩ = some (.int .i64 0) := (blk_cell BK515.out 2).trans rfl; have hcz23_3 : w22.cell? ⟨gb515, 3, none⟩ = some (.int .u8 0) := (blk_cell BK515.out 3).trans rfl; have hcz23_4 : w22.cell? ⟨gb515, 4, none⟩ = some (.int .u64 0) := (blk_cell BK515.out 4).trans rfl; have hfz23_0 := blk_frozen BK515.out 0; have hfz23_1 := blk_frozen BK515.out 1; have hfz23_2 := blk_frozen BK515.out 2; have hfz23_3 := blk_frozen BK515.out 3; have hfz23_4 := blk_frozen BK515.out 4) | ((with_reducible refine gate_dst (N := 45) rfl ?_); (try (refine gate_guard (by rfl) ?_; dsimp only)); refine Kd.R_lit k43 _ 43 ?hg (N := 45) ?hd (xs := ([] : List (S43))) (inner := []) (ok := fun _ => True) (okp := fun _ => True) ?hr ?hp (fun _ hk => hk) trivial (Below.refl _ _) (Nat.le_refl _) (by simp) ?_; (case hd => rfl); (case hg => rfl); (case hr => first | (go_simp; done) | (go_simp; rfl)); (case hp => exact (Reps.none _ _)); intro v517 w24 ho25 hb hg_ hnew_; clear hg_ hnew_; (first | rw [← Ny516.out] at ho25 | (simp only [Int.reduceToNat] at ho25; rw [← Ny516.out] at ho25)); have n0_ := Aside0.mk (Kd.R_lower ho25 (below_size y43_)); have n1_ := Aside0.mk (blk_below (g := gb515) (o := .cells #[.string t509, .int .i64 t510, .int .i64 t511, .int .u8 t512, .int .u64 t513] 26 (0, 0)) (by (with_reducible repeat (first | refine blk_drewN ?_ _ | refine blk_drew ?_ | refine blk_alloc ?_ _)); refine blk_put (cs := #[.string t509, .int .i64 t510, .int .i64 t511, .int .u8 t512, .int .u64 0]) ?_ 4 _ rfl; (with_reducible repeat (first | refine blk_drewN ?_ _ | refine blk_drew ?_ | refine blk_alloc ?_ _)); refine blk_put (cs := #[.string t509, .int .i64 t510, .int .i64 t511, .int .u8 0, .int .u64 0]) ?_ 3 _ rfl; (with_reducible repeat (first | refine blk_drewN ?_ _ | refine blk_drew ?_ | refine blk_alloc ?_ _)); refine blk_put (cs := #[.string t509, .int .i64 t510, .int .i64 0, .int .u8 0, .int .u64 0]) ?_ 2 _ rfl; (with_reducible repeat (first | refine blk_drewN ?_ _ | refine blk_drew ?_ | refine blk_alloc ?_ _)); refine blk_put (cs := #[.string t509, .int .i64 0, .int .i64 0, .int .u8 0, .int .u64 0]) ?_ 1 _ rfl; (with_reducible repeat (first | refine blk_drewN ?_ _ | refine blk_drew ?_ | refine blk_alloc ?_ _)); refine blk_put (cs := #[.string (⟨#[]⟩ : ByteArray), .int .i64 0, .int .i64 0, .int .u8 0, .int .u64 0]) ?_ 0 _ rfl; (with_reducible repeat (first | refine blk_drewN ?_ _ | refine blk_drew ?_ | refine blk_alloc ?_ _)); exact BK515.out) hb); have n2_ := Aside0.mk (below_step y43_ hb); clear BK515; clear HB; have HO518 := n0_; have BK515 := n1_; have HB := n2_; clear n0_ n1_ n2_; clear hb ho25) | ((with_reducible refine gate_callee (f := 18) rfl ?_); refine goesL_ (some 48) rfl rfl Tryd.func18 (by kernel_rfl) rfl #[.string a0] rfl y4_ ?_; (with_reducible refine (token_Read.calls kj6 a0 t519 t520 t521 t522 t523 t524 _ A20.out).mono ?_); rintro e w26 ⟨rfl, hb⟩; refine ⟨_, rfl, ?_⟩; have n0_ := Aside0.mk (Kd.R_below (by (with_reducible repeat (first | apply Kd.R_alloc | apply Kd.R_drewN | apply Kd.R_drew)); exact HO518.out) hb); have n1_ := Aside0.mk (blk_below (g := gb515) (o := .cells #[.string t509, .int .i64 t510, .int .i64 t511, .int .u8 t512, .int .u64 t513] 26 (0, 0)) y11_ hb); have n2_ := Aside0.mk (below_step y43_ hb); clear HO518; clear BK515; clear HB; have HO518 := n0_; have BK515 := n1_; have HB := n2_; clear n0_ n1_ n2_; (try clear hb); (try clear hb2); (try clear hk); (try clear hi)) | ((with_reducible refine gate_dst (N := 16) rfl ?_); (try (refine gate_guard (by rfl) ?_; dsimp only)); refine box_event ?hg (N := 16) ?hd (cs := #[.string (⟨#[]⟩ : ByteArray), .int .i64 0, .int .i64 0, .int .u8 0, .int .u64 0]) (t := 26) ?hr ?_; (case hd => rfl); (case hg => rfl); (case hr => first | (go_simp; done) | (go_simp; rfl)); intro gb525 hg w27 hbox hb; have n0_ := Aside0.mk (Kd.R_below (by (with_reducible repeat (first | apply Kd.R_alloc | apply Kd.R_drewN | apply Kd.R_drew)); exact HO518.out) hb); have n1_ := Aside0.mk (blk_below (g := gb515) (o := .cells #[.string t509, .int .i64 t510, .int .i64 t511, .int .u8 t512, .int .u64 t513] 26 (0, 0)) y11_ hb); have n2_ := Aside0.mk (below_step y43_ hb); have n3_ := Aside0.mk (hbox); have n4_ := Aside0.mk ((by rw [hg]; exact (below_size y43_) : w.heap.size ≤ gb525)); have n5_ := Aside0.mk ((by rw [hg]; exact (below_size y43_) : w.heap.size ≤ gb525)); have n6_ := Aside0.mk ((y35_ : gb515 ≠ gb525)); have n7_ := Aside0.mk ((y36_ : gb525 ≠ gb515)); clear HO518; clear BK515; clear HB; have HO518 := n0_; have BK515 := n1_; have HB := n2_; have BK525 := n3_; have GW525 := n4_; have GE525 := n5_; have NB515_525 := n6_; have NB525_515 := n7_; clear n0_ n1_ n2_ n3_ n4_ n5_ n6_ n7_; clear hb hbox hg; have hnb28 := NB525_515.out; have hnc28 := NB515_525.out; have hcz29_0 : w27.cell? ⟨gb525, 0, none⟩ = some (.string (⟨#[]⟩ : ByteArray)) := (blk_cell BK525.out 0).trans rfl; have hcz29_1 : w27.cell? ⟨gb525, 1, none⟩ = some (.int .i64 0) := (blk_cell BK525.out 1).trans rfl; have hcz29_2 : w27.cell? ⟨gb525, 2, none⟩ = some (.int .i64 0) := (blk_cell BK525.out 2).trans rfl; have hcz29_3 : w27.cell? ⟨gb525, 3, none⟩ = some (.int .u8 0) := (blk_cell BK525.out 3).trans rfl; have hcz29_4 : w27.cell? ⟨gb525, 4, none⟩ = some (.int .u64 0) := (blk_cell BK525.out 4).trans rfl; have hfz29_0 := blk_frozen BK525.out 0; have hfz29_1 := blk_frozen BK525.out 1; have hfz29_2 := blk_frozen BK525.out 2; have hfz29_3 := blk_frozen BK525.out 3; have hfz29_4 := blk_frozen BK525.out 4))
    go_loopg [15, 53] kj6 (fun kq v15 v53 w' => ∃ (x15_2 : List (S43)) (x53_2 : Int), v53 = .int .i64 x53_2 ∧ Aside0 (manometerlaw17_TokenTurns.l0 kq a0 l1 a2 a3 a4 a5 t514 x15_2 t524 l1 (l1.length : Int) x53_2 t509 t510 t511 t512 t513 t519 t520 t521 t522 t523 = some r) ∧ Aside0 (kq ≤ kj6) ∧ Aside0 (Kd.R k43 43 w' w.heap.size (fun _ => True) v15 x15_2) ∧ Aside0 (w'.heap[gb515]? = some (.cells #[.string t509, .int .i64 t510, .int .i64 t511, .int .u8 t512, .int .u64 t513] 26 (0, 0))) ∧ Aside0 (w'.heap[gb525]? = some (.cells #[.string t519, .int .i64 t520, .int .i64 t521, .int .u8 t522, .int .u64 t523] 26 (0, 0))) ∧ Aside0 (Below w.heap.size w w'))
    case atStart => exact ⟨(y516), (0), y3_, H', ⟨Nat.le_refl _⟩, ⟨by (with_reducible repeat (first | apply Kd.R_alloc | apply Kd.R_drewN | apply Kd.R_drew)); exact Kd.R_mono (Kd.R_far (p := ⟨gb525, 4, none⟩) (Kd.R_far (p := ⟨gb525, 3, none⟩) (Kd.R_far (p := ⟨gb525, 2, none⟩) (Kd.R_far (p := ⟨gb525, 1, none⟩) (Kd.R_far (p := ⟨gb525, 0, none⟩) (Kd.R_types HO518.out BK525.out (by decide)) (fun _ hk => hk.2) (.string t519)) (fun _ hk => hk.2) (.int .i64 t520)) (fun _ hk => hk.2) (.int .i64 t521)) (fun _ hk => hk.2) (.int .u8 t522)) (fun _ hk => hk.2) (.int .u64 t523)) (fun _ hk => trivial)⟩, ⟨by (with_reducible repeat (first | refine blk_drewN ?_ _ | refine blk_drew ?_ | refine blk_alloc ?_ _)); refine blk_far ?_ NB515_525.out _; (with_reducible repeat (first | refine blk_drewN ?_ _ | refine blk_drew ?_ | refine blk_alloc ?_ _)); refine blk_far ?_ NB515_525.out _; (with_reducible repeat (first | refine blk_drewN ?_ _ | refine blk_drew ?_ | refine blk_alloc ?_ _)); refine blk_far ?_ NB515_525.out _; (with_reducible repeat (first | refine blk_drewN ?_ _ | refine blk_drew ?_ | refine blk_alloc ?_ _)); refine blk_far ?_ NB515_525.out _; (with_reducible repeat (first | refine blk_drewN ?_ _ | refine blk_drew ?_ | refine blk_alloc ?_ _)); refine blk_far ?_ NB515_525.out _; (with_reducible repeat (first | refine blk_drewN ?_ _ | refine blk_drew ?_ | refine blk_alloc ?_ _)); exact BK515.out⟩, ⟨by (with_reducible repeat (first | refine blk_drewN ?_ _ | refine blk_drew ?_ | refine blk_alloc ?_ _)); refine blk_put (cs := #[.string t519, .int .i64 t520, .int .i64 t521, .int .u8 t522, .int .u64 0]) ?_ 4 _ rfl; (with_reducible repeat (first | refine blk_drewN ?_ _ | refine blk_drew ?_ | refine blk_alloc ?_ _)); refine blk_put (cs := #[.string t519, .int .i64 t520, .int .i64 t521, .int .u8 0, .int .u64 0]) ?_ 3 _ rfl; (with_reducible repeat (first | refine blk_drewN ?_ _ | refine blk_drew ?_ | refine blk_alloc ?_ _)); refine blk_put (cs := #[.string t519, .int .i64 t520, .int .i64 0, .int .u8 0, .int .u64 0]) ?_ 2 _ rfl; (with_reducible repeat (first | refine blk_drewN ?_ _ | refine blk_drew ?_ | refine blk_alloc ?_ _)); refine blk_put (cs := #[.string t519, .int .i64 0, .int .i64 0, .int .u8 0, .int .u64 0]) ?_ 1 _ rfl; (with_reducible repeat (first | refine blk_drewN ?_ _ | refine blk_drew ?_ | refine blk_alloc ?_ _)); refine blk_put (cs := #[.string (⟨#[]⟩ : ByteArray), .int .i64 0, .int .i64 0, .int .u8 0, .int .u64 0]) ?_ 0 _ rfl; (with_reducible repeat (first | refine blk_drewN ?_ _ | refine blk_drew ?_ | refine blk_alloc ?_ _)); exact BK525.out⟩, ⟨y12_⟩⟩
    case round =>
     clear H'
     try clear c1
     try clear c2
     try clear p2
     try clear c8
     try clear c9
     try clear c10
     try clear c10b0
     try clear c10b1
     try clear c16
     try clear c18
     try clear c23
     try clear c28
     try clear hcz23_0
     try clear hcz23_1
     try clear hcz23_2
     try clear hcz23_3
     try clear hcz23_4
     try clear hcz29_0
     try clear hcz29_1
     try clear hcz29_2
     try clear hcz29_3
     try clear hcz29_4
     try clear hfz23_0
     try clear hfz23_1
     try clear hfz23_2
     try clear hfz23_3
     try clear hfz23_4
     try clear hfz29_0
     try clear hfz29_1
     try clear hfz29_2
     try clear hfz29_3
     try clear hfz29_4
     try clear p2
     obtain ⟨x15_2, x53_2, rfl, HA, HK2, HO_15, BK515, BK525, HB⟩ := hrel
     cases gk with
     | zero => exact absurd HA.out (by simp [manometerlaw17_TokenTurns.l0])
     | succ k2 =>
      have H := HA.out
      clear HA
      simp only [manometerlaw17_TokenTurns.l0] at H
      by_cases c30 : x53_2 < (l1.length : Int)
      ·rw [if_pos c30] at H
       have c30b0 : decide (x53_2 < (l1.length : Int)) = true := decide_eq_true c30
       clear c30
       by_cases c31 : 0 ≤ x53_2
       ·rw [if_pos c31] at H
        have c31b0 : decide (0 ≤ x53_2) = true := decide_eq_true c31
        clear c31
        by_cases c32 : x53_2 < (l1.length : Int)
        ·rw [if_pos c32] at H
         have c32b0 : decide (x53_2 < (l1.length : Int)) = true := decide_eq_true c32
         clear c32
         by_cases c33 : t524 = 0
         ·rw [if_pos c33] at H
          have c33b0 : (t524 == 0) = true := beq_iff_eq.mpr c33
          have c33b1 : (t524 != 0) = false := bne_eq_false_iff_eq.mpr c33
          clear c33
          by_cases c34 : ((rd_T43 l1 x53_2).f0).toList = t519.toList
          ·rw [if_pos c34] at H
           have c34b0 : (((rd_T43 l1 x53_2).f0).toList == t519.toList) = true := beq_iff_eq.mpr c34
           have c34b1 : (((rd_T43 l1 x53_2).f0).toList != t519.toList) = false := bne_eq_false_iff_eq.mpr c34
           clear c34
           by_cases c35 : x15_2.length < 3518437208883
           ·rw [if_pos c35] at H
            have LMc35 := Aside0.mk c35
            clear c35
            obtain ⟨y528, hy528⟩ : ∃ y_ : List (S43), y_ = (x15_2 ++ [(⟨(rd_T43 l1 x53_2).f0, (⟨(rd_T43 l1 x53_2).f1.f0, (rd_T43 l1 x53_2).f1.f1⟩ : S23)⟩ : S43)]) := ⟨_, rfl⟩
            replace H : (manometerlaw17_TokenTurns.l0 k2 a0 l1 a2 a3 a4 a5 t514 y528 t524 l1 (l1.length : Int) (wrap64 (x53_2 + 1)) t509 t510 t511 t512 t513 t519 t520 t521 t522 t523) = some r := by first | (rw [hy528]; with_reducible exact H) | (have H2_ := (Option.bind_some _ _).symm.trans H; rw [hy528]; with_reducible exact H2_) | (have H2_ := (Option.bind_some _ _).symm.trans H; with_reducible exact H2_) | with_reducible exact H | (rw [hy528]; exact H) | exact H
            have Ny528 := Aside0.mk hy528
            clear hy528
            have H' := Aside0.mk H
            clear H
            have p526 : 0 ≤ (x53_2 : Int) := of_decide_eq_true y13_
            have q526 : x53_2 < (l1.length : Int) := of_decide_eq_true y13_
            obtain ⟨ad526, e526, hx526_0, hx526_1, hx526_2⟩ := at_T43 HR1.out x53_2 p526 q526
            cases e526
            replace hx526_0 := (HB.out.cell (World.block_lt_of_cell? w _ hx526_0)).trans hx526_0
            replace hx526_1 := (HB.out.cell (World.block_lt_of_cell? w _ hx526_1)).trans hx526_1
            replace hx526_2 := (HB.out.cell (World.block_lt_of_cell? w _ hx526_2)).trans hx526_2
            replace p526 := eq_true p526
            replace q526 := eq_true q526
            go_wp2_with (first | ((with_reducible refine gate_dst (N := 19) rfl ?_); (try (refine gate_guard (by rfl) ?_; dsimp only)); refine box_event ?hg (N := 19) ?hd (cs := #[.string (⟨#[]⟩ : ByteArray), .int .i64 0, .string (⟨#[]⟩ : ByteArray)]) (t := 43) ?hr ?_; (case hd => rfl); (case hg => rfl); (case hr => first | (go_simp; done) | (go_simp; rfl)); intro gb527 hg w36 hbox hb; have n0_ := Aside0.mk (Kd.R_below (Kd.R_elderB y63_ gb527 (Nat.le_of_eq hg.symm)) hb); have n1_ := Aside0.mk (blk_below (g := gb515) (o := .cells #[.string t509, .int .i64 t510, .int .i64 t511, .int .u8 t512, .int .u64 t513] 26 (0, 0)) y11_ hb); have n2_ := Aside0.mk (blk_below (g := gb525) (o := .cells #[.string t519, .int .i64 t520, .int .i64 t521, .int .u8 t522, .int .u64 t523] 26 (0, 0)) y14_ hb); have n3_ := Aside0.mk (below_step y12_ hb); have n4_ := Aside0.mk (hbox); have n5_ := Aside0.mk ((y80_ : w.heap.size ≤ gb527)); have n6_ := Aside0.mk ((y80_ : w.heap.size ≤ gb527)); have n7_ := Aside0.mk ((y35_ : gb515 ≠ gb527)); have n8_ := Aside0.mk ((y36_ : gb527 ≠ gb515)); have n9_ := Aside0.mk ((y50_ : gb525 ≠ gb527)); have n10_ := Aside0.mk ((y51_ : gb527 ≠ gb525)); clear HO_15; clear BK515; clear BK525; clear HB; have HO_15 := n0_; have BK515 := n1_; have BK525 := n2_; have HB := n3_; have BK527 := n4_; have GW527 := n5_; have GE527 := n6_; have NB515_527 := n7_; have NB527_515 := n8_; have NB525_527 := n9_; have NB527_525 := n10_; clear n0_ n1_ n2_ n3_ n4_ n5_ n6_ n7_ n8_ n9_ n10_; clear hb hbox hg; have hnb37 := NB527_515.out; have hnc37 := NB515_527.out; have hnb38 := NB527_525.out; have hnc38 := NB525_527.out; have hcz39_0 : w36.cell? ⟨gb527, 0, none⟩ = some (.string (⟨#[]⟩ : ByteArray)) := (blk_cell BK527.out 0).trans rfl; have hcz39_1 : w36.cell? ⟨gb527, 1, none⟩ = some (.int .i64 0) := (blk_cell BK527.out 1).trans rfl; have hcz39_2 : w36.cell? ⟨gb527, 2, none⟩ = some (.string (⟨#[]⟩ : ByteArray)) := (blk_cell BK527.out 2).trans rfl; have hfz39_0 := blk_frozen BK527.out 0; have hfz39_1 := blk_frozen BK527.out 1; have hfz39_2 := blk_frozen BK527.out 2; have hnb40 := NB525_515.out; have hnc40 := NB515_525.out; have hcz41_0 : w36.cell? ⟨gb525, 0, none⟩ = some (.string t519) := (blk_cell BK525.out 0).trans rfl; have hcz41_1 : w36.cell? ⟨gb525, 1, none⟩ = some (.int .i64 t520) := (blk_cell BK525.out 1).trans rfl; have hcz41_2 : w36.cell? ⟨gb525, 2, none⟩ = some (.int .i64 t521) := (blk_cell BK525.out 2).trans rfl; have hcz41_3 : w36.cell? ⟨gb525, 3, none⟩ = some (.int .u8 t522) := (blk_cell BK525.out 3).trans rfl; have hcz41_4 : w36.cell? ⟨gb525, 4, none⟩ = some (.int .u64 t523) := (blk_cell BK525.out 4).trans rfl; have hfz41_0 := blk_frozen BK525.out 0; have hfz41_1 := blk_frozen BK525.out 1; have hfz41_2 := blk_frozen BK525.out 2; have hfz41_3 := blk_frozen BK525.out 3; have hfz41_4 := blk_frozen BK525.out 4) | ((with_reducible refine gate_builtin (b := .append) (xs := #[.tmp 66, .tmp 68]) rfl ?_); (try (refine gate_guard (by rfl) ?_; dsimp only)); at_builtin; refine Kd.R_append k43 (w0 := w) w.heap.size rfl (.tmp 66) (.tmp 68) 38 43 (.agg #[(.string ⟨#[]⟩), (.int .i64 0), (.string ⟨#[]⟩)]) 40 rfl Tryd.underlying38 info43 rfl (by decide) (by omega) u15 x15_2 (⟨(rd_T43 l1 x53_2).f0, (⟨(rd_T43 l1 x53_2).f1.f0, (rd_T43 l1 x53_2).f1.f1⟩ : S23)⟩ : S43) [.string ((rd_T43 l1 x53_2).f0), .int .i64 ((rd_T43 l1 x53_2).f1.f0), .string ((rd_T43 l1 x53_2).f1.f1)] (fun k_ => k_ ≠ gb527) (fun _ => False) rfl (by first | (go_simp; done) | (go_simp; rfl)) ?aP (fun _ hk => hk.elim) ?aF ?aO ?aB ?aS ?aL ?_; (case aP => exact k43_mkM _ _ _ (⟨(rd_T43 l1 x53_2).f0, (⟨(rd_T43 l1 x53_2).f1.f0, (rd_T43 l1 x53_2).f1.f1⟩ : S23)⟩ : S43)); (case aB => exact y41_); (case aF => exact (fun k_ hk => Kd.freshB (g := gb527) (o := .cells #[.string ((rd_T43 l1 x53_2).f0), .int .i64 ((rd_T43 l1 x53_2).f1.f0), .string ((rd_T43 l1 x53_2).f1.f1)] 43 (0, 0)) y48_ k_ hk)); (case aO => exact (by (with_reducible repeat (first | apply Kd.R_alloc | apply Kd.R_drewN | apply Kd.R_drew)); exact Kd.R_mono (Kd.R_far (p := ⟨gb527, 2, none⟩) (Kd.R_far (p := ⟨gb527, 1, none⟩) (Kd.R_far (p := ⟨gb527, 0, none⟩) (Kd.R_mono HO_15.out (fun k_ hk => (⟨hk, hk.2⟩ : _ ∧ k_ ≠ gb527))) (fun _ hk => hk.2) (.string ((rd_T43 l1 x53_2).f0))) (fun _ hk => hk.2) (.int .i64 ((rd_T43 l1 x53_2).f1.f0))) (fun _ hk => hk.2) (.string ((rd_T43 l1 x53_2).f1.f1))) (fun _ hk => hk.1.2))); (case aS => exact (below_size y41_)); (case aL => have := LMc35.out; omega); intro v529 w42 ho hb hg hat; rw [← Ny528.out] at ho; have n0_ := Aside0.mk (blk_grown (g := gb515) (o := .cells #[.string t509, .int .i64 t510, .int .i64 t511, .int .u8 t512, .int .u64 t513] 26 (0, 0)) y30_ hg (Kd.R_ne HO_15.out BK515.out (by decide))); have n1_ := Aside0.mk (blk_grown (g := gb525) (o := .cells #[.string t519, .int .i64 t520, .int .i64 t521, .int .u8 t522, .int .u64 t523] 26 (0, 0)) y29_ hg (Kd.R_ne HO_15.out BK525.out (by decide))); have n2_ := Aside0.mk (blk_grown (g := gb527) (o := .cells #[.string ((rd_T43 l1 x53_2).f0), .int .i64 ((rd_T43 l1 x53_2).f1.f0), .string ((rd_T43 l1 x53_2).f1.f1)] 43 (0, 0)) y48_ hg (Kd.R_away HO_15.out (fun _ hk => hk.2))); have n3_ := Aside0.mk (hb); have n4_ := Aside0.mk (ho); clear BK515; clear BK525; clear BK527; clear HB; clear HO_15; have BK515 := n0_; have BK525 := n1_; have BK527 := n2_; have HB := n3_; have HO530 := n4_; clear n0_ n1_ n2_ n3_ n4_; clear ho hb hg hat))
            go_roundg k2
            case measure => have := HJ6.out; have := HK2.out; omega
            case rel => exact ⟨(y528), (wrap64 (x53_2 + 1)), y3_, H', ⟨by have := HJ6.out; have := HK2.out; omega⟩, ⟨by (with_reducible repeat (first | apply Kd.R_alloc | apply Kd.R_drewN | apply Kd.R_drew)); exact Kd.R_mono HO530.out (fun _ hk => trivial)⟩, ⟨y11_⟩, ⟨y14_⟩, ⟨y41_⟩⟩
           ·rw [if_neg c35] at H
            exact absurd H (by simp)
          ·rw [if_neg c34] at H
           have c34b0 : (((rd_T43 l1 x53_2).f0).toList == t519.toList) = false := beq_eq_false_iff_ne.mpr c34
           have c34b1 : (((rd_T43 l1 x53_2).f0).toList != t519.toList) = true := bne_iff_ne.mpr c34
           have H' := Aside0.mk H
           clear H
           have p526 : 0 ≤ (x53_2 : Int) := of_decide_eq_true y13_
           have q526 : x53_2 < (l1.length : Int) := of_decide_eq_true y13_
           obtain ⟨ad526, e526, hx526_0, hx526_1, hx526_2⟩ := at_T43 HR1.out x53_2 p526 q526
           cases e526
           replace hx526_0 := (HB.out.cell (World.block_lt_of_cell? w _ hx526_0)).trans hx526_0
           replace hx526_1 := (HB.out.cell (World.block_lt_of_cell? w _ hx526_1)).trans hx526_1
           replace hx526_2 := (HB.out.cell (World.block_lt_of_cell? w _ hx526_2)).trans hx526_2
           replace p526 := eq_true p526
           replace q526 := eq_true q526
           go_wp2_with (first | ((with_reducible refine gate_dst (N := 19) rfl ?_); (try (refine gate_guard (by rfl) ?_; dsimp only)); refine box_event ?hg (N := 19) ?hd (cs := #[.string (⟨#[]⟩ : ByteArray), .int .i64 0, .string (⟨#[]⟩ : ByteArray)]) (t := 43) ?hr ?_; (case hd => rfl); (case hg => rfl); (case hr => first | (go_simp; done) | (go_simp; rfl)); intro gb527 hg w43 hbox hb; have n0_ := Aside0.mk (Kd.R_below (Kd.R_elderB y63_ gb527 (Nat.le_of_eq hg.symm)) hb); have n1_ := Aside0.mk (blk_below (g := gb515) (o := .cells #[.string t509, .int .i64 t510, .int .i64 t511, .int .u8 t512, .int .u64 t513] 26 (0, 0)) y11_ hb); have n2_ := Aside0.mk (blk_below (g := gb525) (o := .cells #[.string t519, .int .i64 t520, .int .i64 t521, .int .u8 t522, .int .u64 t523] 26 (0, 0)) y14_ hb); have n3_ := Aside0.mk (below_step y12_ hb); have n4_ := Aside0.mk (hbox); have n5_ := Aside0.mk ((y80_ : w.heap.size ≤ gb527)); have n6_ := Aside0.mk ((y80_ : w.heap.size ≤ gb527)); have n7_ := Aside0.mk ((y35_ : gb515 ≠ gb527)); have n8_ := Aside0.mk ((y36_ : gb527 ≠ gb515)); have n9_ := Aside0.mk ((y50_ : gb525 ≠ gb527)); have n10_ := Aside0.mk ((y51_ : gb527 ≠ gb525)); clear HO_15; clear BK515; clear BK525; clear HB; have HO_15 := n0_; have BK515 := n1_; have BK525 := n2_; have HB := n3_; have BK527 := n4_; have GW527 := n5_; have GE527 := n6_; have NB515_527 := n7_; have NB527_515 := n8_; have NB525_527 := n9_; have NB527_525 := n10_; clear n0_ n1_ n2_ n3_ n4_ n5_ n6_ n7_ n8_ n9_ n10_; clear hb hbox hg; have hnb44 := NB527_515.out; have hnc44 := NB515_527.out; have hnb45 := NB527_525.out; have hnc45 := NB525_527.out; have hcz46_0 : w43.cell? ⟨gb527, 0, none⟩ = some (.string (⟨#[]⟩ : ByteArray)) := (blk_cell BK527.out 0).trans rfl; have hcz46_1 : w43.cell? ⟨gb527, 1, none⟩ = some (.int .i64 0) := (blk_cell BK527.out 1).trans rfl; have hcz46_2 : w43.cell? ⟨gb527, 2, none⟩ = some (.string (⟨#[]⟩ : ByteArray)) := (blk_cell BK527.out 2).trans rfl; have hfz46_0 := blk_frozen BK527.out 0; have hfz46_1 := blk_frozen BK527.out 1; have hfz46_2 := blk_frozen BK527.out 2; have hnb47 := NB525_515.out; have hnc47 := NB515_525.out; have hcz48_0 : w43.cell? ⟨gb525, 0, none⟩ = some (.string t519) := (blk_cell BK525.out 0).trans rfl; have hcz48_1 : w43.cell? ⟨gb525, 1, none⟩ = some (.int .i64 t520) := (blk_cell BK525.out 1).trans rfl; have hcz48_2 : w43.cell? ⟨gb525, 2, none⟩ = some (.int .i64 t521) := (blk_cell BK525.out 2).trans rfl; have hcz48_3 : w43.cell? ⟨gb525, 3, none⟩ = some (.int .u8 t522) := (blk_cell BK525.out 3).trans rfl; have hcz48_4 : w43.cell? ⟨gb525, 4, none⟩ = some (.int .u64 t523) := (blk_cell BK525.out 4).trans rfl; have hfz48_0 := blk_frozen BK525.out 0; have hfz48_1 := blk_frozen BK525.out 1; have hfz48_2 := blk_frozen BK525.out 2; have hfz48_3 := blk_frozen BK525.out 3; have hfz48_4 := blk_frozen BK525.out 4))
           go_roundg k2
           case measure => have := HJ6.out; have := HK2.out; omega
           case rel => exact ⟨(x15_2), (wrap64 (x53_2 + 1)), y3_, H', ⟨by have := HJ6.out; have := HK2.out; omega⟩, ⟨y61_⟩, ⟨y30_⟩, ⟨y29_⟩, ⟨y41_⟩⟩
         ·rw [if_neg c33] at H
          have c33b0 : (t524 == 0) = false := beq_eq_false_iff_ne.mpr c33
          have c33b1 : (t524 != 0) = true := bne_iff_ne.mpr c33
          have H' := Aside0.mk H
          clear H
          have p526 : 0 ≤ (x53_2 : Int) := of_decide_eq_true y13_
          have q526 : x53_2 < (l1.length : Int) := of_decide_eq_true y13_
          obtain ⟨ad526, e526, hx526_0, hx526_1, hx526_2⟩ := at_T43 HR1.out x53_2 p526 q526
          cases e526
          replace hx526_0 := (HB.out.cell (World.block_lt_of_cell? w _ hx526_0)).trans hx526_0
          replace hx526_1 := (HB.out.cell (World.block_lt_of_cell? w _ hx526_1)).trans hx526_1
          replace hx526_2 := (HB.out.cell (World.block_lt_of_cell? w _ hx526_2)).trans hx526_2
          replace p526 := eq_true p526
          replace q526 := eq_true q526
          go_wp2_with (first | ((with_reducible refine gate_dst (N := 19) rfl ?_); (try (refine gate_guard (by rfl) ?_; dsimp only)); refine box_event ?hg (N := 19) ?hd (cs := #[.string (⟨#[]⟩ : ByteArray), .int .i64 0, .string (⟨#[]⟩ : ByteArray)]) (t := 43) ?hr ?_; (case hd => rfl); (case hg => rfl); (case hr => first | (go_simp; done) | (go_simp; rfl)); intro gb527 hg w49 hbox hb; have n0_ := Aside0.mk (Kd.R_below (Kd.R_elderB y63_ gb527 (Nat.le_of_eq hg.symm)) hb); have n1_ := Aside0.mk (blk_below (g := gb515) (o := .cells #[.string t509, .int .i64 t510, .int .i64 t511, .int .u8 t512, .int .u64 t513] 26 (0, 0)) y11_ hb); have n2_ := Aside0.mk (blk_below (g := gb525) (o := .cells #[.string t519, .int .i64 t520, .int .i64 t521, .int .u8 t522, .int .u64 t523] 26 (0, 0)) y14_ hb); have n3_ := Aside0.mk (below_step y12_ hb); have n4_ := Aside0.mk (hbox); have n5_ := Aside0.mk ((y80_ : w.heap.size ≤ gb527)); have n6_ := Aside0.mk ((y80_ : w.heap.size ≤ gb527)); have n7_ := Aside0.mk ((y35_ : gb515 ≠ gb527)); have n8_ := Aside0.mk ((y36_ : gb527 ≠ gb515)); have n9_ := Aside0.mk ((y50_ : gb525 ≠ gb527)); have n10_ := Aside0.mk ((y51_ : gb527 ≠ gb525)); clear HO_15; clear BK515; clear BK525; clear HB; have HO_15 := n0_; have BK515 := n1_; have BK525 := n2_; have HB := n3_; have BK527 := n4_; have GW527 := n5_; have GE527 := n6_; have NB515_527 := n7_; have NB527_515 := n8_; have NB525_527 := n9_; have NB527_525 := n10_; clear n0_ n1_ n2_ n3_ n4_ n5_ n6_ n7_ n8_ n9_ n10_; clear hb hbox hg; have hnb50 := NB527_515.out; have hnc50 := NB515_527.out; have hnb51 := NB527_525.out; have hnc51 := NB525_527.out; have hcz52_0 : w49.cell? ⟨gb527, 0, none⟩ = some (.string (⟨#[]⟩ : ByteArray)) := (blk_cell BK527.out 0).trans rfl; have hcz52_1 : w49.cell? ⟨gb527, 1, none⟩ = some (.int .i64 0) := (blk_cell BK527.out 1).trans rfl; have hcz52_2 : w49.cell? ⟨gb527, 2, none⟩ = some (.string (⟨#[]⟩ : ByteArray)) := (blk_cell BK527.out 2).trans rfl; have hfz52_0 := blk_frozen BK527.out 0; have hfz52_1 := blk_frozen BK527.out 1; have hfz52_2 := blk_frozen BK527.out 2))
          go_roundg k2
          case measure => have := HJ6.out; have := HK2.out; omega
          case rel => exact ⟨(x15_2), (wrap64 (x53_2 + 1)), y3_, H', ⟨by have := HJ6.out; have := HK2.out; omega⟩, ⟨y61_⟩, ⟨y30_⟩, ⟨y29_⟩, ⟨y41_⟩⟩
        ·rw [if_neg c32] at H
         exact absurd H (by simp)
       ·rw [if_neg c31] at H
        exact absurd H (by simp)
      ·rw [if_neg c30] at H
       have c30b0 : decide (x53_2 < (l1.length : Int)) = false := decide_eq_false c30
       clear c30
       replace H := Option.bind_eq_some_iff.mp H
       obtain ⟨⟨t531, t532, t533, t534, t535, t536⟩, A530, H⟩ := H
       replace H : (if (!(t509.toList == t531.toList) || (!(t510 == t532) || (!(t511 == t533) || (!(t512 == t534) || (!(t513 == t535)))))) = true then (manometerlaw17_TokenTurns.j2 k2 a0 l1 a2 a3 a4 a5 t514 true t509 t510 t511 t512 t513) else (manometerlaw17_TokenTurns.j2 k2 a0 l1 a2 a3 a4 a5 t514 (t514 != t536) t509 t510 t511 t512 t513)) = some r := H
       have A53 := Aside0.mk A530
       clear A530
       have HC54 := Aside0.mk H
       clear H
       obtain ⟨Ao55, co55, eo55⟩ := Kd.R_slice HO_15.out
       subst eo55
       go_upto_region 13 with (first | ((with_reducible refine gate_callee (f := 23) rfl ?_); refine goesL_ (some 76) rfl rfl Tryd.func23 (by kernel_rfl) rfl #[.string a0, .slice Ao55 x15_2.length co55, .int .i64 a2, .int .u8 a4] rfl y4_ ?_; (with_reducible refine (token_Verify.calls k2 a0 _ _ x15_2 a2 a4 t531 t532 t533 t534 t535 t536 _ ?side1 ?side2 ?side3 A53.out).mono ?_); (case side1 => exact ⟨Tab_below hT.out y12_⟩); (case side2 => repeat (first | exact (Kd.R_reads' HO_15.out).2.2 | (with_reducible refine Kd.C_alloc ?_ _) | (with_reducible refine Kd.C_drewN ?_ _) | (with_reducible refine Kd.C_drew ?_))); (case side3 => exact (Kd.R_reads' HO_15.out).2.1); rintro e w56 ⟨rfl, hb⟩; refine ⟨_, rfl, ?_⟩; have n0_ := Aside0.mk (Kd.R_below y63_ hb); have n1_ := Aside0.mk (blk_below (g := gb515) (o := .cells #[.string t509, .int .i64 t510, .int .i64 t511, .int .u8 t512, .int .u64 t513] 26 (0, 0)) y11_ hb); have n2_ := Aside0.mk (blk_below (g := gb525) (o := .cells #[.string t519, .int .i64 t520, .int .i64 t521, .int .u8 t522, .int .u64 t523] 26 (0, 0)) y14_ hb); have n3_ := Aside0.mk (below_step y12_ hb); clear HO_15; clear BK515; clear BK525; clear HB; have HO_15 := n0_; have BK515 := n1_; have BK525 := n2_; have HB := n3_; clear n0_ n1_ n2_ n3_; (try clear hb); (try clear hb2); (try clear hk); (try clear hi)) | ((with_reducible refine gate_dst (N := 20) rfl ?_); (try (refine gate_guard (by rfl) ?_; dsimp only)); refine box_event ?hg (N := 20) ?hd (cs := #[.string (⟨#[]⟩ : ByteArray), .int .i64 0, .int .i64 0, .int .u8 0, .int .u64 0]) (t := 26) ?hr ?_; (case hd => rfl); (case hg => rfl); (case hr => first | (go_simp; done) | (go_simp; rfl)); intro gb537 hg w57 hbox hb; have n0_ := Aside0.mk (Kd.R_below y63_ hb); have n1_ := Aside0.mk (blk_below (g := gb515) (o := .cells #[.string t509, .int .i64 t510, .int .i64 t511, .int .u8 t512, .int .u64 t513] 26 (0, 0)) y11_ hb); have n2_ := Aside0.mk (blk_below (g := gb525) (o := .cells #[.string t519, .int .i64 t520, .int .i64 t521, .int .u8 t522, .int .u64 t523] 26 (0, 0)) y14_ hb); have n3_ := Aside0.mk (below_step y12_ hb); have n4_ := Aside0.mk (hbox); have n5_ := Aside0.mk ((y80_ : w.heap.size ≤ gb537)); have n6_ := Aside0.mk ((y80_ : w.heap.size ≤ gb537)); have n7_ := Aside0.mk ((y35_ : gb515 ≠ gb537)); have n8_ := Aside0.mk ((y36_ : gb537 ≠ gb515)); have n9_ := Aside0.mk ((y50_ : gb525 ≠ gb537)); have n10_ := Aside0.mk ((y51_ : gb537 ≠ gb525)); clear HO_15; clear BK515; clear BK525; clear HB; have HO_15 := n0_; have BK515 := n1_; have BK525 := n2_; have HB := n3_; have BK537 := n4_; have GW537 := n5_; have GE537 := n6_; have NB515_537 := n7_; have NB537_515 := n8_; have NB525_537 := n9_; have NB537_525 := n10_; clear n0_ n1_ n2_ n3_ n4_ n5_ n6_ n7_ n8_ n9_ n10_; clear hb hbox hg; have hnb58 := NB537_515.out; have hnc58 := NB515_537.out; have hnb59 := NB537_525.out; have hnc59 := NB525_537.out; have hcz60_0 : w57.cell? ⟨gb537, 0, none⟩ = some (.string (⟨#[]⟩ : ByteArray)) := (blk_cell BK537.out 0).trans rfl; have hcz60_1 : w57.cell? ⟨gb537, 1, none⟩ = some (.int .i64 0) := (blk_cell BK537.out 1).trans rfl; have hcz60_2 : w57.cell? ⟨gb537, 2, none⟩ = some (.int .i64 0) := (blk_cell BK537.out 2).trans rfl; have hcz60_3 : w57.cell? ⟨gb537, 3, none⟩ = some (.int .u8 0) := (blk_cell BK537.out 3).trans rfl; have hcz60_4 : w57.cell? ⟨gb537, 4, none⟩ = some (.int .u64 0) := (blk_cell BK537.out 4).trans rfl; have hfz60_0 := blk_frozen BK537.out 0; have hfz60_1 := blk_frozen BK537.out 1; have hfz60_2 := blk_frozen BK537.out 2; have hfz60_3 := blk_frozen BK537.out 3; have hfz60_4 := blk_frozen BK537.out 4))
       (try simp only [Act.put, List.setIfInBounds_toArray, List.set_cons_zero, List.set_cons_succ])
       go_cut [86] (fun v86 wc => ∃ (kq : Nat) (x86_53 : Bool), v86 = .bool x86_53 ∧ Aside0 (manometerlaw17_TokenTurns.j2 kq a0 l1 a2 a3 a4 a5 t514 x86_53 t509 t510 t511 t512 t513 = some r) ∧ Aside0 (kq ≤ k2) ∧ Aside0 (wc.heap[gb515]? = some (.cells #[.string t509, .int .i64 t510, .int .i64 t511, .int .u8 t512, .int .u64 t513] 26 (0, 0))) ∧ Aside0 (wc.heap[gb525]? = some (.cells #[.string t519, .int .i64 t520, .int .i64 t521, .int .u8 t522, .int .u64 t523] 26 (0, 0))) ∧ Aside0 (wc.heap[gb537]? = some (.cells #[.string t531, .int .i64 t532, .int .i64 t533, .int .u8 t534, .int .u64 t535] 26 (0, 0))) ∧ Aside0 (Below w.heap.size w wc))
       case first =>
        have H := HC54.out
        clear HC54
        by_cases c61 : (!(t509.toList == t531.toList) || (!(t510 == t532) || (!(t511 == t533) || (!(t512 == t534) || (!(t513 == t535)))))) = true
        ·rw [if_pos c61] at H
         have c61b0 : (!(t509.toList == t531.toList) || (!(t510 == t532) || (!(t511 == t533) || (!(t512 == t534) || (!(t513 == t535)))))) = true := c61
         clear c61
         (first | rw [c61b0] | (simp only [i64_w, i32_w]; rw [c61b0]) | skip)
         have H' := Aside0.mk H
         clear H
         have hnb62 := NB515_525.out
         have hnc62 := NB525_515.out
         have hnb63 := NB515_537.out
         have hnc63 := NB537_515.out
         have hcz64_0 : w57.cell? ⟨gb515, 0, none⟩ = some (.string t509) := (blk_cell BK515.out 0).trans rfl
         have hcz64_1 : w57.cell? ⟨gb515, 1, none⟩ = some (.int .i64 t510) := (blk_cell BK515.out 1).trans rfl
         have hcz64_2 : w57.cell? ⟨gb515, 2, none⟩ = some (.int .i64 t511) := (blk_cell BK515.out 2).trans rfl
         have hcz64_3 : w57.cell? ⟨gb515, 3, none⟩ = some (.int .u8 t512) := (blk_cell BK515.out 3).trans rfl
         have hcz64_4 : w57.cell? ⟨gb515, 4, none⟩ = some (.int .u64 t513) := (blk_cell BK515.out 4).trans rfl
         have hfz64_0 := blk_frozen BK515.out 0
         have hfz64_1 := blk_frozen BK515.out 1
         have hfz64_2 := blk_frozen BK515.out 2
         have hfz64_3 := blk_frozen BK515.out 3
         have hfz64_4 := blk_frozen BK515.out 4
         have hnb65 := NB537_525.out
         have hnc65 := NB525_537.out
         have hcz66_0 : w57.cell? ⟨gb537, 0, none⟩ = some (.string (⟨#[]⟩ : ByteArray)) := (blk_cell BK537.out 0).trans rfl
         have hcz66_1 : w57.cell? ⟨gb537, 1, none⟩ = some (.int .i64 0) := (blk_cell BK537.out 1).trans rfl
         have hcz66_2 : w57.cell? ⟨gb537, 2, none⟩ = some (.int .i64 0) := (blk_cell BK537.out 2).trans rfl
         have hcz66_3 : w57.cell? ⟨gb537, 3, none⟩ = some (.int .u8 0) := (blk_cell BK537.out 3).trans rfl
         have hcz66_4 : w57.cell? ⟨gb537, 4, none⟩ = some (.int .u64 0) := (blk_cell BK537.out 4).trans rfl
         have hfz66_0 := blk_frozen BK537.out 0
         have hfz66_1 := blk_frozen BK537.out 1
         have hfz66_2 := blk_frozen BK537.out 2
         have hfz66_3 := blk_frozen BK537.out 3
         have hfz66_4 := blk_frozen BK537.out 4
         go_wp2
         go_meet
         case rel => exact ⟨_, (true), y3_, H', ⟨by have := HJ6.out; have := HK2.out; first | omega | exact Nat.le_refl _⟩, ⟨y46_⟩, ⟨y45_⟩, ⟨y26_⟩, ⟨y7_⟩⟩
        ·rw [if_neg c61] at H
         have c61b0 : (!(t509.toList == t531.toList) || (!(t510 == t532) || (!(t511 == t533) || (!(t512 == t534) || (!(t513 == t535)))))) = false := by simpa using c61
         clear c61
         (first | rw [c61b0] | (simp only [i64_w, i32_w]; rw [c61b0]) | skip)
         have H' := Aside0.mk H
         clear H
         have hnb67 := NB515_525.out
         have hnc67 := NB525_515.out
         have hnb68 := NB515_537.out
         have hnc68 := NB537_515.out
         have hcz69_0 : w57.cell? ⟨gb515, 0, none⟩ = some (.string t509) := (blk_cell BK515.out 0).trans rfl
         have hcz69_1 : w57.cell? ⟨gb515, 1, none⟩ = some (.int .i64 t510) := (blk_cell BK515.out 1).trans rfl
         have hcz69_2 : w57.cell? ⟨gb515, 2, none⟩ = some (.int .i64 t511) := (blk_cell BK515.out 2).trans rfl
         have hcz69_3 : w57.cell? ⟨gb515, 3, none⟩ = some (.int .u8 t512) := (blk_cell BK515.out 3).trans rfl
         have hcz69_4 : w57.cell? ⟨gb515, 4, none⟩ = some (.int .u64 t513) := (blk_cell BK515.out 4).trans rfl
         have hfz69_0 := blk_frozen BK515.out 0
         have hfz69_1 := blk_frozen BK515.out 1
         have hfz69_2 := blk_frozen BK515.out 2
         have hfz69_3 := blk_frozen BK515.out 3
         have hfz69_4 := blk_frozen BK515.out 4
         have hnb70 := NB537_525.out
         have hnc70 := NB525_537.out
         have hcz71_0 : w57.cell? ⟨gb537, 0, none⟩ = some (.string (⟨#[]⟩ : ByteArray)) := (blk_cell BK537.out 0).trans rfl
         have hcz71_1 : w57.cell? ⟨gb537, 1, none⟩ = some (.int .i64 0) := (blk_cell BK537.out 1).trans rfl
         have hcz71_2 : w57.cell? ⟨gb537, 2, none⟩ = some (.int .i64 0) := (blk_cell BK537.out 2).trans rfl
         have hcz71_3 : w57.cell? ⟨gb537, 3, none⟩ = some (.int .u8 0) := (blk_cell BK537.out 3).trans rfl
         have hcz71_4 : w57.cell? ⟨gb537, 4, none⟩ = some (.int .u64 0) := (blk_cell BK537.out 4).trans rfl
         have hfz71_0 := blk_frozen BK537.out 0
         have hfz71_1 := blk_frozen BK537.out 1
         have hfz71_2 := blk_frozen BK537.out 2
         have hfz71_3 := blk_frozen BK537.out 3
         have hfz71_4 := blk_frozen BK537.out 4
         go_wp2
         go_meet
         case rel => exact ⟨_, ((t514 != t536)), y3_, H', ⟨by have := HJ6.out; have := HK2.out; first | omega | exact Nat.le_refl _⟩, ⟨y46_⟩, ⟨y45_⟩, ⟨y26_⟩, ⟨y7_⟩⟩
       case rest =>
        clear HC54
        try clear c1
        try clear c2
        try clear p2
        try clear c3
        try clear c4
        try clear c5
        try clear p5
        try clear q5
        try clear hx5
        try clear c6
        try clear p6
        try clear c7
        try clear c8
        try clear c9
        try clear c10
        try clear c10b0
        try clear c10b1
        try clear c16
        try clear c18
        try clear c23
        try clear c28
        try clear c30
        try clear c30b0
        try clear c31
        try clear c31b0
        try clear c32
        try clear c32b0
        try clear c33
        try clear c33b0
        try clear c33b1
        try clear c34
        try clear c34b0
        try clear c34b1
        try clear c35
        try clear c37
        try clear c38
        try clear c40
        try clear c44
        try clear c45
        try clear c47
        try clear c50
        try clear c51
        try clear p52
        try clear q52
        try clear hx52
        try clear c58
        try clear c59
        try clear c61
        try clear c61b0
        try clear c62
        try clear c63
        try clear p64
        try clear c65
        try clear c67
        try clear c68
        try clear c70
        try clear hcz23_0
        try clear hcz23_1
        try clear hcz23_2
        try clear hcz23_3
        try clear hcz23_4
        try clear hcz29_0
        try clear hcz29_1
        try clear hcz29_2
        try clear hcz29_3
        try clear hcz29_4
        try clear hcz39_0
        try clear hcz39_1
        try clear hcz39_2
        try clear hcz41_0
        try clear hcz41_1
        try clear hcz41_2
        try clear hcz41_3
        try clear hcz41_4
        try clear hcz46_0
        try clear hcz46_1
        try clear hcz46_2
        try clear hcz48_0
        try clear hcz48_1
        try clear hcz48_2
        try clear hcz48_3
        try clear hcz48_4
        try clear hcz52_0
        try clear hcz52_1
        try clear hcz52_2
        try clear hcz60_0
        try clear hcz60_1
        try clear hcz60_2
        try clear hcz60_3
        try clear hcz60_4
        try clear hcz64_0
        try clear hcz64_1
        try clear hcz64_2
        try clear hcz64_3
        try clear hcz64_4
        try clear hcz66_0
        try clear hcz66_1
        try clear hcz66_2
        try clear hcz66_3
        try clear hcz66_4
        try clear hcz69_0
        try clear hcz69_1
        try clear hcz69_2
        try clear hcz69_3
        try clear hcz69_4
        try clear hcz71_0
        try clear hcz71_1
        try clear hcz71_2
        try clear hcz71_3
        try clear hcz71_4
        try clear hfz23_0
        try clear hfz23_1
        try clear hfz23_2
        try clear hfz23_3
        try clear hfz23_4
        try clear hfz29_0
        try clear hfz29_1
        try clear hfz29_2
        try clear hfz29_3
        try clear hfz29_4
        try clear hfz39_0
        try clear hfz39_1
        try clear hfz39_2
        try clear hfz41_0
        try clear hfz41_1
        try clear hfz41_2
        try clear hfz41_3
        try clear hfz41_4
        try clear hfz46_0
        try clear hfz46_1
        try clear hfz46_2
        try clear hfz48_0
        try clear hfz48_1
        try clear hfz48_2
        try clear hfz48_3
        try clear hfz48_4
        try clear hfz52_0
        try clear hfz52_1
        try clear hfz52_2
        try clear hfz60_0
        try clear hfz60_1
        try clear hfz60_2
        try clear hfz60_3
        try clear hfz60_4
        try clear hfz64_0
        try clear hfz64_1
        try clear hfz64_2
        try clear hfz64_3
        try clear hfz64_4
        try clear hfz66_0
        try clear hfz66_1
        try clear hfz66_2
        try clear hfz66_3
        try clear hfz66_4
        try clear hfz69_0
        try clear hfz69_1
        try clear hfz69_2
        try clear hfz69_3
        try clear hfz69_4
        try clear hfz71_0
        try clear hfz71_1
        try clear hfz71_2
        try clear hfz71_3
        try clear hfz71_4
        try clear hx526_0
        try clear hx526_1
        try clear hx526_2
        try clear p2
        try clear p526
        try clear q526
        obtain ⟨kq, x86_53, rfl, HA, HJ53, BK515, BK525, BK537, HB⟩ := hcut
        cases kq with
        | zero => exact absurd HA.out (by simp [manometerlaw17_TokenTurns.j2])
        | succ kj53 =>
         have H := HA.out
         clear HA
         simp only [manometerlaw17_TokenTurns.j2] at H
         by_cases c72 : x86_53 = true
         ·subst c72
          have H1 : (some false) = some r := by rw [if_pos rfl] at H; exact H
          clear H
          have H := H1
          clear H1
          obtain rfl := Option.some.inj H
          go_wp2
          go_ret
          exact ⟨y8_, y7_⟩
         ·replace c72 := Bool.eq_false_iff.mpr c72
          subst c72
          have H1 : (if t514 = 0 then (if a3 > a2 then (some true) else ((token_Verify.f kj53 a0 l1 a3 (Go.bits .and .u8 a4 a5)).bind fun bt538 => (if bt538.2.2.2.2.2 = 0 then (some (bt538.1.toList == t509.toList && (bt538.2.1 == t510 && (bt538.2.2.1 == t511 && (bt538.2.2.2.1 == t512 && (bt538.2.2.2.2.1 == t513)))))) else (some false)))) else (some (t509.toList == ([] : List UInt8) && (t510 == 0 && (t511 == 0 && (t512 == 0 && (t513 == 0))))))) = some r := by rw [if_neg (show ¬ (false = true) by decide)] at H; exact H
          clear H
          have H := H1
          clear H1
          by_cases c73 : t514 = 0
          ·rw [if_pos c73] at H
           have c73b0 : (t514 == 0) = true := beq_iff_eq.mpr c73
           have c73b1 : (t514 != 0) = false := bne_eq_false_iff_eq.mpr c73
           clear c73
           by_cases c74 : a3 > a2
           ·rw [if_pos c74] at H
            have c74b0 : decide (a2 < a3) = true := decide_eq_true c74
            clear c74
            obtain rfl := Option.some.inj H
            go_wp2
            go_ret
            exact ⟨y8_, y7_⟩
           ·rw [if_neg c74] at H
            have c74b0 : decide (a2 < a3) = false := decide_eq_false c74
            clear c74
            replace H := Option.bind_eq_some_iff.mp H
            obtain ⟨⟨t538, t539, t540, t541, t542, t543⟩, A750, H⟩ := H
            replace H : (if t543 = 0 then (some (t538.toList == t509.toList && (t539 == t510 && (t540 == t511 && (t541 == t512 && (t542 == t513)))))) else (some false)) = some r := H
            have A75 := Aside0.mk A750
            clear A750
            by_cases c76 : t543 = 0
            ·rw [if_pos c76] at H
             have c76b0 : (t543 == 0) = true := beq_iff_eq.mpr c76
             have c76b1 : (t543 != 0) = false := bne_eq_false_iff_eq.mpr c76
             clear c76
             obtain rfl := Option.some.inj H
             go_wp2_with (first | ((with_reducible refine gate_callee (f := 23) rfl ?_); refine goesL_ (some 108) rfl rfl Tryd.func23 (by kernel_rfl) rfl #[.string a0, .slice A1 l1.length c1, .int .i64 a3, .int .u8 (Go.bits .and .u8 a4 a5)] rfl y4_ ?_; (with_reducible refine (token_Verify.calls kj53 a0 _ _ l1 a3 (Go.bits .and .u8 a4 a5) t538 t539 t540 t541 t542 t543 _ ?side1 ?side2 ?side3 A75.out).mono ?_); (case side1 => exact ⟨Tab_below hT.out y7_⟩); (case side2 => repeat (first | exact (Kd.C_below HR1.out HB.out) | (with_reducible refine Kd.C_alloc ?_ _) | (with_reducible refine Kd.C_drewN ?_ _) | (with_reducible refine Kd.C_drew ?_))); (case side3 => exact HC1.out); rintro e w77 ⟨rfl, hb⟩; refine ⟨_, rfl, ?_⟩; have n0_ := Aside0.mk (blk_below (g := gb515) (o := .cells #[.string t509, .int .i64 t510, .int .i64 t511, .int .u8 t512, .int .u64 t513] 26 (0, 0)) y11_ hb); have n1_ := Aside0.mk (blk_below (g := gb525) (o := .cells #[.string t519, .int .i64 t520, .int .i64 t521, .int .u8 t522, .int .u64 t523] 26 (0, 0)) y14_ hb); have n2_ := Aside0.mk (blk_below (g := gb537) (o := .cells #[.string t531, .int .i64 t532, .int .i64 t533, .int .u8 t534, .int .u64 t535] 26 (0, 0)) y44_ hb); have n3_ := Aside0.mk (below_step y7_ hb); clear BK515; clear BK525; clear BK537; clear HB; have BK515 := n0_; have BK525 := n1_; have BK537 := n2_; have HB := n3_; clear n0_ n1_ n2_ n3_; (try clear hb); (try clear hb2); (try clear hk); (try clear hi)) | ((with_reducible refine gate_dst (N := 22) rfl ?_); (try (refine gate_guard (by rfl) ?_; dsimp only)); refine box_event ?hg (N := 22) ?hd (cs := #[.string (⟨#[]⟩ : ByteArray), .int .i64 0, .int .i64 0, .int .u8 0, .int .u64 0]) (t := 26) ?hr ?_; (case hd => rfl); (case hg => rfl); (case hr => first | (go_simp; done) | (go_simp; rfl)); intro gb544 hg w78 hbox hb; have n0_ := Aside0.mk (blk_below (g := gb515) (o := .cells #[.string t509, .int .i64 t510, .int .i64 t511, .int .u8 t512, .int .u64 t513] 26 (0, 0)) y11_ hb); have n1_ := Aside0.mk (blk_below (g := gb525) (o := .cells #[.string t519, .int .i64 t520, .int .i64 t521, .int .u8 t522, .int .u64 t523] 26 (0, 0)) y14_ hb); have n2_ := Aside0.mk (blk_below (g := gb537) (o := .cells #[.string t531, .int .i64 t532, .int .i64 t533, .int .u8 t534, .int .u64 t535] 26 (0, 0)) y44_ hb); have n3_ := Aside0.mk (below_step y7_ hb); have n4_ := Aside0.mk (hbox); have n5_ := Aside0.mk ((by rw [hg]; exact (below_size y7_) : w.heap.size ≤ gb544)); have n6_ := Aside0.mk ((by rw [hg]; exact (below_size y7_) : w.heap.size ≤ gb544)); have n7_ := Aside0.mk ((y35_ : gb515 ≠ gb544)); have n8_ := Aside0.mk ((y36_ : gb544 ≠ gb515)); have n9_ := Aside0.mk ((y50_ : gb525 ≠ gb544)); have n10_ := Aside0.mk ((y51_ : gb544 ≠ gb525)); have n11_ := Aside0.mk ((by rw [hg]; exact Nat.ne_of_lt (blk_lt (g := gb537) (o := .cells #[.string t531, .int .i64 t532, .int .i64 t533, .int .u8 t534, .int .u64 t535] 26 (0, 0)) y44_) : gb537 ≠ gb544)); have n12_ := Aside0.mk ((by rw [hg]; exact Nat.ne_of_gt (blk_lt (g := gb537) (o := .cells #[.string t531, .int .i64 t532, .int .i64 t533, .int .u8 t534, .int .u64 t535] 26 (0, 0)) y44_) : gb544 ≠ gb537)); clear BK515; clear BK525; clear BK537; clear HB; have BK515 := n0_; have BK525 := n1_; have BK537 := n2_; have HB := n3_; have BK544 := n4_; have GW544 := n5_; have GE544 := n6_; have NB515_544 := n7_; have NB544_515 := n8_; have NB525_544 := n9_; have NB544_525 := n10_; have NB537_544 := n11_; have NB544_537 := n12_; clear n0_ n1_ n2_ n3_ n4_ n5_ n6_ n7_ n8_ n9_ n10_ n11_ n12_; clear hb hbox hg; have hnb79 := NB544_515.out; have hnc79 := NB515_544.out; have hnb80 := NB544_525.out; have hnc80 := NB525_544.out; have hnb81 := NB544_537.out; have hnc81 := NB537_544.out; have hcz82_0 : w78.cell? ⟨gb544, 0, none⟩ = some (.string (⟨#[]⟩ : ByteArray)) := (blk_cell BK544.out 0).trans rfl; have hcz82_1 : w78.cell? ⟨gb544, 1, none⟩ = some (.int .i64 0) := (blk_cell BK544.out 1).trans rfl; have hcz82_2 : w78.cell? ⟨gb544, 2, none⟩ = some (.int .i64 0) := (blk_cell BK544.out 2).trans rfl; have hcz82_3 : w78.cell? ⟨gb544, 3, none⟩ = some (.int .u8 0) := (blk_cell BK544.out 3).trans rfl; have hcz82_4 : w78.cell? ⟨gb544, 4, none⟩ = some (.int .u64 0) := (blk_cell BK544.out 4).trans rfl; have hfz82_0 := blk_frozen BK544.out 0; have hfz82_1 := blk_frozen BK544.out 1; have hfz82_2 := blk_frozen BK544.out 2; have hfz82_3 := blk_frozen BK544.out 3; have hfz82_4 := blk_frozen BK544.out 4; have hnb83 := NB515_525.out; have hnc83 := NB525_515.out; have hnb84 := NB515_537.out; have hnc84 := NB537_515.out; have hcz85_0 : w78.cell? ⟨gb515, 0, none⟩ = some (.string t509) := (blk_cell BK515.out 0).trans rfl; have hcz85_1 : w78.cell? ⟨gb515, 1, none⟩ = some (.int .i64 t510) := (blk_cell BK515.out 1).trans rfl; have hcz85_2 : w78.cell? ⟨gb515, 2, none⟩ = some (.int .i64 t511) := (blk_cell BK515.out 2).trans rfl; have hcz85_3 : w78.cell? ⟨gb515, 3, none⟩ = some (.int .u8 t512) := (blk_cell BK515.out 3).trans rfl; have hcz85_4 : w78.cell? ⟨gb515, 4, none⟩ = some (.int .u64 t513) := (blk_cell BK515.out 4).trans rfl; have hfz85_0 := blk_frozen BK515.out 0; have hfz85_1 := blk_frozen BK515.out 1; have hfz85_2 := blk_frozen BK515.out 2; have hfz85_3 := blk_frozen BK515.out 3; have hfz85_4 := blk_frozen BK515.out 4))
             go_ret
             exact ⟨y8_, y78_⟩
            ·rw [if_neg c76] at H
             have c76b0 : (t543 == 0) = false := beq_eq_false_iff_ne.mpr c76
             have c76b1 : (t543 != 0) = true := bne_iff_ne.mpr c76
             obtain rfl := Option.some.inj H
             go_wp2_with (first | ((with_reducible refine gate_callee (f := 23) rfl ?_); refine goesL_ (some 108) rfl rfl Tryd.func23 (by kernel_rfl) rfl #[.string a0, .slice A1 l1.length c1, .int .i64 a3, .int .u8 (Go.bits .and .u8 a4 a5)] rfl y4_ ?_; (with_reducible refine (token_Verify.calls kj53 a0 _ _ l1 a3 (Go.bits .and .u8 a4 a5) t538 t539 t540 t541 t542 t543 _ ?side1 ?side2 ?side3 A75.out).mono ?_); (case side1 => exact ⟨Tab_below hT.out y7_⟩); (case side2 => repeat (first | exact (Kd.C_below HR1.out HB.out) | (with_reducible refine Kd.C_alloc ?_ _) | (with_reducible refine Kd.C_drewN ?_ _) | (with_reducible refine Kd.C_drew ?_))); (case side3 => exact HC1.out); rintro e w86 ⟨rfl, hb⟩; refine ⟨_, rfl, ?_⟩; have n0_ := Aside0.mk (blk_below (g := gb515) (o := .cells #[.string t509, .int .i64 t510, .int .i64 t511, .int .u8 t512, .int .u64 t513] 26 (0, 0)) y11_ hb); have n1_ := Aside0.mk (blk_below (g := gb525) (o := .cells #[.string t519, .int .i64 t520, .int .i64 t521, .int .u8 t522, .int .u64 t523] 26 (0, 0)) y14_ hb); have n2_ := Aside0.mk (blk_below (g := gb537) (o := .cells #[.string t531, .int .i64 t532, .int .i64 t533, .int .u8 t534, .int .u64 t535] 26 (0, 0)) y44_ hb); have n3_ := Aside0.mk (below_step y7_ hb); clear BK515; clear BK525; clear BK537; clear HB; have BK515 := n0_; have BK525 := n1_; have BK537 := n2_; have HB := n3_; clear n0_ n1_ n2_ n3_; (try clear hb); (try clear hb2); (try clear hk); (try clear hi)) | ((with_reducible refine gate_dst (N := 22) rfl ?_); (try (refine gate_guard (by rfl) ?_; dsimp only)); refine box_event ?hg (N := 22) ?hd (cs := #[.string (⟨#[]⟩ : ByteArray), .int .i64 0, .int .i64 0, .int .u8 0, .int .u64 0]) (t := 26) ?hr ?_; (case hd => rfl); (case hg => rfl); (case hr => first | (go_simp; done) | (go_simp; rfl)); intro gb544 hg w87 hbox hb; have n0_ := Aside0.mk (blk_below (g := gb515) (o := .cells #[.string t509, .int .i64 t510, .int .i64 t511, .int .u8 t512, .int .u64 t513] 26 (0, 0)) y11_ hb); have n1_ := Aside0.mk (blk_below (g := gb525) (o := .cells #[.string t519, .int .i64 t520, .int .i64 t521, .int .u8 t522, .int .u64 t523] 26 (0, 0)) y14_ hb); have n2_ := Aside0.mk (blk_below (g := gb537) (o := .cells #[.string t531, .int .i64 t532, .int .i64 t533, .int .u8 t534, .int .u64 t535] 26 (0, 0)) y44_ hb); have n3_ := Aside0.mk (below_step y7_ hb); have n4_ := Aside0.mk (hbox); have n5_ := Aside0.mk ((by rw [hg]; exact (below_size y7_) : w.heap.size ≤ gb544)); have n6_ := Aside0.mk ((by rw [hg]; exact (below_size y7_) : w.heap.size ≤ gb544)); have n7_ := Aside0.mk ((y35_ : gb515 ≠ gb544)); have n8_ := Aside0.mk ((y36_ : gb544 ≠ gb515)); have n9_ := Aside0.mk ((y50_ : gb525 ≠ gb544)); have n10_ := Aside0.mk ((y51_ : gb544 ≠ gb525)); have n11_ := Aside0.mk ((by rw [hg]; exact Nat.ne_of_lt (blk_lt (g := gb537) (o := .cells #[.string t531, .int .i64 t532, .int .i64 t533, .int .u8 t534, .int .u64 t535] 26 (0, 0)) y44_) : gb537 ≠ gb544)); have n12_ := Aside0.mk ((by rw [hg]; exact Nat.ne_of_gt (blk_lt (g := gb537) (o := .cells #[.string t531, .int .i64 t532, .int .i64 t533, .int .u8 t534, .int .u64 t535] 26 (0, 0)) y44_) : gb544 ≠ gb537)); clear BK515; clear BK525; clear BK537; clear HB; have BK515 := n0_; have BK525 := n1_; have BK537 := n2_; have HB := n3_; have BK544 := n4_; have GW544 := n5_; have GE544 := n6_; have NB515_544 := n7_; have NB544_515 := n8_; have NB525_544 := n9_; have NB544_525 := n10_; have NB537_544 := n11_; have NB544_537 := n12_; clear n0_ n1_ n2_ n3_ n4_ n5_ n6_ n7_ n8_ n9_ n10_ n11_ n12_; clear hb hbox hg; have hnb88 := NB544_515.out; have hnc88 := NB515_544.out; have hnb89 := NB544_525.out; have hnc89 := NB525_544.out; have hnb90 := NB544_537.out; have hnc90 := NB537_544.out; have hcz91_0 : w87.cell? ⟨gb544, 0, none⟩ = some (.string (⟨#[]⟩ : ByteArray)) := (blk_cell BK544.out 0).trans rfl; have hcz91_1 : w87.cell? ⟨gb544, 1, none⟩ = some (.int .i64 0) := (blk_cell BK544.out 1).trans rfl; have hcz91_2 : w87.cell? ⟨gb544, 2, none⟩ = some (.int .i64 0) := (blk_cell BK544.out 2).trans rfl; have hcz91_3 : w87.cell? ⟨gb544, 3, none⟩ = some (.int .u8 0) := (blk_cell BK544.out 3).trans rfl; have hcz91_4 : w87.cell? ⟨gb544, 4, none⟩ = some (.int .u64 0) := (blk_cell BK544.out 4).trans rfl; have hfz91_0 := blk_frozen BK544.out 0; have hfz91_1 := blk_frozen BK544.out 1; have hfz91_2 := blk_frozen BK544.out 2; have hfz91_3 := blk_frozen BK544.out 3; have hfz91_4 := blk_frozen BK544.out 4))
             go_ret
             exact ⟨y8_, y78_⟩
          ·rw [if_neg c73] at H
           have c73b0 : (t514 == 0) = false := beq_eq_false_iff_ne.mpr c73
           have c73b1 : (t514 != 0) = true := bne_iff_ne.mpr c73
           obtain rfl := Option.some.inj H
           have hnb92 := NB515_525.out
           have hnc92 := NB525_515.out
           have hnb93 := NB515_537.out
           have hnc93 := NB537_515.out
           have hcz94_0 : wc.cell? ⟨gb515, 0, none⟩ = some (.string t509) := (blk_cell BK515.out 0).trans rfl
           have hcz94_1 : wc.cell? ⟨gb515, 1, none⟩ = some (.int .i64 t510) := (blk_cell BK515.out 1).trans rfl
           have hcz94_2 : wc.cell? ⟨gb515, 2, none⟩ = some (.int .i64 t511) := (blk_cell BK515.out 2).trans rfl
           have hcz94_3 : wc.cell? ⟨gb515, 3, none⟩ = some (.int .u8 t512) := (blk_cell BK515.out 3).trans rfl
           have hcz94_4 : wc.cell? ⟨gb515, 4, none⟩ = some (.int .u64 t513) := (blk_cell BK515.out 4).trans rfl
           have hfz94_0 := blk_frozen BK515.out 0
           have hfz94_1 := blk_frozen BK515.out 1
           have hfz94_2 := blk_frozen BK515.out 2
           have hfz94_3 := blk_frozen BK515.out 3
           have hfz94_4 := blk_frozen BK515.out 4
           go_wp2
           go_ret
           exact ⟨y8_, y7_⟩
end Go.Proofs.YtkkomfomjpcbfaaDoor.PTS
