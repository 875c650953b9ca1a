import Derived.Test.YtkkomfomjpcbfaaDoorSTokenReadsH14
import Derived.Test.YtkkomfomjpcbfaaDoorSTokenReadsPTSx10
import Derived.Test.YtkkomfomjpcbfaaDoorSTokenReadsPTSx12
import Derived.Test.YtkkomfomjpcbfaaDoorSTokenReadsPTSx14
import Derived.Laws.RangeAny
import Derived.Lib.OthersKept
import Derived.Test.YtkkomfomjpcbfaaDoorSTokenReadsE1
import Derived.Test.YtkkomfomjpcbfaaDoorSTokenReadsWGuard
import Derived.Test.YtkkomfomjpcbfaaDoorSTokenReadsTM
import Derived.Test.YtkkomfomjpcbfaaDoorSTokenReadsTT
import Derived.Test.YtkkomfomjpcbfaaDoorSTokenReadsY
set_option linter.unusedVariables false
set_option linter.unusedSimpArgs false
namespace Go.Proofs.YtkkomfomjpcbfaaDoor.PTS
open Go.RowKit Go.Proofs.YtkkomfomjpcbfaaDoorW.PrintWords Go.Proofs.YtkkomfomjpcbfaaDoorW.PrintLast Go.Proofs.YtkkomfomjpcbfaaDoorW.PrintMore
attribute [local go_sem] kQ kO kW kV kG kF kP kN
mutual
def mr17_Read.j0 : Nat → ByteArray → ByteArray → Bool → Option (ByteArray × Int × Int × Int × Int × Int)
 | 0, _, _, _ => none
 | k + 1, x7, x8, x36 => if x36 = true then (some ((⟨#[]⟩ : ByteArray), 0, 0, 0, 0, 8)) else ((mr03_Unarmor.f k x7).bind fun bt360 => ((mr03_Unarmor.f k x8).bind fun bt364 => (if bt360.2 = 0 then (if bt364.2 = 0 then (mr17_Read.j1 k bt360.1 ((bt364.1.length : Int) != 32)) else (mr17_Read.j1 k bt360.1 true)) else (mr17_Read.j1 k bt360.1 true))))
def mr17_Read.j1 : Nat → List Int → Bool → Option (ByteArray × Int × Int × Int × Int × Int)
 | 0, _, _ => none
 | k + 1, x10, x58 => if x58 = true then (some ((⟨#[]⟩ : ByteArray), 0, 0, 0, 0, 8)) else ((mr17_claims.f k x10).bind fun bt368 => (if bt368.2.2.2.2.2 = true then (some (bt368.1, bt368.2.1, bt368.2.2.1, bt368.2.2.2.1, bt368.2.2.2.2.1, 0)) else (some ((⟨#[]⟩ : ByteArray), 0, 0, 0, 0, 8))))
end
def mr17_Read.f (k : Nat) (a0 : ByteArray) : Option (ByteArray × Int × Int × Int × Int × Int) := (mr17_cut.f k a0).bind fun bt354 => ((mr17_cut.f k bt354.2.1).bind fun bt357 => (if bt354.2.2 = true then (if bt357.2.2 = true then (mr17_Read.j0 k bt357.1 bt357.2.1 (bt354.1.toList != ([109, 116, 49] : List UInt8))) else (mr17_Read.j0 k bt357.1 bt357.2.1 true)) else (mr17_Read.j0 k bt357.1 bt357.2.1 true)))
set_option maxHeartbeats 8000000 in
set_option maxRecDepth 100000 in
theorem mr17_Read.calls (k : Nat) (a0 : ByteArray) (r1 : ByteArray) (r2 : Int) (r3 : Int) (r4 : Int) (r5 : Int) (r6 : Int) (w : World) (h : mr17_Read.f k a0 = some (r1, r2, r3, r4, r5, r6)) :
  Calls Tryd.prog 19 #[.string a0] w fun e w' => e = .returned (.tuple #[.agg #[.string r1, .int .i64 r2, .int .i64 r3, .int .u8 r4, .int .u64 r5], .int .i64 r6]) ∧ Below w.heap.size w w' := by
 have hu26 := Tryd.underlying26; have HB := am_ (Below.refl w.heap.size w); have H : ((mr17_cut.f k a0).bind fun bt354 => ((mr17_cut.f k bt354.2.1).bind fun bt357 => (if bt354.2.2 = true then (if bt357.2.2 = true then (mr17_Read.j0 k bt357.1 bt357.2.1 (bt354.1.toList != ([109, 116, 49] : List UInt8))) else (mr17_Read.j0 k bt357.1 bt357.2.1 true)) else (mr17_Read.j0 k bt357.1 bt357.2.1 true)))) = some (r1, r2, r3, r4, r5, r6) := h; clear h; replace H := Option.bind_eq_some_iff.mp H; obtain ⟨⟨t354, t355, t356⟩, A20, H⟩ := H; replace H : ((mr17_cut.f k t355).bind fun bt357 => (if t356 = true then (if bt357.2.2 = true then (mr17_Read.j0 k bt357.1 bt357.2.1 (t354.toList != ([109, 116, 49] : List UInt8))) else (mr17_Read.j0 k bt357.1 bt357.2.1 true)) else (mr17_Read.j0 k bt357.1 bt357.2.1 true))) = some (r1, r2, r3, r4, r5, r6) := H; have A2 := Aside0.mk A20; clear A20; replace H := Option.bind_eq_some_iff.mp H; obtain ⟨⟨t357, t358, t359⟩, A30, H⟩ := H; replace H : (if t356 = true then (if t359 = true then (mr17_Read.j0 k t357 t358 (t354.toList != ([109, 116, 49] : List UInt8))) else (mr17_Read.j0 k t357 t358 true)) else (mr17_Read.j0 k t357 t358 true)) = some (r1, r2, r3, r4, r5, r6) := H; have A3 := Aside0.mk A30; clear A30; have HC4 := Aside0.mk H; clear H; go_enter Tryd.func19, Tryd.ntmps19
 go_upto_region 3 with (first | ((with_reducible refine ko (N := 2) rfl ?_); (try (refine ky (by rfl) ?_; dsimp only)); refine kp ?hg (N := 2) ?hd (cs := #[.string (⟨#[]⟩ : ByteArray), .int .i64 0, .int .i64 0, .int .u8 0, .int .u64 0]) (t := 26) ?hr ?_; (case hd => rfl); (case hg => rfl); (case hr => first | (go_simp; done) | (go_simp; rfl)); intro gb353 hg w5 hbox hb; have BK353 := am_ (hbox); have GW353 := am_ ((y37_ : w.heap.size ≤ gb353)); have GE353 := am_ ((y37_ : w.heap.size ≤ gb353)); replace HB := am_ (kd y1_ hb); clear hb hbox hg) | ((with_reducible refine kj (f := 35) rfl ?_); refine kw (some 17) rfl rfl Tryd.func35 (by kernel_rfl) rfl #[.string a0] rfl y2_ ?_; (with_reducible refine (mr17_cut.calls k a0 t354 t355 t356 _ A2.out).mono ?_); rintro e w' ⟨rfl, ⟨nd, rfl⟩⟩; refine ⟨_, rfl, ?_⟩) | ((with_reducible refine kj (f := 35) rfl ?_); refine kw (some 23) rfl rfl Tryd.func35 (by kernel_rfl) rfl #[.string t355] rfl y2_ ?_; (with_reducible refine (mr17_cut.calls k t355 t357 t358 t359 _ A3.out).mono ?_); rintro e w' ⟨rfl, ⟨nd, rfl⟩⟩; refine ⟨_, rfl, ?_⟩))
 (try simp only [Act.put, List.setIfInBounds_toArray, List.set_cons_zero, List.set_cons_succ]); go_cut [36] (fun v36 wc => ∃ (kq : Nat) (x36_3 : Bool), v36 = .bool x36_3 ∧ Aside0 (mr17_Read.j0 kq t357 t358 x36_3 = some (r1, r2, r3, r4, r5, r6)) ∧ Aside0 (kq ≤ k) ∧ Aside0 (wc.heap[gb353]? = some (.cells #[.string (⟨#[]⟩ : ByteArray), .int .i64 0, .int .i64 0, .int .u8 0, .int .u64 0] 26 (0, 0))) ∧ Aside0 (Below w.heap.size w wc))
 case first =>
  have H := HC4.out; clear HC4
  by_cases c6 : t356 = true
  ·subst c6
   have H1 : (if t359 = true then (mr17_Read.j0 k t357 t358 (t354.toList != ([109, 116, 49] : List UInt8))) else (mr17_Read.j0 k t357 t358 true)) = some (r1, r2, r3, r4, r5, r6) := by rw [if_pos rfl] at H; exact H
   clear H; have H := H1; clear H1
   by_cases c7 : t359 = true
   ·subst c7
    have H1 : (mr17_Read.j0 k t357 t358 (t354.toList != ([109, 116, 49] : List UInt8))) = some (r1, r2, r3, r4, r5, r6) := by rw [if_pos rfl] at H; exact H
    clear H; have H := H1; clear H1; have H' := Aside0.mk H; clear H
    go_wp2
    go_meet
    case rel => exact ⟨_, ((t354.toList != ([109, 116, 49] : List UInt8))), y3_, H', ⟨y85_⟩, ⟨y32_⟩, ⟨y16_⟩⟩
   ·replace c7 := Bool.eq_false_iff.mpr c7; subst c7
    have H1 : (mr17_Read.j0 k t357 t358 true) = some (r1, r2, r3, r4, r5, r6) := by rw [if_neg (show ¬ (false = true) by decide)] at H; exact H
    clear H; have H := H1; clear H1; have H' := Aside0.mk H; clear H
    go_wp2
    go_meet
    case rel => exact ⟨_, (true), y3_, H', ⟨y85_⟩, ⟨y32_⟩, ⟨y16_⟩⟩
  ·replace c6 := Bool.eq_false_iff.mpr c6; subst c6
   have H1 : (mr17_Read.j0 k t357 t358 true) = some (r1, r2, r3, r4, r5, r6) := by rw [if_neg (show ¬ (false = true) by decide)] at H; exact H
   clear H; have H := H1; clear H1; have H' := Aside0.mk H; clear H
   go_wp2
   go_meet
   case rel => exact ⟨_, (true), y3_, H', ⟨y85_⟩, ⟨y32_⟩, ⟨y16_⟩⟩
 case rest =>
  clear HC4
  try clear c1
  try clear p2
  try clear c3
  try clear c6
  try clear c7
  obtain ⟨kq, x36_3, rfl, HA, HJ3, BK353, HB⟩ := hcut
  cases kq with
  | zero => exact absurd HA.out (by simp [mr17_Read.j0])
  | succ kj3 =>
   have H := HA.out; clear HA; simp only [mr17_Read.j0] at H
   by_cases c8 : x36_3 = true
   ·subst c8
    have H1 : (some ((⟨#[]⟩ : ByteArray), 0, 0, 0, 0, 8)) = some (r1, r2, r3, r4, r5, r6) := by rw [if_pos rfl] at H; exact H
    clear H; have H := H1; clear H1; simp only [Option.some.injEq, Prod.mk.injEq] at H; obtain ⟨rfl, rfl, rfl, rfl, rfl, rfl⟩ := H; obtain ⟨hcz9_0, hcz9_1, hcz9_2, hcz9_3, hcz9_4, hfz9_0, hfz9_1, hfz9_2, hfz9_3, hfz9_4⟩ := pd5_ BK353.out
    go_wp2
    refine bodyPost_ret (kx rfl _ _ gb353 26 #[.string (⟨#[]⟩ : ByteArray), .int .i64 0, .int .i64 0, .int .u8 0, .int .u64 0] (0, 0) _ rfl y46_ Tryd.underlying26 rfl (by kernel_rfl)) rfl ?_
    exact ⟨y5_, y16_⟩
   ·replace c8 := Bool.eq_false_iff.mpr c8; subst c8
    have H1 : ((mr03_Unarmor.f kj3 t357).bind fun bt360 => ((mr03_Unarmor.f kj3 t358).bind fun bt364 => (if bt360.2 = 0 then (if bt364.2 = 0 then (mr17_Read.j1 kj3 bt360.1 ((bt364.1.length : Int) != 32)) else (mr17_Read.j1 kj3 bt360.1 true)) else (mr17_Read.j1 kj3 bt360.1 true)))) = some (r1, r2, r3, r4, r5, r6) := by rw [if_neg (show ¬ (false = true) by decide)] at H; exact H
    clear H; have H := H1; clear H1; replace H := Option.bind_eq_some_iff.mp H; obtain ⟨⟨t360, t361⟩, A100, H⟩ := H; replace H : ((mr03_Unarmor.f kj3 t358).bind fun bt364 => (if t361 = 0 then (if bt364.2 = 0 then (mr17_Read.j1 kj3 t360 ((bt364.1.length : Int) != 32)) else (mr17_Read.j1 kj3 t360 true)) else (mr17_Read.j1 kj3 t360 true))) = some (r1, r2, r3, r4, r5, r6) := H; have A10 := Aside0.mk A100; clear A100; replace H := Option.bind_eq_some_iff.mp H; obtain ⟨⟨t364, t365⟩, A110, H⟩ := H; replace H : (if t361 = 0 then (if t365 = 0 then (mr17_Read.j1 kj3 t360 ((t364.length : Int) != 32)) else (mr17_Read.j1 kj3 t360 true)) else (mr17_Read.j1 kj3 t360 true)) = some (r1, r2, r3, r4, r5, r6) := H; have A11 := Aside0.mk A110; clear A110; have HC12 := Aside0.mk H; clear H
    go_upto_region 7 with (first | ((with_reducible refine kj (f := 36) rfl ?_); refine kw (some 40) rfl rfl Tryd.func36 (by kernel_rfl) rfl #[.string t357] rfl y2_ ?_; (with_reducible refine (mr03_Unarmor.calls kj3 t357 t360 t361 _ A10.out).mono ?_); rintro e w13 ⟨v362, rfl, ho0, hb⟩; refine ⟨_, rfl, ?_⟩; have HO363 := am_ (Kd.R_lower ho0 (km y16_)); replace BK353 := am_ (kf (g := gb353) (o := .cells #[.string (⟨#[]⟩ : ByteArray), .int .i64 0, .int .i64 0, .int .u8 0, .int .u64 0] 26 (0, 0)) y32_ hb); replace HB := am_ (kd y16_ hb); (try clear hb); (try clear hb2); (try clear hk); (try clear hi); (try clear ho0)) | ((with_reducible refine kj (f := 36) rfl ?_); refine kw (some 45) rfl rfl Tryd.func36 (by kernel_rfl) rfl #[.string t358] rfl y2_ ?_; (with_reducible refine (mr03_Unarmor.calls kj3 t358 t364 t365 _ A11.out).mono ?_); rintro e w14 ⟨v366, rfl, ho0, hb⟩; refine ⟨_, rfl, ?_⟩; have HO367 := am_ (Kd.R_lower (Kd.R_new' ho0 (Kd.R_lt (by (with_reducible repeat (first | apply Kd.R_alloc | apply Kd.R_drewN | apply Kd.R_drew)); exact HO363.out))) (km y16_)); replace HO363 := am_ (Kd.R_elder' (by (with_reducible repeat (first | apply Kd.R_alloc | apply Kd.R_drewN | apply Kd.R_drew)); exact HO363.out) (Kd.R_base ho0) hb); replace BK353 := am_ (kf (g := gb353) (o := .cells #[.string (⟨#[]⟩ : ByteArray), .int .i64 0, .int .i64 0, .int .u8 0, .int .u64 0] 26 (0, 0)) y32_ hb); replace HB := am_ (kd y16_ hb); (try clear hb); (try clear hb2); (try clear hk); (try clear hi); (try clear ho0)))
    (try simp only [Act.put, List.setIfInBounds_toArray, List.set_cons_zero, List.set_cons_succ]); go_cut [58] (fun v58 wc => ∃ (kq : Nat) (x58_11 : Bool), v58 = .bool x58_11 ∧ Aside0 (mr17_Read.j1 kq t360 x58_11 = some (r1, r2, r3, r4, r5, r6)) ∧ Aside0 (kq ≤ kj3) ∧ Aside0 (Kd.R (Kd.int .u8) 5 wc w.heap.size (fun _ => True) v362 t360) ∧ Aside0 (wc.heap[gb353]? = some (.cells #[.string (⟨#[]⟩ : ByteArray), .int .i64 0, .int .i64 0, .int .u8 0, .int .u64 0] 26 (0, 0))) ∧ Aside0 (Below w.heap.size w wc))
    case first =>
     have H := HC12.out; clear HC12
     by_cases c15 : t361 = 0
     ·rw [if_pos c15] at H; have c15b0 : (t361 == 0) = true := beq_iff_eq.mpr c15; have c15b1 : (t361 != 0) = false := bne_eq_false_iff_eq.mpr c15; clear c15; (first | rw [c15b0] | (simp only [kT, i32_w]; rw [c15b0]) | skip)
      by_cases c16 : t365 = 0
      ·rw [if_pos c16] at H; have c16b0 : (t365 == 0) = true := beq_iff_eq.mpr c16; have c16b1 : (t365 != 0) = false := bne_eq_false_iff_eq.mpr c16; clear c16; have H' := Aside0.mk H; clear H; obtain ⟨Ao17, co17, eo17⟩ := Kd.R_slice HO367.out; subst eo17
       go_wp2
       go_meet
       case rel => exact ⟨_, (((t364.length : Int) != 32)), y3_, H', ⟨by have := HJ3.out; first | omega | exact Nat.le_refl _⟩, ⟨y116_⟩, ⟨y32_⟩, ⟨y16_⟩⟩
      ·rw [if_neg c16] at H; have c16b0 : (t365 == 0) = false := beq_eq_false_iff_ne.mpr c16; have c16b1 : (t365 != 0) = true := bne_iff_ne.mpr c16; have H' := Aside0.mk H; clear H
       go_wp2
       go_meet
       case rel => exact ⟨_, (true), y3_, H', ⟨by have := HJ3.out; first | omega | exact Nat.le_refl _⟩, ⟨y116_⟩, ⟨y32_⟩, ⟨y16_⟩⟩
     ·rw [if_neg c15] at H; have c15b0 : (t361 == 0) = false := beq_eq_false_iff_ne.mpr c15; have c15b1 : (t361 != 0) = true := bne_iff_ne.mpr c15; (first | rw [c15b0] | (simp only [kT, i32_w]; rw [c15b0]) | skip); have H' := Aside0.mk H; clear H
      go_wp2
      go_meet
      case rel => exact ⟨_, (true), y3_, H', ⟨by have := HJ3.out; first | omega | exact Nat.le_refl _⟩, ⟨y116_⟩, ⟨y32_⟩, ⟨y16_⟩⟩
    case rest =>
     clear HC12
     try clear c1
     try clear p2
     try clear c3
     try clear c6
     try clear c7
     try clear c8
     try clear c15
     try clear c15b0
     try clear c15b1
     try clear c16
     try clear c16b0
     try clear c16b1
     try clear hcz9_0
     try clear hcz9_1
     try clear hcz9_2
     try clear hcz9_3
     try clear hcz9_4
     try clear hfz9_0
     try clear hfz9_1
     try clear hfz9_2
     try clear hfz9_3
     try clear hfz9_4
     try clear p2
     obtain ⟨kq, x58_11, rfl, HA, HJ11, HO_10, BK353, HB⟩ := hcut
     cases kq with
     | zero => exact absurd HA.out (by simp [mr17_Read.j1])
     | succ kj11 =>
      have H := HA.out; clear HA; simp only [mr17_Read.j1] at H
      by_cases c18 : x58_11 = true
      ·subst c18
       have H1 : (some ((⟨#[]⟩ : ByteArray), 0, 0, 0, 0, 8)) = some (r1, r2, r3, r4, r5, r6) := by rw [if_pos rfl] at H; exact H
       clear H; have H := H1; clear H1; simp only [Option.some.injEq, Prod.mk.injEq] at H; obtain ⟨rfl, rfl, rfl, rfl, rfl, rfl⟩ := H; obtain ⟨hcz19_0, hcz19_1, hcz19_2, hcz19_3, hcz19_4, hfz19_0, hfz19_1, hfz19_2, hfz19_3, hfz19_4⟩ := pd5_ BK353.out
       go_wp2
       refine bodyPost_ret (kx rfl _ _ gb353 26 #[.string (⟨#[]⟩ : ByteArray), .int .i64 0, .int .i64 0, .int .u8 0, .int .u64 0] (0, 0) _ rfl y46_ Tryd.underlying26 rfl (by kernel_rfl)) rfl ?_
       exact ⟨y5_, y16_⟩
      ·replace c18 := Bool.eq_false_iff.mpr c18; subst c18
       have H1 : ((mr17_claims.f kj11 t360).bind fun bt368 => (if bt368.2.2.2.2.2 = true then (some (bt368.1, bt368.2.1, bt368.2.2.1, bt368.2.2.2.1, bt368.2.2.2.2.1, 0)) else (some ((⟨#[]⟩ : ByteArray), 0, 0, 0, 0, 8)))) = some (r1, r2, r3, r4, r5, r6) := by rw [if_neg (show ¬ (false = true) by decide)] at H; exact H
       clear H; have H := H1; clear H1; replace H := Option.bind_eq_some_iff.mp H; obtain ⟨⟨t368, t369, t370, t371, t372, t373⟩, A200, H⟩ := H; replace H : (if t373 = true then (some (t368, t369, t370, t371, t372, 0)) else (some ((⟨#[]⟩ : ByteArray), 0, 0, 0, 0, 8))) = some (r1, r2, r3, r4, r5, r6) := H; have A20 := Aside0.mk A200; clear A200
       by_cases c21 : t373 = true
       ·subst c21
        have H1 : (some (t368, t369, t370, t371, t372, 0)) = some (r1, r2, r3, r4, r5, r6) := by rw [if_pos rfl] at H; exact H
        clear H; have H := H1; clear H1; simp only [Option.some.injEq, Prod.mk.injEq] at H; obtain ⟨rfl, rfl, rfl, rfl, rfl, rfl⟩ := H; obtain ⟨Ao22, co22, eo22⟩ := Kd.R_slice HO_10.out; subst eo22
        go_wp2_with (first | ((with_reducible refine kj (f := 37) rfl ?_); refine kw (some 62) rfl rfl Tryd.func37 (by kernel_rfl) rfl #[.slice Ao22 t360.length co22] rfl y2_ ?_; (with_reducible refine (mr17_claims.calls kj11 _ _ t360 t368 t369 t370 t371 t372 true _ ?side1 ?side2 A20.out).mono ?_); (case side1 => repeat (first | exact (Kd.R_reads' HO_10.out).2.2 | (with_reducible refine Kd.C_alloc ?_ _) | (with_reducible refine Kd.C_drewN ?_ _) | (with_reducible refine Kd.C_drew ?_))); (case side2 => exact (Kd.R_reads' HO_10.out).2.1); rintro e w23 ⟨rfl, hb⟩; refine ⟨_, rfl, ?_⟩; replace HO_10 := am_ (Kd.R_below y112_ hb); replace BK353 := am_ (kf (g := gb353) (o := .cells #[.string (⟨#[]⟩ : ByteArray), .int .i64 0, .int .i64 0, .int .u8 0, .int .u64 0] 26 (0, 0)) y32_ hb); replace HB := am_ (kd y16_ hb); (try clear hb); (try clear hb2); (try clear hk); (try clear hi)) | ((with_reducible refine ko (N := 14) rfl ?_); (try (refine ky (by rfl) ?_; dsimp only)); refine kp ?hg (N := 14) ?hd (cs := #[.string (⟨#[]⟩ : ByteArray), .int .i64 0, .int .i64 0, .int .u8 0, .int .u64 0]) (t := 26) ?hr ?_; (case hd => rfl); (case hg => rfl); (case hr => first | (go_simp; done) | (go_simp; rfl)); intro gb374 hg w24 hbox hb; replace HO_10 := am_ (Kd.R_below y112_ hb); have BK374 := am_ (hbox); have GW374 := am_ ((by rw [hg]; exact (km y16_) : w.heap.size ≤ gb374)); have GE374 := am_ ((by rw [hg]; exact (km y16_) : w.heap.size ≤ gb374)); replace HB := am_ (kd y16_ hb); have NB353_374 := am_ ((by rw [hg]; exact Nat.ne_of_lt (kz (g := gb353) (o := .cells #[.string (⟨#[]⟩ : ByteArray), .int .i64 0, .int .i64 0, .int .u8 0, .int .u64 0] 26 (0, 0)) y32_) : gb353 ≠ gb374)); have NB374_353 := am_ ((by rw [hg]; exact Nat.ne_of_gt (kz (g := gb353) (o := .cells #[.string (⟨#[]⟩ : ByteArray), .int .i64 0, .int .i64 0, .int .u8 0, .int .u64 0] 26 (0, 0)) y32_) : gb374 ≠ gb353)); replace BK353 := am_ (kf (g := gb353) (o := .cells #[.string (⟨#[]⟩ : ByteArray), .int .i64 0, .int .i64 0, .int .u8 0, .int .u64 0] 26 (0, 0)) y32_ hb); clear hb hbox hg; have hnb25 := NB374_353.out; have hnc25 := NB353_374.out; obtain ⟨hcz26_0, hcz26_1, hcz26_2, hcz26_3, hcz26_4, hfz26_0, hfz26_1, hfz26_2, hfz26_3, hfz26_4⟩ := pd5_ BK374.out; obtain ⟨hcz27_0, hcz27_1, hcz27_2, hcz27_3, hcz27_4, hfz27_0, hfz27_1, hfz27_2, hfz27_3, hfz27_4⟩ := pd5_ BK353.out))
        refine bodyPost_ret (kx rfl _ _ gb353 26 #[.string t368, .int .i64 t369, .int .i64 t370, .int .u8 t371, .int .u64 t372] (0, 0) _ rfl (by (with_reducible repeat (first | refine ki ?_ _ | refine kg ?_ | refine ke ?_ _)); refine ku (cs := #[.string t368, .int .i64 t369, .int .i64 t370, .int .u8 t371, .int .u64 0]) ?_ 4 _ rfl; (with_reducible repeat (first | refine ki ?_ _ | refine kg ?_ | refine ke ?_ _)); refine ku (cs := #[.string t368, .int .i64 t369, .int .i64 t370, .int .u8 0, .int .u64 0]) ?_ 3 _ rfl; (with_reducible repeat (first | refine ki ?_ _ | refine kg ?_ | refine ke ?_ _)); refine ku (cs := #[.string t368, .int .i64 t369, .int .i64 0, .int .u8 0, .int .u64 0]) ?_ 2 _ rfl; (with_reducible repeat (first | refine ki ?_ _ | refine kg ?_ | refine ke ?_ _)); refine ku (cs := #[.string t368, .int .i64 0, .int .i64 0, .int .u8 0, .int .u64 0]) ?_ 1 _ rfl; (with_reducible repeat (first | refine ki ?_ _ | refine kg ?_ | refine ke ?_ _)); refine ku (cs := #[.string (⟨#[]⟩ : ByteArray), .int .i64 0, .int .i64 0, .int .u8 0, .int .u64 0]) ?_ 0 _ rfl; (with_reducible repeat (first | refine ki ?_ _ | refine kg ?_ | refine ke ?_ _)); refine kD ?_ NB353_374.out _; (with_reducible repeat (first | refine ki ?_ _ | refine kg ?_ | refine ke ?_ _)); refine kD ?_ NB353_374.out _; (with_reducible repeat (first | refine ki ?_ _ | refine kg ?_ | refine ke ?_ _)); refine kD ?_ NB353_374.out _; (with_reducible repeat (first | refine ki ?_ _ | refine kg ?_ | refine ke ?_ _)); refine kD ?_ NB353_374.out _; (with_reducible repeat (first | refine ki ?_ _ | refine kg ?_ | refine ke ?_ _)); refine kD ?_ NB353_374.out _; (with_reducible repeat (first | refine ki ?_ _ | refine kg ?_ | refine ke ?_ _)); exact BK353.out) Tryd.underlying26 rfl (by kernel_rfl)) rfl ?_
        exact ⟨y5_, by repeat (first | (with_reducible first | exact HB.out | apply kt | apply kA | apply kH | refine below_set ?_ GE353.out | refine below_set ?_ GE374.out) | exact HB.out)⟩
       ·replace c21 := Bool.eq_false_iff.mpr c21; subst c21
        have H1 : (some ((⟨#[]⟩ : ByteArray), 0, 0, 0, 0, 8)) = some (r1, r2, r3, r4, r5, r6) := by rw [if_neg (show ¬ (false = true) by decide)] at H; exact H
        clear H; have H := H1; clear H1; simp only [Option.some.injEq, Prod.mk.injEq] at H; obtain ⟨rfl, rfl, rfl, rfl, rfl, rfl⟩ := H; obtain ⟨Ao28, co28, eo28⟩ := Kd.R_slice HO_10.out; subst eo28
        go_wp2_with (first | ((with_reducible refine kj (f := 37) rfl ?_); refine kw (some 62) rfl rfl Tryd.func37 (by kernel_rfl) rfl #[.slice Ao28 t360.length co28] rfl y2_ ?_; (with_reducible refine (mr17_claims.calls kj11 _ _ t360 t368 t369 t370 t371 t372 false _ ?side1 ?side2 A20.out).mono ?_); (case side1 => repeat (first | exact (Kd.R_reads' HO_10.out).2.2 | (with_reducible refine Kd.C_alloc ?_ _) | (with_reducible refine Kd.C_drewN ?_ _) | (with_reducible refine Kd.C_drew ?_))); (case side2 => exact (Kd.R_reads' HO_10.out).2.1); rintro e w29 ⟨rfl, hb⟩; refine ⟨_, rfl, ?_⟩; replace HO_10 := am_ (Kd.R_below y112_ hb); replace BK353 := am_ (kf (g := gb353) (o := .cells #[.string (⟨#[]⟩ : ByteArray), .int .i64 0, .int .i64 0, .int .u8 0, .int .u64 0] 26 (0, 0)) y32_ hb); replace HB := am_ (kd y16_ hb); (try clear hb); (try clear hb2); (try clear hk); (try clear hi)) | ((with_reducible refine ko (N := 14) rfl ?_); (try (refine ky (by rfl) ?_; dsimp only)); refine kp ?hg (N := 14) ?hd (cs := #[.string (⟨#[]⟩ : ByteArray), .int .i64 0, .int .i64 0, .int .u8 0, .int .u64 0]) (t := 26) ?hr ?_; (case hd => rfl); (case hg => rfl); (case hr => first | (go_simp; done) | (go_simp; rfl)); intro gb374 hg w30 hbox hb; replace HO_10 := am_ (Kd.R_below y112_ hb); have BK374 := am_ (hbox); have GW374 := am_ ((by rw [hg]; exact (km y16_) : w.heap.size ≤ gb374)); have GE374 := am_ ((by rw [hg]; exact (km y16_) : w.heap.size ≤ gb374)); replace HB := am_ (kd y16_ hb); have NB353_374 := am_ ((by rw [hg]; exact Nat.ne_of_lt (kz (g := gb353) (o := .cells #[.string (⟨#[]⟩ : ByteArray), .int .i64 0, .int .i64 0, .int .u8 0, .int .u64 0] 26 (0, 0)) y32_) : gb353 ≠ gb374)); have NB374_353 := am_ ((by rw [hg]; exact Nat.ne_of_gt (kz (g := gb353) (o := .cells #[.string (⟨#[]⟩ : ByteArray), .int .i64 0, .int .i64 0, .int .u8 0, .int .u64 0] 26 (0, 0)) y32_) : gb374 ≠ gb353)); replace BK353 := am_ (kf (g := gb353) (o := .cells #[.string (⟨#[]⟩ : ByteArray), .int .i64 0, .int .i64 0, .int .u8 0, .int .u64 0] 26 (0, 0)) y32_ hb); clear hb hbox hg; have hnb31 := NB374_353.out; have hnc31 := NB353_374.out; obtain ⟨hcz32_0, hcz32_1, hcz32_2, hcz32_3, hcz32_4, hfz32_0, hfz32_1, hfz32_2, hfz32_3, hfz32_4⟩ := pd5_ BK374.out; obtain ⟨hcz33_0, hcz33_1, hcz33_2, hcz33_3, hcz33_4, hfz33_0, hfz33_1, hfz33_2, hfz33_3, hfz33_4⟩ := pd5_ BK353.out))
        refine bodyPost_ret (kx rfl _ _ gb353 26 #[.string (⟨#[]⟩ : ByteArray), .int .i64 0, .int .i64 0, .int .u8 0, .int .u64 0] (0, 0) _ rfl (by (with_reducible repeat (first | refine ki ?_ _ | refine kg ?_ | refine ke ?_ _)); refine ku (cs := #[.string (⟨#[]⟩ : ByteArray), .int .i64 0, .int .i64 0, .int .u8 0, .int .u64 0]) ?_ 4 _ rfl; (with_reducible repeat (first | refine ki ?_ _ | refine kg ?_ | refine ke ?_ _)); refine ku (cs := #[.string (⟨#[]⟩ : ByteArray), .int .i64 0, .int .i64 0, .int .u8 0, .int .u64 0]) ?_ 3 _ rfl; (with_reducible repeat (first | refine ki ?_ _ | refine kg ?_ | refine ke ?_ _)); refine ku (cs := #[.string (⟨#[]⟩ : ByteArray), .int .i64 0, .int .i64 0, .int .u8 0, .int .u64 0]) ?_ 2 _ rfl; (with_reducible repeat (first | refine ki ?_ _ | refine kg ?_ | refine ke ?_ _)); refine ku (cs := #[.string (⟨#[]⟩ : ByteArray), .int .i64 0, .int .i64 0, .int .u8 0, .int .u64 0]) ?_ 1 _ rfl; (with_reducible repeat (first | refine ki ?_ _ | refine kg ?_ | refine ke ?_ _)); refine ku (cs := #[.string (⟨#[]⟩ : ByteArray), .int .i64 0, .int .i64 0, .int .u8 0, .int .u64 0]) ?_ 0 _ rfl; (with_reducible repeat (first | refine ki ?_ _ | refine kg ?_ | refine ke ?_ _)); refine kD ?_ NB353_374.out _; (with_reducible repeat (first | refine ki ?_ _ | refine kg ?_ | refine ke ?_ _)); refine kD ?_ NB353_374.out _; (with_reducible repeat (first | refine ki ?_ _ | refine kg ?_ | refine ke ?_ _)); refine kD ?_ NB353_374.out _; (with_reducible repeat (first | refine ki ?_ _ | refine kg ?_ | refine ke ?_ _)); refine kD ?_ NB353_374.out _; (with_reducible repeat (first | refine ki ?_ _ | refine kg ?_ | refine ke ?_ _)); refine kD ?_ NB353_374.out _; (with_reducible repeat (first | refine ki ?_ _ | refine kg ?_ | refine ke ?_ _)); exact BK353.out) Tryd.underlying26 rfl (by kernel_rfl)) rfl ?_
        exact ⟨y5_, by repeat (first | (with_reducible first | exact HB.out | apply kt | apply kA | apply kH | refine below_set ?_ GE353.out | refine below_set ?_ GE374.out) | exact HB.out)⟩
def mr17_Signed.f (k : Nat) (a0 : ByteArray) (a1_0 : Int) (a1_1 : ByteArray) : Option (Bool) := (mr17_Read.f k a0).bind fun bt376 => (if bt376.2.2.2.2.2 = 0 then ((mr17_Mint.f k a1_0 a1_1 bt376.1 bt376.2.1 bt376.2.2.1 bt376.2.2.2.1 bt376.2.2.2.2.1).bind fun bt383 => (if bt383.2 = 0 then (some (bt383.1.toList == a0.toList)) else (some false))) else (some false))
set_option maxHeartbeats 8000000 in
set_option maxRecDepth 100000 in
theorem mr17_Signed.calls (k : Nat) (a0 : ByteArray) (a1_0 : Int) (a1_1 : ByteArray) (r : Bool) (w : World) (h : mr17_Signed.f k a0 a1_0 a1_1 = some r) :
  Calls Tryd.prog 21 #[.string a0, .agg #[.int .i64 a1_0, .string a1_1]] w fun e w' => e = .returned (.bool r) ∧ Below w.heap.size w w' := by
 have hu23 := Tryd.underlying23; have hu26 := Tryd.underlying26; have HB := am_ (Below.refl w.heap.size w); have H : ((mr17_Read.f k a0).bind fun bt376 => (if bt376.2.2.2.2.2 = 0 then ((mr17_Mint.f k a1_0 a1_1 bt376.1 bt376.2.1 bt376.2.2.1 bt376.2.2.2.1 bt376.2.2.2.2.1).bind fun bt383 => (if bt383.2 = 0 then (some (bt383.1.toList == a0.toList)) else (some false))) else (some false))) = some r := h; clear h; replace H := Option.bind_eq_some_iff.mp H; obtain ⟨⟨t376, t377, t378, t379, t380, t381⟩, A30, H⟩ := H; replace H : (if t381 = 0 then ((mr17_Mint.f k a1_0 a1_1 t376 t377 t378 t379 t380).bind fun bt383 => (if bt383.2 = 0 then (some (bt383.1.toList == a0.toList)) else (some false))) else (some false)) = some r := H; have A3 := Aside0.mk A30; clear A30
 by_cases c4 : t381 = 0
 ·rw [if_pos c4] at H; have c4b0 : (t381 == 0) = true := beq_iff_eq.mpr c4; have c4b1 : (t381 != 0) = false := bne_eq_false_iff_eq.mpr c4; clear c4; replace H := Option.bind_eq_some_iff.mp H; obtain ⟨⟨t383, t384⟩, A50, H⟩ := H; replace H : (if t384 = 0 then (some (t383.toList == a0.toList)) else (some false)) = some r := H; have A5 := Aside0.mk A50; clear A50
  by_cases c6 : t384 = 0
  ·rw [if_pos c6] at H; have c6b0 : (t384 == 0) = true := beq_iff_eq.mpr c6; have c6b1 : (t384 != 0) = false := bne_eq_false_iff_eq.mpr c6; clear c6; obtain rfl := Option.some.inj H; go_enter Tryd.func21, Tryd.ntmps21
   go_wp2_with (first | ((with_reducible refine ko (N := 3) rfl ?_); refine kp ?hg (N := 3) ?hd (cs := #[.int .i64 a1_0, .string a1_1]) (t := 23) ?hr ?_; (case hd => rfl); (case hg => rfl); (case hr => first | (go_simp; done) | (go_simp; rfl)); intro gb375 hg w7 hbox hb; have BK375 := am_ (hbox); have GW375 := am_ ((y37_ : w.heap.size ≤ gb375)); have GE375 := am_ ((y37_ : w.heap.size ≤ gb375)); replace HB := am_ (kd y1_ hb); clear hb hbox hg) | ((with_reducible refine kj (f := 19) rfl ?_); refine kw (some 11) rfl rfl Tryd.func19 (by kernel_rfl) rfl #[.string a0] rfl y2_ ?_; (with_reducible refine (mr17_Read.calls k a0 t376 t377 t378 t379 t380 t381 _ A3.out).mono ?_); rintro e w8 ⟨rfl, hb⟩; refine ⟨_, rfl, ?_⟩; replace BK375 := am_ (kf (g := gb375) (o := .cells #[.int .i64 a1_0, .string a1_1] 23 (0, 0)) y45_ hb); replace HB := am_ (kd y30_ hb); (try clear hb); (try clear hb2); (try clear hk); (try clear hi)) | ((with_reducible refine ko (N := 5) rfl ?_); refine kp ?hg (N := 5) ?hd (cs := #[.string (⟨#[]⟩ : ByteArray), .int .i64 0, .int .i64 0, .int .u8 0, .int .u64 0]) (t := 26) ?hr ?_; (case hd => rfl); (case hg => rfl); (case hr => first | (go_simp; done) | (go_simp; rfl)); intro gb382 hg w9 hbox hb; have BK382 := am_ (hbox); have GW382 := am_ ((by rw [hg]; exact (km y30_) : w.heap.size ≤ gb382)); have GE382 := am_ ((by rw [hg]; exact (km y30_) : w.heap.size ≤ gb382)); replace HB := am_ (kd y30_ hb); have NB375_382 := am_ ((y119_ : gb375 ≠ gb382)); have NB382_375 := am_ ((y120_ : gb382 ≠ gb375)); replace BK375 := am_ (kf (g := gb375) (o := .cells #[.int .i64 a1_0, .string a1_1] 23 (0, 0)) y45_ hb); clear hb hbox hg; have hnb10 := NB382_375.out; have hnc10 := NB375_382.out; obtain ⟨hcz11_0, hcz11_1, hcz11_2, hcz11_3, hcz11_4, hfz11_0, hfz11_1, hfz11_2, hfz11_3, hfz11_4⟩ := pd5_ BK382.out; obtain ⟨hcz12_0, hcz12_1, hfz12_0, hfz12_1⟩ := pd2_ BK375.out) | ((with_reducible refine kj (f := 11) rfl ?_); refine kw (some 19) rfl rfl Tryd.func11 (by kernel_rfl) rfl #[.agg #[.int .i64 a1_0, .string a1_1], .agg #[.string t376, .int .i64 t377, .int .i64 t378, .int .u8 t379, .int .u64 t380]] rfl y2_ ?_; (with_reducible refine (mr17_Mint.calls k a1_0 a1_1 t376 t377 t378 t379 t380 t383 t384 _ A5.out).mono ?_); rintro e w13 ⟨rfl, hb⟩; refine ⟨_, rfl, ?_⟩; replace BK375 := am_ (kf (g := gb375) (o := .cells #[.int .i64 a1_0, .string a1_1] 23 (0, 0)) y66_ hb); replace BK382 := am_ (kf (g := gb382) (o := .cells #[.string t376, .int .i64 t377, .int .i64 t378, .int .u8 t379, .int .u64 t380] 26 (0, 0)) y48_ hb); replace HB := am_ (kd y69_ hb); (try clear hb); (try clear hb2); (try clear hk); (try clear hi)))
   go_ret
   exact ⟨y5_, y69_⟩
  ·rw [if_neg c6] at H; have c6b0 : (t384 == 0) = false := beq_eq_false_iff_ne.mpr c6; have c6b1 : (t384 != 0) = true := bne_iff_ne.mpr c6; obtain rfl := Option.some.inj H; go_enter Tryd.func21, Tryd.ntmps21
   go_wp2_with (first | ((with_reducible refine ko (N := 3) rfl ?_); refine kp ?hg (N := 3) ?hd (cs := #[.int .i64 a1_0, .string a1_1]) (t := 23) ?hr ?_; (case hd => rfl); (case hg => rfl); (case hr => first | (go_simp; done) | (go_simp; rfl)); intro gb375 hg w14 hbox hb; have BK375 := am_ (hbox); have GW375 := am_ ((y37_ : w.heap.size ≤ gb375)); have GE375 := am_ ((y37_ : w.heap.size ≤ gb375)); replace HB := am_ (kd y1_ hb); clear hb hbox hg) | ((with_reducible refine kj (f := 19) rfl ?_); refine kw (some 11) rfl rfl Tryd.func19 (by kernel_rfl) rfl #[.string a0] rfl y2_ ?_; (with_reducible refine (mr17_Read.calls k a0 t376 t377 t378 t379 t380 t381 _ A3.out).mono ?_); rintro e w15 ⟨rfl, hb⟩; refine ⟨_, rfl, ?_⟩; replace BK375 := am_ (kf (g := gb375) (o := .cells #[.int .i64 a1_0, .string a1_1] 23 (0, 0)) y45_ hb); replace HB := am_ (kd y30_ hb); (try clear hb); (try clear hb2); (try clear hk); (try clear hi)) | ((with_reducible refine ko (N := 5) rfl ?_); refine kp ?hg (N := 5) ?hd (cs := #[.string (⟨#[]⟩ : ByteArray), .int .i64 0, .int .i64 0, .int .u8 0, .int .u64 0]) (t := 26) ?hr ?_; (case hd => rfl); (case hg => rfl); (case hr => first | (go_simp; done) | (go_simp; rfl)); intro gb382 hg w16 hbox hb; have BK382 := am_ (hbox); have GW382 := am_ ((by rw [hg]; exact (km y30_) : w.heap.size ≤ gb382)); have GE382 := am_ ((by rw [hg]; exact (km y30_) : w.heap.size ≤ gb382)); replace HB := am_ (kd y30_ hb); have NB375_382 := am_ ((y119_ : gb375 ≠ gb382)); have NB382_375 := am_ ((y120_ : gb382 ≠ gb375)); replace BK375 := am_ (kf (g := gb375) (o := .cells #[.int .i64 a1_0, .string a1_1] 23 (0, 0)) y45_ hb); clear hb hbox hg; have hnb17 := NB382_375.out; have hnc17 := NB375_382.out; obtain ⟨hcz18_0, hcz18_1, hcz18_2, hcz18_3, hcz18_4, hfz18_0, hfz18_1, hfz18_2, hfz18_3, hfz18_4⟩ := pd5_ BK382.out; obtain ⟨hcz19_0, hcz19_1, hfz19_0, hfz19_1⟩ := pd2_ BK375.out) | ((with_reducible refine kj (f := 11) rfl ?_); refine kw (some 19) rfl rfl Tryd.func11 (by kernel_rfl) rfl #[.agg #[.int .i64 a1_0, .string a1_1], .agg #[.string t376, .int .i64 t377, .int .i64 t378, .int .u8 t379, .int .u64 t380]] rfl y2_ ?_; (with_reducible refine (mr17_Mint.calls k a1_0 a1_1 t376 t377 t378 t379 t380 t383 t384 _ A5.out).mono ?_); rintro e w20 ⟨rfl, hb⟩; refine ⟨_, rfl, ?_⟩; replace BK375 := am_ (kf (g := gb375) (o := .cells #[.int .i64 a1_0, .string a1_1] 23 (0, 0)) y66_ hb); replace BK382 := am_ (kf (g := gb382) (o := .cells #[.string t376, .int .i64 t377, .int .i64 t378, .int .u8 t379, .int .u64 t380] 26 (0, 0)) y48_ hb); replace HB := am_ (kd y69_ hb); (try clear hb); (try clear hb2); (try clear hk); (try clear hi)))
   go_ret
   exact ⟨y5_, y69_⟩
 ·rw [if_neg c4] at H; have c4b0 : (t381 == 0) = false := beq_eq_false_iff_ne.mpr c4; have c4b1 : (t381 != 0) = true := bne_iff_ne.mpr c4; obtain rfl := Option.some.inj H; go_enter Tryd.func21, Tryd.ntmps21
  go_wp2_with (first | ((with_reducible refine ko (N := 3) rfl ?_); refine kp ?hg (N := 3) ?hd (cs := #[.int .i64 a1_0, .string a1_1]) (t := 23) ?hr ?_; (case hd => rfl); (case hg => rfl); (case hr => first | (go_simp; done) | (go_simp; rfl)); intro gb375 hg w21 hbox hb; have BK375 := am_ (hbox); have GW375 := am_ ((y37_ : w.heap.size ≤ gb375)); have GE375 := am_ ((y37_ : w.heap.size ≤ gb375)); replace HB := am_ (kd y1_ hb); clear hb hbox hg) | ((with_reducible refine kj (f := 19) rfl ?_); refine kw (some 11) rfl rfl Tryd.func19 (by kernel_rfl) rfl #[.string a0] rfl y2_ ?_; (with_reducible refine (mr17_Read.calls k a0 t376 t377 t378 t379 t380 t381 _ A3.out).mono ?_); rintro e w22 ⟨rfl, hb⟩; refine ⟨_, rfl, ?_⟩; replace BK375 := am_ (kf (g := gb375) (o := .cells #[.int .i64 a1_0, .string a1_1] 23 (0, 0)) y45_ hb); replace HB := am_ (kd y30_ hb); (try clear hb); (try clear hb2); (try clear hk); (try clear hi)) | ((with_reducible refine ko (N := 5) rfl ?_); refine kp ?hg (N := 5) ?hd (cs := #[.string (⟨#[]⟩ : ByteArray), .int .i64 0, .int .i64 0, .int .u8 0, .int .u64 0]) (t := 26) ?hr ?_; (case hd => rfl); (case hg => rfl); (case hr => first | (go_simp; done) | (go_simp; rfl)); intro gb382 hg w23 hbox hb; have BK382 := am_ (hbox); have GW382 := am_ ((by rw [hg]; exact (km y30_) : w.heap.size ≤ gb382)); have GE382 := am_ ((by rw [hg]; exact (km y30_) : w.heap.size ≤ gb382)); replace HB := am_ (kd y30_ hb); have NB375_382 := am_ ((y119_ : gb375 ≠ gb382)); have NB382_375 := am_ ((y120_ : gb382 ≠ gb375)); replace BK375 := am_ (kf (g := gb375) (o := .cells #[.int .i64 a1_0, .string a1_1] 23 (0, 0)) y45_ hb); clear hb hbox hg; have hnb24 := NB382_375.out; have hnc24 := NB375_382.out; obtain ⟨hcz25_0, hcz25_1, hcz25_2, hcz25_3, hcz25_4, hfz25_0, hfz25_1, hfz25_2, hfz25_3, hfz25_4⟩ := pd5_ BK382.out))
  go_ret
  exact ⟨y5_, y69_⟩
end Go.Proofs.YtkkomfomjpcbfaaDoor.PTS
