import Derived.Test.YtkkomfomjpcbfaaDoorSTokenReadsH14
import Derived.Test.YtkkomfomjpcbfaaDoorSTokenReadsPTSx1
import Derived.Test.YtkkomfomjpcbfaaDoorSTokenReadsPTSx6
import Derived.Test.YtkkomfomjpcbfaaDoorSTokenReadsPTSx8
import Derived.Test.YtkkomfomjpcbfaaDoorSTokenReadsPTSx15
import Derived.Laws.RangeAny
import Derived.Lib.OthersKept
import Derived.Test.YtkkomfomjpcbfaaDoorSTokenReadsE1
import Derived.Test.YtkkomfomjpcbfaaDoorSTokenReadsWGuard
import Derived.Test.YtkkomfomjpcbfaaDoorSTokenReadsTM
import Derived.Test.YtkkomfomjpcbfaaDoorSTokenReadsTT
import Derived.Test.YtkkomfomjpcbfaaDoorSTokenReadsY
set_option linter.unusedVariables false
set_option linter.unusedSimpArgs false
namespace Go.Proofs.YtkkomfomjpcbfaaDoor.PTS
open Go.RowKit Go.Proofs.YtkkomfomjpcbfaaDoorW.PrintWords Go.Proofs.YtkkomfomjpcbfaaDoorW.PrintLast Go.Proofs.YtkkomfomjpcbfaaDoorW.PrintMore
attribute [local go_sem] kQ kO kW kV kG kF kP kN
attribute [local go_sem high] eqA26
def ml17_TokenReads.j0 : Nat → ByteArray → Bool → Int → ByteArray → Option (Bool)
 | 0, _, _, _, _ => none
 | k + 1, x0, x21, x386000, x386001 => if x21 = true then ((ml17_live.f k).bind fun t387 => (some t387)) else ((token_Read.f k x0).bind fun bt388 => ((mr17_Read.f k x0).bind fun bt395 => (if (bt388.1.toList == bt395.1.toList && (bt388.2.1 == bt395.2.1 && (bt388.2.2.1 == bt395.2.2.1 && (bt388.2.2.2.1 == bt395.2.2.2.1 && (bt388.2.2.2.2.1 == bt395.2.2.2.2.1))))) = true then (if bt388.2.2.2.2.2 = bt395.2.2.2.2.2 then ((token_Signed.f k x0 x386000 x386001).bind fun t402 => ((mr17_Signed.f k x0 x386000 x386001).bind fun t403 => (some (t402 == t403)))) else (some false)) else (some false))))
def ml17_TokenReads.f (k : Nat) (a0 : ByteArray) (a1_0 : Int) (a1_1 : ByteArray) : Option (Bool) := (ml17_live.f k).bind fun t386 => (if t386 = true then (if (a0.size : Int) > 1000 then (ml17_TokenReads.j0 k a0 true a1_0 a1_1) else (ml17_TokenReads.j0 k a0 (decide ((a1_1.size : Int) > 300)) a1_0 a1_1)) else (ml17_TokenReads.j0 k a0 true a1_0 a1_1))
def ml17_TokenReads.T5 : Bool × List (List Nat × List Nat) := (true, [([], []), ([], []), ([0, 1], [0, 1]), ([2], [2]), ([3], [3]), ([3], [3]), ([4, 5, 3], [3, 4, 5]), ([3, 6], [3, 6]), ([7, 3], [7]), ([8], [8]), ([8], [8]), ([9, 10, 8, 8], [8, 9, 10]), ([8], [8]), ([8], [8]), ([12, 13, 11, 8], [8, 12, 13]), ([11, 14, 8], [8, 11, 14]), ([8, 15], [8, 15]), ([16, 14, 0, 1, 2, 3, 4, 5, 6, 7, 8, 9, 10, 11, 12, 13, 14, 15, 16], [16])])
def ml17_TokenReads.B5 : List Nat := [0, 0, 3, 7, 15, 15, 63, 127, 255, 511, 511, 2047, 511, 511, 16383, 32767, 65535, 131071]
theorem ml17_TokenReads.tab5 : rtab .any (opsOf Tryd.f4 5) = ml17_TokenReads.T5 := by kernel_rfl
theorem ml17_TokenReads.bits5 : waitsOk ml17_TokenReads.T5.2 ml17_TokenReads.B5 = true := by kernel_rfl
set_option maxHeartbeats 8000000 in
set_option maxRecDepth 100000 in
theorem ml17_TokenReads.calls (k : Nat) (a0 : ByteArray) (a1_0 : Int) (a1_1 : ByteArray) (r : Bool) (w : World) (hT : Aside0 (Tab w)) (h : ml17_TokenReads.f k a0 a1_0 a1_1 = some r) :
  Calls Tryd.prog 4 #[.string a0, .agg #[.int .i64 a1_0, .string a1_1]] w fun e w' => e = .returned (.bool r) ∧ Below w.heap.size w w' := by
 have hu23 := Tryd.underlying23; have hu26 := Tryd.underlying26; have HB := am_ (Below.refl w.heap.size w); have H : ((ml17_live.f k).bind fun t386 => (if t386 = true then (if (a0.size : Int) > 1000 then (ml17_TokenReads.j0 k a0 true a1_0 a1_1) else (ml17_TokenReads.j0 k a0 (decide ((a1_1.size : Int) > 300)) a1_0 a1_1)) else (ml17_TokenReads.j0 k a0 true a1_0 a1_1))) = some r := h; clear h; have HC3 := Aside0.mk H; clear H; go_enter Tryd.func4, Tryd.ntmps4
 go_upto_region 1 with (first | ((with_reducible refine ko (N := 3) rfl ?_); (try (refine ky (by rfl) ?_; dsimp only)); refine kp ?hg (N := 3) ?hd (cs := #[.int .i64 a1_0, .string a1_1]) (t := 23) ?hr ?_; (case hd => rfl); (case hg => rfl); (case hr => first | (go_simp; done) | (go_simp; rfl)); intro gb385 hg w4 hbox hb; have BK385 := am_ (hbox); have GW385 := am_ ((y37_ : w.heap.size ≤ gb385)); have GE385 := am_ ((y37_ : w.heap.size ≤ gb385)); replace HB := am_ (kd y1_ hb); clear hb hbox hg))
 (try simp only [Act.put, List.setIfInBounds_toArray, List.set_cons_zero, List.set_cons_succ]); go_cut [21] (fun v21 wc => ∃ (kq : Nat) (x21_2 : Bool), v21 = .bool x21_2 ∧ Aside0 (ml17_TokenReads.j0 kq a0 x21_2 a1_0 a1_1 = some r) ∧ Aside0 (kq ≤ k) ∧ Aside0 (wc.heap[gb385]? = some (.cells #[.int .i64 a1_0, .string a1_1] 23 (0, 0))) ∧ Aside0 (Below w.heap.size w wc))
 case first =>
  have H := HC3.out; clear HC3; replace H := Option.bind_eq_some_iff.mp H; obtain ⟨t386, A50, H⟩ := H; replace H : (if t386 = true then (if (a0.size : Int) > 1000 then (ml17_TokenReads.j0 k a0 true a1_0 a1_1) else (ml17_TokenReads.j0 k a0 (decide ((a1_1.size : Int) > 300)) a1_0 a1_1)) else (ml17_TokenReads.j0 k a0 true a1_0 a1_1)) = some r := H; have A5 := Aside0.mk A50; clear A50
  by_cases c6 : t386 = true
  ·subst c6
   have H1 : (if (a0.size : Int) > 1000 then (ml17_TokenReads.j0 k a0 true a1_0 a1_1) else (ml17_TokenReads.j0 k a0 (decide ((a1_1.size : Int) > 300)) a1_0 a1_1)) = some r := by rw [if_pos rfl] at H; exact H
   clear H; have H := H1; clear H1
   by_cases c7 : (a0.size : Int) > 1000
   ·rw [if_pos c7] at H; have c7b0 : decide (1000 < (a0.size : Int)) = true := decide_eq_true c7; have c7b1 : decide (1000 < a0.size) = true := decide_eq_true (by omega); clear c7; (first | rw [c7b0] | (simp only [kT, i32_w]; rw [c7b0]) | skip); have H' := Aside0.mk H; clear H
    go_wp2_with (first | ((with_reducible refine kj (f := 9) rfl ?_); refine kw (some 9) rfl rfl Tryd.func9 (by kernel_rfl) rfl #[] rfl y2_ ?_; (with_reducible refine (ml17_live.calls k  true _ ?side1 A5.out).mono ?_); (case side1 => exact ⟨kY hT.out y10_⟩); rintro e w8 ⟨rfl, hb⟩; refine ⟨_, rfl, ?_⟩; replace BK385 := am_ (kf (g := gb385) (o := .cells #[.int .i64 a1_0, .string a1_1] 23 (0, 0)) y15_ hb); replace HB := am_ (kd y10_ hb); (try clear hb); (try clear hb2); (try clear hk); (try clear hi)))
    go_meet
    case rel => exact ⟨_, (true), y3_, H', ⟨y85_⟩, ⟨y15_⟩, ⟨y10_⟩⟩
   ·rw [if_neg c7] at H; have c7b0 : decide (1000 < (a0.size : Int)) = false := decide_eq_false c7; have c7b1 : decide (1000 < a0.size) = false := decide_eq_false (by omega); clear c7; (first | rw [c7b0] | (simp only [kT, i32_w]; rw [c7b0]) | skip); have H' := Aside0.mk H; clear H
    go_wp2_with (first | ((with_reducible refine kj (f := 9) rfl ?_); refine kw (some 9) rfl rfl Tryd.func9 (by kernel_rfl) rfl #[] rfl y2_ ?_; (with_reducible refine (ml17_live.calls k  true _ ?side1 A5.out).mono ?_); (case side1 => exact ⟨kY hT.out y10_⟩); rintro e w9 ⟨rfl, hb⟩; refine ⟨_, rfl, ?_⟩; replace BK385 := am_ (kf (g := gb385) (o := .cells #[.int .i64 a1_0, .string a1_1] 23 (0, 0)) y15_ hb); replace HB := am_ (kd y10_ hb); (try clear hb); (try clear hb2); (try clear hk); (try clear hi); obtain ⟨hcz10_0, hcz10_1, hfz10_0, hfz10_1⟩ := pd2_ BK385.out))
    go_meet
    case rel => exact ⟨_, (decide ((a1_1.size : Int) > 300)), y3_, H', ⟨y85_⟩, ⟨y15_⟩, ⟨y10_⟩⟩
  ·replace c6 := Bool.eq_false_iff.mpr c6; subst c6
   have H1 : (ml17_TokenReads.j0 k a0 true a1_0 a1_1) = some r := by rw [if_neg (show ¬ (false = true) by decide)] at H; exact H
   clear H; have H := H1; clear H1; have H' := Aside0.mk H; clear H
   go_wp2_with (first | ((with_reducible refine kj (f := 9) rfl ?_); refine kw (some 9) rfl rfl Tryd.func9 (by kernel_rfl) rfl #[] rfl y2_ ?_; (with_reducible refine (ml17_live.calls k  false _ ?side1 A5.out).mono ?_); (case side1 => exact ⟨kY hT.out y10_⟩); rintro e w11 ⟨rfl, hb⟩; refine ⟨_, rfl, ?_⟩; replace BK385 := am_ (kf (g := gb385) (o := .cells #[.int .i64 a1_0, .string a1_1] 23 (0, 0)) y15_ hb); replace HB := am_ (kd y10_ hb); (try clear hb); (try clear hb2); (try clear hk); (try clear hi)))
   go_meet
   case rel => exact ⟨_, (true), y3_, H', ⟨y85_⟩, ⟨y15_⟩, ⟨y10_⟩⟩
 case rest =>
  clear HC3
  try clear p2
  try clear c4
  try clear c6
  try clear c7
  try clear c7b0
  try clear c7b1
  try clear c9
  try clear hcz10_0
  try clear hcz10_1
  try clear hfz10_0
  try clear hfz10_1
  obtain ⟨kq, x21_2, rfl, HA, HJ2, BK385, HB⟩ := hcut
  cases kq with
  | zero => exact absurd HA.out (by simp [ml17_TokenReads.j0])
  | succ kj2 =>
   have H := HA.out; clear HA; simp only [ml17_TokenReads.j0] at H
   by_cases c12 : x21_2 = true
   ·subst c12
    have H1 : ((ml17_live.f kj2).bind fun t387 => (some t387)) = some r := by rw [if_pos rfl] at H; exact H
    clear H; have H := H1; clear H1; replace H := Option.bind_eq_some_iff.mp H; obtain ⟨t387, A130, H⟩ := H; replace H : (some t387) = some r := H; have A13 := Aside0.mk A130; clear A130; obtain rfl := Option.some.inj H
    go_wp2_with (first | ((with_reducible refine kj (f := 9) rfl ?_); refine kw (some 22) rfl rfl Tryd.func9 (by kernel_rfl) rfl #[] rfl y2_ ?_; (with_reducible refine (ml17_live.calls kj2  t387 _ ?side1 A13.out).mono ?_); (case side1 => exact ⟨kY hT.out y10_⟩); rintro e w14 ⟨rfl, hb⟩; refine ⟨_, rfl, ?_⟩; replace BK385 := am_ (kf (g := gb385) (o := .cells #[.int .i64 a1_0, .string a1_1] 23 (0, 0)) y15_ hb); replace HB := am_ (kd y10_ hb); (try clear hb); (try clear hb2); (try clear hk); (try clear hi)))
    go_ret
    exact ⟨y5_, y10_⟩
   ·replace c12 := Bool.eq_false_iff.mpr c12; subst c12
    have H1 : ((token_Read.f kj2 a0).bind fun bt388 => ((mr17_Read.f kj2 a0).bind fun bt395 => (if (bt388.1.toList == bt395.1.toList && (bt388.2.1 == bt395.2.1 && (bt388.2.2.1 == bt395.2.2.1 && (bt388.2.2.2.1 == bt395.2.2.2.1 && (bt388.2.2.2.2.1 == bt395.2.2.2.2.1))))) = true then (if bt388.2.2.2.2.2 = bt395.2.2.2.2.2 then ((token_Signed.f kj2 a0 a1_0 a1_1).bind fun t402 => ((mr17_Signed.f kj2 a0 a1_0 a1_1).bind fun t403 => (some (t402 == t403)))) else (some false)) else (some false)))) = some r := by rw [if_neg (show ¬ (false = true) by decide)] at H; exact H
    clear H; have H := H1; clear H1; replace H := Option.bind_eq_some_iff.mp H; obtain ⟨⟨t388, t389, t390, t391, t392, t393⟩, A150, H⟩ := H; replace H : ((mr17_Read.f kj2 a0).bind fun bt395 => (if (t388.toList == bt395.1.toList && (t389 == bt395.2.1 && (t390 == bt395.2.2.1 && (t391 == bt395.2.2.2.1 && (t392 == bt395.2.2.2.2.1))))) = true then (if t393 = bt395.2.2.2.2.2 then ((token_Signed.f kj2 a0 a1_0 a1_1).bind fun t402 => ((mr17_Signed.f kj2 a0 a1_0 a1_1).bind fun t403 => (some (t402 == t403)))) else (some false)) else (some false))) = some r := H; have A15 := Aside0.mk A150; clear A150; replace H := Option.bind_eq_some_iff.mp H; obtain ⟨⟨t395, t396, t397, t398, t399, t400⟩, A160, H⟩ := H; replace H : (if (t388.toList == t395.toList && (t389 == t396 && (t390 == t397 && (t391 == t398 && (t392 == t399))))) = true then (if t393 = t400 then ((token_Signed.f kj2 a0 a1_0 a1_1).bind fun t402 => ((mr17_Signed.f kj2 a0 a1_0 a1_1).bind fun t403 => (some (t402 == t403)))) else (some false)) else (some false)) = some r := H; have A16 := Aside0.mk A160; clear A160
    by_cases c17 : (t388.toList == t395.toList && (t389 == t396 && (t390 == t397 && (t391 == t398 && (t392 == t399))))) = true
    ·rw [if_pos c17] at H; have c17b0 : (t388.toList == t395.toList && (t389 == t396 && (t390 == t397 && (t391 == t398 && (t392 == t399))))) = true := c17; (try (have c17b1 : decide (t388.toList = t395.toList && (t389 == t396 && (t390 == t397 && (t391 == t398 && (t392 == t399))))) = true := by simpa using c17)); (try (have c17b2 : (t388.toList == t395.toList && (t389 == t396 && (t390 == t397 && (t391 == t398 && (t392 == t399))))) = true := by simpa using c17)); clear c17
     by_cases c18 : t393 = t400
     ·rw [if_pos c18] at H; have c18b0 : (t393 == t400) = true := beq_iff_eq.mpr c18; have c18b1 : (t393 != t400) = false := bne_eq_false_iff_eq.mpr c18; clear c18; replace H := Option.bind_eq_some_iff.mp H; obtain ⟨t402, A190, H⟩ := H; replace H : ((mr17_Signed.f kj2 a0 a1_0 a1_1).bind fun t403 => (some (t402 == t403))) = some r := H; have A19 := Aside0.mk A190; clear A190; replace H := Option.bind_eq_some_iff.mp H; obtain ⟨t403, A200, H⟩ := H; replace H : (some (t402 == t403)) = some r := H; have A20 := Aside0.mk A200; clear A200; obtain rfl := Option.some.inj H
      try go_wp2_with (first | ((with_reducible refine kj (f := 18) rfl ?_); refine kw (some 25) rfl rfl Tryd.func18 (by kernel_rfl) rfl #[.string a0] rfl y2_ ?_; (with_reducible refine (token_Read.calls kj2 a0 t388 t389 t390 t391 t392 t393 _ A15.out).mono ?_); rintro e w21 ⟨rfl, hb⟩; refine ⟨_, rfl, ?_⟩; replace BK385 := am_ (kf (g := gb385) (o := .cells #[.int .i64 a1_0, .string a1_1] 23 (0, 0)) y15_ hb); replace HB := am_ (kd y10_ hb); (try clear hb); (try clear hb2); (try clear hk); (try clear hi)) | ((with_reducible refine ko (N := 5) rfl ?_); (try (refine ky (by rfl) ?_; dsimp only)); refine kp ?hg (N := 5) ?hd (cs := #[.string (⟨#[]⟩ : ByteArray), .int .i64 0, .int .i64 0, .int .u8 0, .int .u64 0]) (t := 26) ?hr ?_; (case hd => rfl); (case hg => rfl); (case hr => first | (go_simp; done) | (go_simp; rfl)); intro gb394 hg w22 hbox hb; have BK394 := am_ (hbox); have GW394 := am_ ((by rw [hg]; exact (km y10_) : w.heap.size ≤ gb394)); have GE394 := am_ ((by rw [hg]; exact (km y10_) : w.heap.size ≤ gb394)); replace HB := am_ (kd y10_ hb); have NB385_394 := am_ ((y75_ : gb385 ≠ gb394)); have NB394_385 := am_ ((y76_ : gb394 ≠ gb385)); replace BK385 := am_ (kf (g := gb385) (o := .cells #[.int .i64 a1_0, .string a1_1] 23 (0, 0)) y15_ hb); clear hb hbox hg; have hnb23 := NB394_385.out; have hnc23 := NB385_394.out; obtain ⟨hcz24_0, hcz24_1, hcz24_2, hcz24_3, hcz24_4, hfz24_0, hfz24_1, hfz24_2, hfz24_3, hfz24_4⟩ := pd5_ BK394.out) | ((with_reducible refine kj (f := 19) rfl ?_); refine kw (some 30) rfl rfl Tryd.func19 (by kernel_rfl) rfl #[.string a0] rfl y2_ ?_; (with_reducible refine (mr17_Read.calls kj2 a0 t395 t396 t397 t398 t399 t400 _ A16.out).mono ?_); rintro e w25 ⟨rfl, hb⟩; refine ⟨_, rfl, ?_⟩; replace BK385 := am_ (kf (g := gb385) (o := .cells #[.int .i64 a1_0, .string a1_1] 23 (0, 0)) y35_ hb); replace BK394 := am_ (kf (g := gb394) (o := .cells #[.string t388, .int .i64 t389, .int .i64 t390, .int .u8 t391, .int .u64 t392] 26 (0, 0)) y23_ hb); replace HB := am_ (kd y25_ hb); (try clear hb); (try clear hb2); (try clear hk); (try clear hi)) | ((with_reducible refine ko (N := 7) rfl ?_); (try (refine ky (by rfl) ?_; dsimp only)); refine kp ?hg (N := 7) ?hd (cs := #[.string (⟨#[]⟩ : ByteArray), .int .i64 0, .int .i64 0, .int .u8 0, .int .u64 0]) (t := 26) ?hr ?_; (case hd => rfl); (case hg => rfl); (case hr => first | (go_simp; done) | (go_simp; rfl)); intro gb401 hg w26 hbox hb; have BK401 := am_ (hbox); have GW401 := am_ ((by rw [hg]; exact (km y25_) : w.heap.size ≤ gb401)); have GE401 := am_ ((by rw [hg]; exact (km y25_) : w.heap.size ≤ gb401)); replace HB := am_ (kd y25_ hb); have NB385_401 := am_ ((y75_ : gb385 ≠ gb401)); have NB401_385 := am_ ((y76_ : gb401 ≠ gb385)); replace BK385 := am_ (kf (g := gb385) (o := .cells #[.int .i64 a1_0, .string a1_1] 23 (0, 0)) y15_ hb); have NB394_401 := am_ ((y110_ : gb394 ≠ gb401)); have NB401_394 := am_ ((y111_ : gb401 ≠ gb394)); replace BK394 := am_ (kf (g := gb394) (o := .cells #[.string t388, .int .i64 t389, .int .i64 t390, .int .u8 t391, .int .u64 t392] 26 (0, 0)) y49_ hb); clear hb hbox hg; have hnb27 := NB401_385.out; have hnc27 := NB385_401.out; have hnb28 := NB401_394.out; have hnc28 := NB394_401.out; obtain ⟨hcz29_0, hcz29_1, hcz29_2, hcz29_3, hcz29_4, hfz29_0, hfz29_1, hfz29_2, hfz29_3, hfz29_4⟩ := pd5_ BK401.out))
      have n0_ : Aside0 ((((((w26.setCell ⟨gb401, 0, none⟩ (.string t395)).setCell ⟨gb401, 1, none⟩ (.int .i64 t396)).setCell ⟨gb401, 2, none⟩ (.int .i64 t397)).setCell ⟨gb401, 3, none⟩ (.int .u8 t398)).setCell ⟨gb401, 4, none⟩ (.int .u64 t399)).heap[gb385]? = some (.cells #[.int .i64 a1_0, .string a1_1] 23 (0, 0))) := ⟨y34_⟩; have n1_ : Aside0 ((((((w26.setCell ⟨gb401, 0, none⟩ (.string t395)).setCell ⟨gb401, 1, none⟩ (.int .i64 t396)).setCell ⟨gb401, 2, none⟩ (.int .i64 t397)).setCell ⟨gb401, 3, none⟩ (.int .u8 t398)).setCell ⟨gb401, 4, none⟩ (.int .u64 t399)).heap[gb394]? = some (.cells #[.string t388, .int .i64 t389, .int .i64 t390, .int .u8 t391, .int .u64 t392] 26 (0, 0))) := ⟨y33_⟩; have n2_ : Aside0 ((((((w26.setCell ⟨gb401, 0, none⟩ (.string t395)).setCell ⟨gb401, 1, none⟩ (.int .i64 t396)).setCell ⟨gb401, 2, none⟩ (.int .i64 t397)).setCell ⟨gb401, 3, none⟩ (.int .u8 t398)).setCell ⟨gb401, 4, none⟩ (.int .u64 t399)).heap[gb401]? = some (.cells #[.string t395, .int .i64 t396, .int .i64 t397, .int .u8 t398, .int .u64 t399] 26 (0, 0))) := ⟨y22_⟩; have n3_ : Aside0 (Below w.heap.size w (((((w26.setCell ⟨gb401, 0, none⟩ (.string t395)).setCell ⟨gb401, 1, none⟩ (.int .i64 t396)).setCell ⟨gb401, 2, none⟩ (.int .i64 t397)).setCell ⟨gb401, 3, none⟩ (.int .u8 t398)).setCell ⟨gb401, 4, none⟩ (.int .u64 t399))) := ⟨y29_⟩; (try clear BK385); (try clear BK394); (try clear BK401); (try clear HB); generalize (((((w26.setCell ⟨gb401, 0, none⟩ (.string t395)).setCell ⟨gb401, 1, none⟩ (.int .i64 t396)).setCell ⟨gb401, 2, none⟩ (.int .i64 t397)).setCell ⟨gb401, 3, none⟩ (.int .u8 t398)).setCell ⟨gb401, 4, none⟩ (.int .u64 t399)) = w30 at n0_ n1_ n2_ n3_ ⊢; have BK385 := n0_; have BK394 := n1_; have BK401 := n2_; have HB := n3_; clear n0_ n1_ n2_ n3_; replace BK385 := am_ (kg BK385.out); replace BK394 := am_ (kg BK394.out); replace BK401 := am_ (kg BK401.out); replace HB := am_ (kH HB.out); refine start_ (n := 18) (S := fun w' => w'.cell? ⟨gb394, 0, none⟩ = some (.string t388) ∧ w'.cell? ⟨gb394, 1, none⟩ = some (.int .i64 t389) ∧ w'.cell? ⟨gb394, 2, none⟩ = some (.int .i64 t390) ∧ w'.cell? ⟨gb394, 3, none⟩ = some (.int .u8 t391) ∧ w'.cell? ⟨gb394, 4, none⟩ = some (.int .u64 t392) ∧ w'.cell? ⟨gb401, 0, none⟩ = some (.string t395) ∧ w'.cell? ⟨gb401, 1, none⟩ = some (.int .i64 t396) ∧ w'.cell? ⟨gb401, 2, none⟩ = some (.int .i64 t397) ∧ w'.cell? ⟨gb401, 3, none⟩ = some (.int .u8 t398) ∧ w'.cell? ⟨gb401, 4, none⟩ = some (.int .u64 t399) ∧ w'.cell? ⟨gb385, 0, none⟩ = some (.int .i64 a1_0) ∧ w'.cell? ⟨gb385, 1, none⟩ = some (.string a1_1)) (ds := []) #[false, false, false, false, false, false, false, false, false, false, false, false, false, false, false, false, false, false] (by kernel_rfl) rfl rfl ⟨(ka BK394.out 0).trans rfl, (ka BK394.out 1).trans rfl, (ka BK394.out 2).trans rfl, (ka BK394.out 3).trans rfl, (ka BK394.out 4).trans rfl, (ka BK401.out 0).trans rfl, (ka BK401.out 1).trans rfl, (ka BK401.out 2).trans rfl, (ka BK401.out 3).trans rfl, (ka BK401.out 4).trans rfl, (ka BK385.out 0).trans rfl, (ka BK385.out 1).trans rfl⟩ (fun hHeld => ?_); refine with_tabW ml17_TokenReads.tab5 ml17_TokenReads.bits5 (fun HT_ HW_ => ?_); generalize w30.drew = w31 at BK385 BK394 BK401 HB hHeld ⊢; refine take_ (i := 0) (N := some 33) (v := ?_) (a' := ?_) #[true, false, false, false, false, false, false, false, false, false, false, false, false, false, false, false, false, false] rfl rfl (kU HT_.out HW_.out (by kernel_rfl)) (fun _ _ _ h => h) (Or.inl ⟨by rfl, ?_⟩) hHeld ?_ ?_
      rotate_left
      ·rintro w' ⟨s0, s1, s2, s3, s4, s5, s6, s7, s8, s9, s10, s11⟩
       go_simp
       with_reducible rfl
      rotate_left; ·exact u2_
      refine take_ (i := 1) (N := some 34) (v := ?_) (a' := ?_) #[true, true, false, false, false, false, false, false, false, false, false, false, false, false, false, false, false, false] rfl rfl (kU HT_.out HW_.out (by kernel_rfl)) (fun _ _ _ h => h) (Or.inl ⟨by rfl, ?_⟩) hHeld ?_ ?_
      rotate_left
      ·rintro w' ⟨s0, s1, s2, s3, s4, s5, s6, s7, s8, s9, s10, s11⟩
       go_simp
       with_reducible rfl
      rotate_left; ·exact u2_
      refine ks (i := 2) (N := some 35) (v := ?_) (a' := ?_) #[true, true, true, false, false, false, false, false, false, false, false, false, false, false, false, false, false, false] rfl rfl (kn HT_.out (by kernel_rfl)) (fun _ _ _ h => h) (Or.inl ⟨by rfl, ?_⟩) ?_ ?_
      rotate_left; ·intro w'; go_simp; with_reducible rfl
      rotate_left; ·exact u2_
      refine ks (i := 3) (N := some 36) (v := ?_) (a' := ?_) #[true, true, true, true, false, false, false, false, false, false, false, false, false, false, false, false, false, false] rfl rfl (kn HT_.out (by kernel_rfl)) (fun _ _ _ h => h) (Or.inl ⟨by rfl, ?_⟩) ?_ ?_
      rotate_left; ·intro w'; go_simp; with_reducible rfl
      rotate_left; ·exact u2_
      refine ks (i := 4) (N := some 37) (v := ?_) (a' := ?_) #[true, true, true, true, true, false, false, false, false, false, false, false, false, false, false, false, false, false] rfl rfl (kn HT_.out (by kernel_rfl)) (fun _ _ _ h => h) (Or.inl ⟨by rfl, ?_⟩) ?_ ?_
      rotate_left; ·intro w'; go_simp; with_reducible rfl
      rotate_left; ·exact u2_
      refine ks (i := 5) (N := some 38) (v := ?_) (a' := ?_) #[true, true, true, true, true, true, false, false, false, false, false, false, false, false, false, false, false, false] rfl rfl (kn HT_.out (by kernel_rfl)) (fun _ _ _ h => h) (Or.inl ⟨by rfl, ?_⟩) ?_ ?_
      rotate_left; ·intro w'; go_simp; with_reducible rfl
      rotate_left; ·exact u2_
      refine ks (i := 6) (N := some 39) (v := ?_) (a' := ?_) #[true, true, true, true, true, true, true, false, false, false, false, false, false, false, false, false, false, false] rfl rfl (kn HT_.out (by kernel_rfl)) (fun _ _ _ h => h) (Or.inl ⟨by rfl, ?_⟩) ?_ ?_
      rotate_left; ·intro w'; go_simp; with_reducible rfl
      rotate_left; ·exact u2_
      refine ks (i := 7) (N := some 40) (v := ?_) (a' := ?_) #[true, true, true, true, true, true, true, true, false, false, false, false, false, false, false, false, false, false] rfl rfl (kn HT_.out (by kernel_rfl)) (fun _ _ _ h => h) (Or.inl ⟨by rfl, ?_⟩) ?_ ?_
      rotate_left; ·intro w'; go_simp; with_reducible rfl
      rotate_left; ·exact u2_
      refine ks (i := 8) (N := some 41) (v := ?_) (a' := ?_) #[true, true, true, true, true, true, true, true, true, false, false, false, false, false, false, false, false, false] rfl rfl (kn HT_.out (by kernel_rfl)) (fun _ _ _ h => h) (Or.inl ⟨by rfl, ?_⟩) ?_ ?_
      rotate_left; ·intro w'; go_simp; with_reducible rfl
      rotate_left; ·exact u2_
      refine ks (i := 9) (N := some 42) (v := ?_) (a' := ?_) #[true, true, true, true, true, true, true, true, true, true, false, false, false, false, false, false, false, false] rfl rfl (kn HT_.out (by kernel_rfl)) (fun _ _ _ h => h) (Or.inl ⟨by rfl, ?_⟩) ?_ ?_
      rotate_left; ·intro w'; go_simp; with_reducible rfl
      rotate_left; ·exact u2_
      refine ks (i := 12) (N := some 45) (v := ?_) (a' := ?_) #[true, true, true, true, true, true, true, true, true, true, false, false, true, false, false, false, false, false] rfl rfl (kn HT_.out (by kernel_rfl)) (fun _ _ _ h => h) (Or.inl ⟨by rfl, ?_⟩) ?_ ?_
      rotate_left; ·intro w'; go_simp; with_reducible rfl
      rotate_left; ·exact u2_
      refine take_ (i := 10) (N := some 43) (v := ?_) (a' := ?_) #[true, true, true, true, true, true, true, true, true, true, true, false, true, false, false, false, false, false] rfl rfl (kU HT_.out HW_.out (by kernel_rfl)) (fun _ _ _ h => h) (Or.inl ⟨by rfl, ?_⟩) hHeld ?_ ?_
      rotate_left
      ·rintro w' ⟨s0, s1, s2, s3, s4, s5, s6, s7, s8, s9, s10, s11⟩
       go_simp
       with_reducible rfl
      rotate_left; ·exact u2_
      refine take_ (i := 13) (N := some 46) (v := ?_) (a' := ?_) #[true, true, true, true, true, true, true, true, true, true, true, false, true, true, false, false, false, false] rfl rfl (kU HT_.out HW_.out (by kernel_rfl)) (fun _ _ _ h => h) (Or.inl ⟨by rfl, ?_⟩) hHeld ?_ ?_
      rotate_left
      ·rintro w' ⟨s0, s1, s2, s3, s4, s5, s6, s7, s8, s9, s10, s11⟩
       go_simp
       with_reducible rfl
      rotate_left; ·exact u2_
      refine one_ (i := 11) (N := some 44) #[true, true, true, true, true, true, true, true, true, true, true, true, true, true, false, false, false, false] rfl rfl (one_of HT_.out (by kernel_rfl)) (by decide) (fun K hK => ?_); refine goes_ Tryd.func20 (by kernel_rfl) rfl #[.string a0, .agg #[.int .i64 a1_0, .string a1_1]] (by rfl) rfl rfl y2_ ?_; with_reducible refine (token_Signed.calls kj2 a0 a1_0 a1_1 t402 _ ?side1 A19.out).mono ?_
      (case side1 => exact ⟨kY hT.out y29_⟩)
      rintro e w32 ⟨rfl, hb⟩; refine ⟨_, rfl, ?_⟩; replace BK385 := am_ (kf (g := gb385) (o := .cells #[.int .i64 a1_0, .string a1_1] 23 (0, 0)) y15_ hb); replace BK394 := am_ (kf (g := gb394) (o := .cells #[.string t388, .int .i64 t389, .int .i64 t390, .int .u8 t391, .int .u64 t392] 26 (0, 0)) y49_ hb); replace BK401 := am_ (kf (g := gb401) (o := .cells #[.string t395, .int .i64 t396, .int .i64 t397, .int .u8 t398, .int .u64 t399] 26 (0, 0)) (by (with_reducible repeat (first | refine ki ?_ _ | refine kg ?_ | refine ke ?_ _)); exact BK401.out) hb); replace HB := am_ (kd y29_ hb); (try clear hb); (try clear hb2); (try clear hk); (try clear hi); refine hK.out _ _ ⟨(ka BK394.out 0).trans rfl, (ka BK394.out 1).trans rfl, (ka BK394.out 2).trans rfl, (ka BK394.out 3).trans rfl, (ka BK394.out 4).trans rfl, (ka BK401.out 0).trans rfl, (ka BK401.out 1).trans rfl, (ka BK401.out 2).trans rfl, (ka BK401.out 3).trans rfl, (ka BK401.out 4).trans rfl, (ka BK385.out 0).trans rfl, (ka BK385.out 1).trans rfl⟩ (fun hHeld => ?_); clear hK K; refine norm_ (a' := ?_) ?_ ?_
      rotate_left
      ·show Act.put _ (some 44) _ = _
       simp only [Act.put, List.setIfInBounds_toArray, List.set_cons_zero, List.set_cons_succ, kT, i32_w]
       rfl
      refine one_ (i := 14) (N := some 47) #[true, true, true, true, true, true, true, true, true, true, true, true, true, true, true, false, false, false] rfl rfl (one_of HT_.out (by kernel_rfl)) (by decide) (fun K hK => ?_); refine goes_ Tryd.func21 (by kernel_rfl) rfl #[.string a0, .agg #[.int .i64 a1_0, .string a1_1]] (by rfl) rfl rfl y2_ ?_; with_reducible refine (mr17_Signed.calls kj2 a0 a1_0 a1_1 t403 _ A20.out).mono ?_; rintro e w33 ⟨rfl, hb⟩; refine ⟨_, rfl, ?_⟩; replace BK385 := am_ (kf (g := gb385) (o := .cells #[.int .i64 a1_0, .string a1_1] 23 (0, 0)) y15_ hb); replace BK394 := am_ (kf (g := gb394) (o := .cells #[.string t388, .int .i64 t389, .int .i64 t390, .int .u8 t391, .int .u64 t392] 26 (0, 0)) y49_ hb); replace BK401 := am_ (kf (g := gb401) (o := .cells #[.string t395, .int .i64 t396, .int .i64 t397, .int .u8 t398, .int .u64 t399] 26 (0, 0)) (by (with_reducible repeat (first | refine ki ?_ _ | refine kg ?_ | refine ke ?_ _)); exact BK401.out) hb); replace HB := am_ (kd y29_ hb); (try clear hb); (try clear hb2); (try clear hk); (try clear hi); refine hK.out _ _ ⟨(ka BK394.out 0).trans rfl, (ka BK394.out 1).trans rfl, (ka BK394.out 2).trans rfl, (ka BK394.out 3).trans rfl, (ka BK394.out 4).trans rfl, (ka BK401.out 0).trans rfl, (ka BK401.out 1).trans rfl, (ka BK401.out 2).trans rfl, (ka BK401.out 3).trans rfl, (ka BK401.out 4).trans rfl, (ka BK385.out 0).trans rfl, (ka BK385.out 1).trans rfl⟩ (fun hHeld => ?_); clear hK K; refine norm_ (a' := ?_) ?_ ?_
      rotate_left
      ·show Act.put _ (some 47) _ = _
       simp only [Act.put, List.setIfInBounds_toArray, List.set_cons_zero, List.set_cons_succ, kT, i32_w]
       rfl
      refine ks (i := 15) (N := some 48) (v := ?_) (a' := ?_) #[true, true, true, true, true, true, true, true, true, true, true, true, true, true, true, true, false, false] rfl rfl (kn HT_.out (by kernel_rfl)) (fun _ _ _ h => h) (Or.inl ⟨by rfl, ?_⟩) ?_ ?_
      rotate_left; ·intro w'; go_simp; with_reducible rfl
      rotate_left; ·exact u2_
      refine ks (i := 16) (N := some 49) (v := ?_) (a' := ?_) #[true, true, true, true, true, true, true, true, true, true, true, true, true, true, true, true, true, false] rfl rfl (kn HT_.out (by kernel_rfl)) (fun _ _ _ h => h) (Or.inl ⟨by rfl, ?_⟩) ?_ ?_
      rotate_left; ·intro w'; go_simp; with_reducible rfl
      rotate_left; ·exact u2_
      refine ks (i := 17) (N := some 4) (v := ?_) (a' := ?_) #[true, true, true, true, true, true, true, true, true, true, true, true, true, true, true, true, true, true] rfl rfl (kn HT_.out (by kernel_rfl)) (fun _ _ _ h => h) (Or.inl ⟨by rfl, ?_⟩) ?_ ?_
      rotate_left; ·intro w'; go_simp; with_reducible rfl
      rotate_left; ·exact u2_
      refine done_ (done_of HT_.out (by kernel_rfl)) ?_
      try go_wp2
      go_ret
      exact ⟨y5_, y29_⟩
     ·rw [if_neg c18] at H; have c18b0 : (t393 == t400) = false := beq_eq_false_iff_ne.mpr c18; have c18b1 : (t393 != t400) = true := bne_iff_ne.mpr c18; obtain rfl := Option.some.inj H
      try go_wp2_with (first | ((with_reducible refine kj (f := 18) rfl ?_); refine kw (some 25) rfl rfl Tryd.func18 (by kernel_rfl) rfl #[.string a0] rfl y2_ ?_; (with_reducible refine (token_Read.calls kj2 a0 t388 t389 t390 t391 t392 t393 _ A15.out).mono ?_); rintro e w34 ⟨rfl, hb⟩; refine ⟨_, rfl, ?_⟩; replace BK385 := am_ (kf (g := gb385) (o := .cells #[.int .i64 a1_0, .string a1_1] 23 (0, 0)) y15_ hb); replace HB := am_ (kd y10_ hb); (try clear hb); (try clear hb2); (try clear hk); (try clear hi)) | ((with_reducible refine ko (N := 5) rfl ?_); (try (refine ky (by rfl) ?_; dsimp only)); refine kp ?hg (N := 5) ?hd (cs := #[.string (⟨#[]⟩ : ByteArray), .int .i64 0, .int .i64 0, .int .u8 0, .int .u64 0]) (t := 26) ?hr ?_; (case hd => rfl); (case hg => rfl); (case hr => first | (go_simp; done) | (go_simp; rfl)); intro gb394 hg w35 hbox hb; have BK394 := am_ (hbox); have GW394 := am_ ((by rw [hg]; exact (km y10_) : w.heap.size ≤ gb394)); have GE394 := am_ ((by rw [hg]; exact (km y10_) : w.heap.size ≤ gb394)); replace HB := am_ (kd y10_ hb); have NB385_394 := am_ ((y75_ : gb385 ≠ gb394)); have NB394_385 := am_ ((y76_ : gb394 ≠ gb385)); replace BK385 := am_ (kf (g := gb385) (o := .cells #[.int .i64 a1_0, .string a1_1] 23 (0, 0)) y15_ hb); clear hb hbox hg; have hnb36 := NB394_385.out; have hnc36 := NB385_394.out; obtain ⟨hcz37_0, hcz37_1, hcz37_2, hcz37_3, hcz37_4, hfz37_0, hfz37_1, hfz37_2, hfz37_3, hfz37_4⟩ := pd5_ BK394.out) | ((with_reducible refine kj (f := 19) rfl ?_); refine kw (some 30) rfl rfl Tryd.func19 (by kernel_rfl) rfl #[.string a0] rfl y2_ ?_; (with_reducible refine (mr17_Read.calls kj2 a0 t395 t396 t397 t398 t399 t400 _ A16.out).mono ?_); rintro e w38 ⟨rfl, hb⟩; refine ⟨_, rfl, ?_⟩; replace BK385 := am_ (kf (g := gb385) (o := .cells #[.int .i64 a1_0, .string a1_1] 23 (0, 0)) y35_ hb); replace BK394 := am_ (kf (g := gb394) (o := .cells #[.string t388, .int .i64 t389, .int .i64 t390, .int .u8 t391, .int .u64 t392] 26 (0, 0)) y23_ hb); replace HB := am_ (kd y25_ hb); (try clear hb); (try clear hb2); (try clear hk); (try clear hi)) | ((with_reducible refine ko (N := 7) rfl ?_); (try (refine ky (by rfl) ?_; dsimp only)); refine kp ?hg (N := 7) ?hd (cs := #[.string (⟨#[]⟩ : ByteArray), .int .i64 0, .int .i64 0, .int .u8 0, .int .u64 0]) (t := 26) ?hr ?_; (case hd => rfl); (case hg => rfl); (case hr => first | (go_simp; done) | (go_simp; rfl)); intro gb401 hg w39 hbox hb; have BK401 := am_ (hbox); have GW401 := am_ ((by rw [hg]; exact (km y25_) : w.heap.size ≤ gb401)); have GE401 := am_ ((by rw [hg]; exact (km y25_) : w.heap.size ≤ gb401)); replace HB := am_ (kd y25_ hb); have NB385_401 := am_ ((y75_ : gb385 ≠ gb401)); have NB401_385 := am_ ((y76_ : gb401 ≠ gb385)); replace BK385 := am_ (kf (g := gb385) (o := .cells #[.int .i64 a1_0, .string a1_1] 23 (0, 0)) y15_ hb); have NB394_401 := am_ ((y110_ : gb394 ≠ gb401)); have NB401_394 := am_ ((y111_ : gb401 ≠ gb394)); replace BK394 := am_ (kf (g := gb394) (o := .cells #[.string t388, .int .i64 t389, .int .i64 t390, .int .u8 t391, .int .u64 t392] 26 (0, 0)) y49_ hb); clear hb hbox hg; have hnb40 := NB401_385.out; have hnc40 := NB385_401.out; have hnb41 := NB401_394.out; have hnc41 := NB394_401.out; obtain ⟨hcz42_0, hcz42_1, hcz42_2, hcz42_3, hcz42_4, hfz42_0, hfz42_1, hfz42_2, hfz42_3, hfz42_4⟩ := pd5_ BK401.out))
      have n0_ : Aside0 ((((((w39.setCell ⟨gb401, 0, none⟩ (.string t395)).setCell ⟨gb401, 1, none⟩ (.int .i64 t396)).setCell ⟨gb401, 2, none⟩ (.int .i64 t397)).setCell ⟨gb401, 3, none⟩ (.int .u8 t398)).setCell ⟨gb401, 4, none⟩ (.int .u64 t399)).heap[gb385]? = some (.cells #[.int .i64 a1_0, .string a1_1] 23 (0, 0))) := ⟨y34_⟩; have n1_ : Aside0 ((((((w39.setCell ⟨gb401, 0, none⟩ (.string t395)).setCell ⟨gb401, 1, none⟩ (.int .i64 t396)).setCell ⟨gb401, 2, none⟩ (.int .i64 t397)).setCell ⟨gb401, 3, none⟩ (.int .u8 t398)).setCell ⟨gb401, 4, none⟩ (.int .u64 t399)).heap[gb394]? = some (.cells #[.string t388, .int .i64 t389, .int .i64 t390, .int .u8 t391, .int .u64 t392] 26 (0, 0))) := ⟨y33_⟩; have n2_ : Aside0 ((((((w39.setCell ⟨gb401, 0, none⟩ (.string t395)).setCell ⟨gb401, 1, none⟩ (.int .i64 t396)).setCell ⟨gb401, 2, none⟩ (.int .i64 t397)).setCell ⟨gb401, 3, none⟩ (.int .u8 t398)).setCell ⟨gb401, 4, none⟩ (.int .u64 t399)).heap[gb401]? = some (.cells #[.string t395, .int .i64 t396, .int .i64 t397, .int .u8 t398, .int .u64 t399] 26 (0, 0))) := ⟨y22_⟩; have n3_ : Aside0 (Below w.heap.size w (((((w39.setCell ⟨gb401, 0, none⟩ (.string t395)).setCell ⟨gb401, 1, none⟩ (.int .i64 t396)).setCell ⟨gb401, 2, none⟩ (.int .i64 t397)).setCell ⟨gb401, 3, none⟩ (.int .u8 t398)).setCell ⟨gb401, 4, none⟩ (.int .u64 t399))) := ⟨y29_⟩; (try clear BK385); (try clear BK394); (try clear BK401); (try clear HB); generalize (((((w39.setCell ⟨gb401, 0, none⟩ (.string t395)).setCell ⟨gb401, 1, none⟩ (.int .i64 t396)).setCell ⟨gb401, 2, none⟩ (.int .i64 t397)).setCell ⟨gb401, 3, none⟩ (.int .u8 t398)).setCell ⟨gb401, 4, none⟩ (.int .u64 t399)) = w43 at n0_ n1_ n2_ n3_ ⊢; have BK385 := n0_; have BK394 := n1_; have BK401 := n2_; have HB := n3_; clear n0_ n1_ n2_ n3_; replace BK385 := am_ (kg BK385.out); replace BK394 := am_ (kg BK394.out); replace BK401 := am_ (kg BK401.out); replace HB := am_ (kH HB.out); refine start_ (n := 18) (S := fun w' => w'.cell? ⟨gb394, 0, none⟩ = some (.string t388) ∧ w'.cell? ⟨gb394, 1, none⟩ = some (.int .i64 t389) ∧ w'.cell? ⟨gb394, 2, none⟩ = some (.int .i64 t390) ∧ w'.cell? ⟨gb394, 3, none⟩ = some (.int .u8 t391) ∧ w'.cell? ⟨gb394, 4, none⟩ = some (.int .u64 t392) ∧ w'.cell? ⟨gb401, 0, none⟩ = some (.string t395) ∧ w'.cell? ⟨gb401, 1, none⟩ = some (.int .i64 t396) ∧ w'.cell? ⟨gb401, 2, none⟩ = some (.int .i64 t397) ∧ w'.cell? ⟨gb401, 3, none⟩ = some (.int .u8 t398) ∧ w'.cell? ⟨gb401, 4, none⟩ = some (.int .u64 t399)) (ds := []) #[false, false, false, false, false, false, false, false, false, false, false, false, false, false, false, false, false, false] (by kernel_rfl) rfl rfl ⟨(ka BK394.out 0).trans rfl, (ka BK394.out 1).trans rfl, (ka BK394.out 2).trans rfl, (ka BK394.out 3).trans rfl, (ka BK394.out 4).trans rfl, (ka BK401.out 0).trans rfl, (ka BK401.out 1).trans rfl, (ka BK401.out 2).trans rfl, (ka BK401.out 3).trans rfl, (ka BK401.out 4).trans rfl⟩ (fun hHeld => ?_); refine with_tabW ml17_TokenReads.tab5 ml17_TokenReads.bits5 (fun HT_ HW_ => ?_); generalize w43.drew = w44 at BK385 BK394 BK401 HB hHeld ⊢; refine take_ (i := 0) (N := some 33) (v := ?_) (a' := ?_) #[true, false, false, false, false, false, false, false, false, false, false, false, false, false, false, false, false, false] rfl rfl (kU HT_.out HW_.out (by kernel_rfl)) (fun _ _ _ h => h) (Or.inl ⟨by rfl, ?_⟩) hHeld ?_ ?_
      rotate_left
      ·rintro w' ⟨s0, s1, s2, s3, s4, s5, s6, s7, s8, s9⟩
       go_simp
       with_reducible rfl
      rotate_left; ·exact u2_
      refine take_ (i := 1) (N := some 34) (v := ?_) (a' := ?_) #[true, true, false, false, false, false, false, false, false, false, false, false, false, false, false, false, false, false] rfl rfl (kU HT_.out HW_.out (by kernel_rfl)) (fun _ _ _ h => h) (Or.inl ⟨by rfl, ?_⟩) hHeld ?_ ?_
      rotate_left
      ·rintro w' ⟨s0, s1, s2, s3, s4, s5, s6, s7, s8, s9⟩
       go_simp
       with_reducible rfl
      rotate_left; ·exact u2_
      refine ks (i := 2) (N := some 35) (v := ?_) (a' := ?_) #[true, true, true, false, false, false, false, false, false, false, false, false, false, false, false, false, false, false] rfl rfl (kn HT_.out (by kernel_rfl)) (fun _ _ _ h => h) (Or.inl ⟨by rfl, ?_⟩) ?_ ?_
      rotate_left; ·intro w'; go_simp; with_reducible rfl
      rotate_left; ·exact u2_
      refine ks (i := 3) (N := some 36) (v := ?_) (a' := ?_) #[true, true, true, true, false, false, false, false, false, false, false, false, false, false, false, false, false, false] rfl rfl (kn HT_.out (by kernel_rfl)) (fun _ _ _ h => h) (Or.inl ⟨by rfl, ?_⟩) ?_ ?_
      rotate_left; ·intro w'; go_simp; with_reducible rfl
      rotate_left; ·exact u2_
      refine ks (i := 4) (N := some 37) (v := ?_) (a' := ?_) #[true, true, true, true, true, false, false, false, false, false, false, false, false, false, false, false, false, false] rfl rfl (kn HT_.out (by kernel_rfl)) (fun _ _ _ h => h) (Or.inl ⟨by rfl, ?_⟩) ?_ ?_
      rotate_left; ·intro w'; go_simp; with_reducible rfl
      rotate_left; ·exact u2_
      refine ks (i := 5) (N := some 38) (v := ?_) (a' := ?_) #[true, true, true, true, true, true, false, false, false, false, false, false, false, false, false, false, false, false] rfl rfl (kn HT_.out (by kernel_rfl)) (fun _ _ _ h => h) (Or.inl ⟨by rfl, ?_⟩) ?_ ?_
      rotate_left; ·intro w'; go_simp; with_reducible rfl
      rotate_left; ·exact u2_
      refine ks (i := 6) (N := some 39) (v := ?_) (a' := ?_) #[true, true, true, true, true, true, true, false, false, false, false, false, false, false, false, false, false, false] rfl rfl (kn HT_.out (by kernel_rfl)) (fun _ _ _ h => h) (Or.inl ⟨by rfl, ?_⟩) ?_ ?_
      rotate_left; ·intro w'; go_simp; with_reducible rfl
      rotate_left; ·exact u2_
      refine ks (i := 7) (N := some 40) (v := ?_) (a' := ?_) #[true, true, true, true, true, true, true, true, false, false, false, false, false, false, false, false, false, false] rfl rfl (kn HT_.out (by kernel_rfl)) (fun _ _ _ h => h) (Or.inl ⟨by rfl, ?_⟩) ?_ ?_
      rotate_left; ·intro w'; go_simp; with_reducible rfl
      rotate_left; ·exact u2_
      refine ks (i := 8) (N := some 41) (v := ?_) (a' := ?_) #[true, true, true, true, true, true, true, true, true, false, false, false, false, false, false, false, false, false] rfl rfl (kn HT_.out (by kernel_rfl)) (fun _ _ _ h => h) (Or.inl ⟨by rfl, ?_⟩) ?_ ?_
      rotate_left; ·intro w'; go_simp; with_reducible rfl
      rotate_left; ·exact u2_
      refine ks (i := 9) (N := some 42) (v := undef) (a' := ?_) #[true, true, true, true, true, true, true, true, true, true, false, false, false, false, false, false, false, false] rfl rfl (kn HT_.out (by kernel_rfl)) (fun _ _ _ h => h) (Or.inr ⟨by rfl, rfl⟩) ?_ ?_
      rotate_left; ·exact u2_
      refine ks (i := 10) (N := some 43) (v := undef) (a' := ?_) #[true, true, true, true, true, true, true, true, true, true, true, false, false, false, false, false, false, false] rfl rfl (kn HT_.out (by kernel_rfl)) (fun _ _ _ h => h) (Or.inr ⟨by rfl, rfl⟩) ?_ ?_
      rotate_left; ·exact u2_
      refine ks (i := 11) (N := some 44) (v := undef) (a' := ?_) #[true, true, true, true, true, true, true, true, true, true, true, true, false, false, false, false, false, false] rfl rfl (kn HT_.out (by kernel_rfl)) (fun _ _ _ h => h) (Or.inr ⟨by rfl, rfl⟩) ?_ ?_
      rotate_left; ·exact u2_
      refine ks (i := 12) (N := some 45) (v := undef) (a' := ?_) #[true, true, true, true, true, true, true, true, true, true, true, true, true, false, false, false, false, false] rfl rfl (kn HT_.out (by kernel_rfl)) (fun _ _ _ h => h) (Or.inr ⟨by rfl, rfl⟩) ?_ ?_
      rotate_left; ·exact u2_
      refine ks (i := 13) (N := some 46) (v := undef) (a' := ?_) #[true, true, true, true, true, true, true, true, true, true, true, true, true, true, false, false, false, false] rfl rfl (kn HT_.out (by kernel_rfl)) (fun _ _ _ h => h) (Or.inr ⟨by rfl, rfl⟩) ?_ ?_
      rotate_left; ·exact u2_
      refine ks (i := 14) (N := some 47) (v := undef) (a' := ?_) #[true, true, true, true, true, true, true, true, true, true, true, true, true, true, true, false, false, false] rfl rfl (kn HT_.out (by kernel_rfl)) (fun _ _ _ h => h) (Or.inr ⟨by rfl, rfl⟩) ?_ ?_
      rotate_left; ·exact u2_
      refine ks (i := 15) (N := some 48) (v := undef) (a' := ?_) #[true, true, true, true, true, true, true, true, true, true, true, true, true, true, true, true, false, false] rfl rfl (kn HT_.out (by kernel_rfl)) (fun _ _ _ h => h) (Or.inr ⟨by rfl, rfl⟩) ?_ ?_
      rotate_left; ·exact u2_
      refine ks (i := 16) (N := some 49) (v := ?_) (a' := ?_) #[true, true, true, true, true, true, true, true, true, true, true, true, true, true, true, true, true, false] rfl rfl (kn HT_.out (by kernel_rfl)) (fun _ _ _ h => h) (Or.inl ⟨by rfl, ?_⟩) ?_ ?_
      rotate_left; ·intro w'; go_simp; with_reducible rfl
      rotate_left; ·exact u2_
      refine ks (i := 17) (N := some 4) (v := ?_) (a' := ?_) #[true, true, true, true, true, true, true, true, true, true, true, true, true, true, true, true, true, true] rfl rfl (kn HT_.out (by kernel_rfl)) (fun _ _ _ h => h) (Or.inl ⟨by rfl, ?_⟩) ?_ ?_
      rotate_left; ·intro w'; go_simp; with_reducible rfl
      rotate_left; ·exact u2_
      refine done_ (done_of HT_.out (by kernel_rfl)) ?_
      try go_wp2
      go_ret
      exact ⟨y5_, y29_⟩
    ·rw [if_neg c17] at H
     have c17b0 : (t388.toList == t395.toList && (t389 == t396 && (t390 == t397 && (t391 == t398 && (t392 == t399))))) = false := by simpa using c17
     (try (have c17b1 : decide (t388.toList = t395.toList && (t389 == t396 && (t390 == t397 && (t391 == t398 && (t392 == t399))))) = false := by simpa using c17)); (try (have c17b2 : (t388.toList == t395.toList && (t389 == t396 && (t390 == t397 && (t391 == t398 && (t392 == t399))))) = false := by simpa using c17)); (try (have c17b3 : ¬ (t388.toList = t395.toList && (t389 == t396 && (t390 == t397 && (t391 == t398 && (t392 == t399))))) := by simpa using c17)); clear c17; obtain rfl := Option.some.inj H
     try go_wp2_with (first | ((with_reducible refine kj (f := 18) rfl ?_); refine kw (some 25) rfl rfl Tryd.func18 (by kernel_rfl) rfl #[.string a0] rfl y2_ ?_; (with_reducible refine (token_Read.calls kj2 a0 t388 t389 t390 t391 t392 t393 _ A15.out).mono ?_); rintro e w45 ⟨rfl, hb⟩; refine ⟨_, rfl, ?_⟩; replace BK385 := am_ (kf (g := gb385) (o := .cells #[.int .i64 a1_0, .string a1_1] 23 (0, 0)) y15_ hb); replace HB := am_ (kd y10_ hb); (try clear hb); (try clear hb2); (try clear hk); (try clear hi)) | ((with_reducible refine ko (N := 5) rfl ?_); (try (refine ky (by rfl) ?_; dsimp only)); refine kp ?hg (N := 5) ?hd (cs := #[.string (⟨#[]⟩ : ByteArray), .int .i64 0, .int .i64 0, .int .u8 0, .int .u64 0]) (t := 26) ?hr ?_; (case hd => rfl); (case hg => rfl); (case hr => first | (go_simp; done) | (go_simp; rfl)); intro gb394 hg w46 hbox hb; have BK394 := am_ (hbox); have GW394 := am_ ((by rw [hg]; exact (km y10_) : w.heap.size ≤ gb394)); have GE394 := am_ ((by rw [hg]; exact (km y10_) : w.heap.size ≤ gb394)); replace HB := am_ (kd y10_ hb); have NB385_394 := am_ ((y75_ : gb385 ≠ gb394)); have NB394_385 := am_ ((y76_ : gb394 ≠ gb385)); replace BK385 := am_ (kf (g := gb385) (o := .cells #[.int .i64 a1_0, .string a1_1] 23 (0, 0)) y15_ hb); clear hb hbox hg; have hnb47 := NB394_385.out; have hnc47 := NB385_394.out; obtain ⟨hcz48_0, hcz48_1, hcz48_2, hcz48_3, hcz48_4, hfz48_0, hfz48_1, hfz48_2, hfz48_3, hfz48_4⟩ := pd5_ BK394.out) | ((with_reducible refine kj (f := 19) rfl ?_); refine kw (some 30) rfl rfl Tryd.func19 (by kernel_rfl) rfl #[.string a0] rfl y2_ ?_; (with_reducible refine (mr17_Read.calls kj2 a0 t395 t396 t397 t398 t399 t400 _ A16.out).mono ?_); rintro e w49 ⟨rfl, hb⟩; refine ⟨_, rfl, ?_⟩; replace BK385 := am_ (kf (g := gb385) (o := .cells #[.int .i64 a1_0, .string a1_1] 23 (0, 0)) y35_ hb); replace BK394 := am_ (kf (g := gb394) (o := .cells #[.string t388, .int .i64 t389, .int .i64 t390, .int .u8 t391, .int .u64 t392] 26 (0, 0)) y23_ hb); replace HB := am_ (kd y25_ hb); (try clear hb); (try clear hb2); (try clear hk); (try clear hi)) | ((with_reducible refine ko (N := 7) rfl ?_); (try (refine ky (by rfl) ?_; dsimp only)); refine kp ?hg (N := 7) ?hd (cs := #[.string (⟨#[]⟩ : ByteArray), .int .i64 0, .int .i64 0, .int .u8 0, .int .u64 0]) (t := 26) ?hr ?_; (case hd => rfl); (case hg => rfl); (case hr => first | (go_simp; done) | (go_simp; rfl)); intro gb401 hg w50 hbox hb; have BK401 := am_ (hbox); have GW401 := am_ ((by rw [hg]; exact (km y25_) : w.heap.size ≤ gb401)); have GE401 := am_ ((by rw [hg]; exact (km y25_) : w.heap.size ≤ gb401)); replace HB := am_ (kd y25_ hb); have NB385_401 := am_ ((y75_ : gb385 ≠ gb401)); have NB401_385 := am_ ((y76_ : gb401 ≠ gb385)); replace BK385 := am_ (kf (g := gb385) (o := .cells #[.int .i64 a1_0, .string a1_1] 23 (0, 0)) y15_ hb); have NB394_401 := am_ ((y110_ : gb394 ≠ gb401)); have NB401_394 := am_ ((y111_ : gb401 ≠ gb394)); replace BK394 := am_ (kf (g := gb394) (o := .cells #[.string t388, .int .i64 t389, .int .i64 t390, .int .u8 t391, .int .u64 t392] 26 (0, 0)) y49_ hb); clear hb hbox hg; have hnb51 := NB401_385.out; have hnc51 := NB385_401.out; have hnb52 := NB401_394.out; have hnc52 := NB394_401.out; obtain ⟨hcz53_0, hcz53_1, hcz53_2, hcz53_3, hcz53_4, hfz53_0, hfz53_1, hfz53_2, hfz53_3, hfz53_4⟩ := pd5_ BK401.out))
     have n0_ : Aside0 ((((((w50.setCell ⟨gb401, 0, none⟩ (.string t395)).setCell ⟨gb401, 1, none⟩ (.int .i64 t396)).setCell ⟨gb401, 2, none⟩ (.int .i64 t397)).setCell ⟨gb401, 3, none⟩ (.int .u8 t398)).setCell ⟨gb401, 4, none⟩ (.int .u64 t399)).heap[gb385]? = some (.cells #[.int .i64 a1_0, .string a1_1] 23 (0, 0))) := ⟨y34_⟩; have n1_ : Aside0 ((((((w50.setCell ⟨gb401, 0, none⟩ (.string t395)).setCell ⟨gb401, 1, none⟩ (.int .i64 t396)).setCell ⟨gb401, 2, none⟩ (.int .i64 t397)).setCell ⟨gb401, 3, none⟩ (.int .u8 t398)).setCell ⟨gb401, 4, none⟩ (.int .u64 t399)).heap[gb394]? = some (.cells #[.string t388, .int .i64 t389, .int .i64 t390, .int .u8 t391, .int .u64 t392] 26 (0, 0))) := ⟨y33_⟩; have n2_ : Aside0 ((((((w50.setCell ⟨gb401, 0, none⟩ (.string t395)).setCell ⟨gb401, 1, none⟩ (.int .i64 t396)).setCell ⟨gb401, 2, none⟩ (.int .i64 t397)).setCell ⟨gb401, 3, none⟩ (.int .u8 t398)).setCell ⟨gb401, 4, none⟩ (.int .u64 t399)).heap[gb401]? = some (.cells #[.string t395, .int .i64 t396, .int .i64 t397, .int .u8 t398, .int .u64 t399] 26 (0, 0))) := ⟨y22_⟩; have n3_ : Aside0 (Below w.heap.size w (((((w50.setCell ⟨gb401, 0, none⟩ (.string t395)).setCell ⟨gb401, 1, none⟩ (.int .i64 t396)).setCell ⟨gb401, 2, none⟩ (.int .i64 t397)).setCell ⟨gb401, 3, none⟩ (.int .u8 t398)).setCell ⟨gb401, 4, none⟩ (.int .u64 t399))) := ⟨y29_⟩; (try clear BK385); (try clear BK394); (try clear BK401); (try clear HB); generalize (((((w50.setCell ⟨gb401, 0, none⟩ (.string t395)).setCell ⟨gb401, 1, none⟩ (.int .i64 t396)).setCell ⟨gb401, 2, none⟩ (.int .i64 t397)).setCell ⟨gb401, 3, none⟩ (.int .u8 t398)).setCell ⟨gb401, 4, none⟩ (.int .u64 t399)) = w54 at n0_ n1_ n2_ n3_ ⊢; have BK385 := n0_; have BK394 := n1_; have BK401 := n2_; have HB := n3_; clear n0_ n1_ n2_ n3_; replace BK385 := am_ (kg BK385.out); replace BK394 := am_ (kg BK394.out); replace BK401 := am_ (kg BK401.out); replace HB := am_ (kH HB.out); refine start_ (n := 18) (S := fun w' => w'.cell? ⟨gb394, 0, none⟩ = some (.string t388) ∧ w'.cell? ⟨gb394, 1, none⟩ = some (.int .i64 t389) ∧ w'.cell? ⟨gb394, 2, none⟩ = some (.int .i64 t390) ∧ w'.cell? ⟨gb394, 3, none⟩ = some (.int .u8 t391) ∧ w'.cell? ⟨gb394, 4, none⟩ = some (.int .u64 t392) ∧ w'.cell? ⟨gb401, 0, none⟩ = some (.string t395) ∧ w'.cell? ⟨gb401, 1, none⟩ = some (.int .i64 t396) ∧ w'.cell? ⟨gb401, 2, none⟩ = some (.int .i64 t397) ∧ w'.cell? ⟨gb401, 3, none⟩ = some (.int .u8 t398) ∧ w'.cell? ⟨gb401, 4, none⟩ = some (.int .u64 t399)) (ds := []) #[false, false, false, false, false, false, false, false, false, false, false, false, false, false, false, false, false, false] (by kernel_rfl) rfl rfl ⟨(ka BK394.out 0).trans rfl, (ka BK394.out 1).trans rfl, (ka BK394.out 2).trans rfl, (ka BK394.out 3).trans rfl, (ka BK394.out 4).trans rfl, (ka BK401.out 0).trans rfl, (ka BK401.out 1).trans rfl, (ka BK401.out 2).trans rfl, (ka BK401.out 3).trans rfl, (ka BK401.out 4).trans rfl⟩ (fun hHeld => ?_); refine with_tabW ml17_TokenReads.tab5 ml17_TokenReads.bits5 (fun HT_ HW_ => ?_); generalize w54.drew = w55 at BK385 BK394 BK401 HB hHeld ⊢; refine take_ (i := 0) (N := some 33) (v := ?_) (a' := ?_) #[true, false, false, false, false, false, false, false, false, false, false, false, false, false, false, false, false, false] rfl rfl (kU HT_.out HW_.out (by kernel_rfl)) (fun _ _ _ h => h) (Or.inl ⟨by rfl, ?_⟩) hHeld ?_ ?_
     rotate_left
     ·rintro w' ⟨s0, s1, s2, s3, s4, s5, s6, s7, s8, s9⟩
      go_simp
      with_reducible rfl
     rotate_left; ·exact u2_
     refine take_ (i := 1) (N := some 34) (v := ?_) (a' := ?_) #[true, true, false, false, false, false, false, false, false, false, false, false, false, false, false, false, false, false] rfl rfl (kU HT_.out HW_.out (by kernel_rfl)) (fun _ _ _ h => h) (Or.inl ⟨by rfl, ?_⟩) hHeld ?_ ?_
     rotate_left
     ·rintro w' ⟨s0, s1, s2, s3, s4, s5, s6, s7, s8, s9⟩
      go_simp
      with_reducible rfl
     rotate_left; ·exact u2_
     refine ks (i := 2) (N := some 35) (v := ?_) (a' := ?_) #[true, true, true, false, false, false, false, false, false, false, false, false, false, false, false, false, false, false] rfl rfl (kn HT_.out (by kernel_rfl)) (fun _ _ _ h => h) (Or.inl ⟨by rfl, ?_⟩) ?_ ?_
     rotate_left; ·intro w'; go_simp; with_reducible rfl
     rotate_left; ·exact u2_
     refine ks (i := 3) (N := some 36) (v := ?_) (a' := ?_) #[true, true, true, true, false, false, false, false, false, false, false, false, false, false, false, false, false, false] rfl rfl (kn HT_.out (by kernel_rfl)) (fun _ _ _ h => h) (Or.inl ⟨by rfl, ?_⟩) ?_ ?_
     rotate_left; ·intro w'; go_simp; with_reducible rfl
     rotate_left; ·exact u2_
     refine ks (i := 4) (N := some 37) (v := undef) (a' := ?_) #[true, true, true, true, true, false, false, false, false, false, false, false, false, false, false, false, false, false] rfl rfl (kn HT_.out (by kernel_rfl)) (fun _ _ _ h => h) (Or.inr ⟨by rfl, rfl⟩) ?_ ?_
     rotate_left; ·exact u2_
     refine ks (i := 5) (N := some 38) (v := undef) (a' := ?_) #[true, true, true, true, true, true, false, false, false, false, false, false, false, false, false, false, false, false] rfl rfl (kn HT_.out (by kernel_rfl)) (fun _ _ _ h => h) (Or.inr ⟨by rfl, rfl⟩) ?_ ?_
     rotate_left; ·exact u2_
     refine ks (i := 6) (N := some 39) (v := undef) (a' := ?_) #[true, true, true, true, true, true, true, false, false, false, false, false, false, false, false, false, false, false] rfl rfl (kn HT_.out (by kernel_rfl)) (fun _ _ _ h => h) (Or.inr ⟨by rfl, rfl⟩) ?_ ?_
     rotate_left; ·exact u2_
     refine ks (i := 7) (N := some 40) (v := ?_) (a' := ?_) #[true, true, true, true, true, true, true, true, false, false, false, false, false, false, false, false, false, false] rfl rfl (kn HT_.out (by kernel_rfl)) (fun _ _ _ h => h) (Or.inl ⟨by rfl, ?_⟩) ?_ ?_
     rotate_left; ·intro w'; go_simp; with_reducible rfl
     rotate_left; ·exact u2_
     refine ks (i := 8) (N := some 41) (v := ?_) (a' := ?_) #[true, true, true, true, true, true, true, true, true, false, false, false, false, false, false, false, false, false] rfl rfl (kn HT_.out (by kernel_rfl)) (fun _ _ _ h => h) (Or.inl ⟨by rfl, ?_⟩) ?_ ?_
     rotate_left; ·intro w'; go_simp; with_reducible rfl
     rotate_left; ·exact u2_
     refine ks (i := 9) (N := some 42) (v := undef) (a' := ?_) #[true, true, true, true, true, true, true, true, true, true, false, false, false, false, false, false, false, false] rfl rfl (kn HT_.out (by kernel_rfl)) (fun _ _ _ h => h) (Or.inr ⟨by rfl, rfl⟩) ?_ ?_
     rotate_left; ·exact u2_
     refine ks (i := 10) (N := some 43) (v := undef) (a' := ?_) #[true, true, true, true, true, true, true, true, true, true, true, false, false, false, false, false, false, false] rfl rfl (kn HT_.out (by kernel_rfl)) (fun _ _ _ h => h) (Or.inr ⟨by rfl, rfl⟩) ?_ ?_
     rotate_left; ·exact u2_
     refine ks (i := 11) (N := some 44) (v := undef) (a' := ?_) #[true, true, true, true, true, true, true, true, true, true, true, true, false, false, false, false, false, false] rfl rfl (kn HT_.out (by kernel_rfl)) (fun _ _ _ h => h) (Or.inr ⟨by rfl, rfl⟩) ?_ ?_
     rotate_left; ·exact u2_
     refine ks (i := 12) (N := some 45) (v := undef) (a' := ?_) #[true, true, true, true, true, true, true, true, true, true, true, true, true, false, false, false, false, false] rfl rfl (kn HT_.out (by kernel_rfl)) (fun _ _ _ h => h) (Or.inr ⟨by rfl, rfl⟩) ?_ ?_
     rotate_left; ·exact u2_
     refine ks (i := 13) (N := some 46) (v := undef) (a' := ?_) #[true, true, true, true, true, true, true, true, true, true, true, true, true, true, false, false, false, false] rfl rfl (kn HT_.out (by kernel_rfl)) (fun _ _ _ h => h) (Or.inr ⟨by rfl, rfl⟩) ?_ ?_
     rotate_left; ·exact u2_
     refine ks (i := 14) (N := some 47) (v := undef) (a' := ?_) #[true, true, true, true, true, true, true, true, true, true, true, true, true, true, true, false, false, false] rfl rfl (kn HT_.out (by kernel_rfl)) (fun _ _ _ h => h) (Or.inr ⟨by rfl, rfl⟩) ?_ ?_
     rotate_left; ·exact u2_
     refine ks (i := 15) (N := some 48) (v := undef) (a' := ?_) #[true, true, true, true, true, true, true, true, true, true, true, true, true, true, true, true, false, false] rfl rfl (kn HT_.out (by kernel_rfl)) (fun _ _ _ h => h) (Or.inr ⟨by rfl, rfl⟩) ?_ ?_
     rotate_left; ·exact u2_
     refine ks (i := 16) (N := some 49) (v := ?_) (a' := ?_) #[true, true, true, true, true, true, true, true, true, true, true, true, true, true, true, true, true, false] rfl rfl (kn HT_.out (by kernel_rfl)) (fun _ _ _ h => h) (Or.inl ⟨by rfl, ?_⟩) ?_ ?_
     rotate_left; ·intro w'; go_simp; with_reducible rfl
     rotate_left; ·exact u2_
     refine ks (i := 17) (N := some 4) (v := ?_) (a' := ?_) #[true, true, true, true, true, true, true, true, true, true, true, true, true, true, true, true, true, true] rfl rfl (kn HT_.out (by kernel_rfl)) (fun _ _ _ h => h) (Or.inl ⟨by rfl, ?_⟩) ?_ ?_
     rotate_left; ·intro w'; go_simp; with_reducible rfl
     rotate_left; ·exact u2_
     refine done_ (done_of HT_.out (by kernel_rfl)) ?_
     try go_wp2
     go_ret
     exact ⟨y5_, y29_⟩
end Go.Proofs.YtkkomfomjpcbfaaDoor.PTS
