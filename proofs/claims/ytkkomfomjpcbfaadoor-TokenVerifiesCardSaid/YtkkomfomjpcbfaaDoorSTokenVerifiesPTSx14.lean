import Derived.Test.YtkkomfomjpcbfaaDoorSTokenVerifiesH14
import Derived.Test.YtkkomfomjpcbfaaDoorSTokenVerifiesPTSx8
import Derived.Test.YtkkomfomjpcbfaaDoorSTokenVerifiesPTSx12
import Derived.Test.YtkkomfomjpcbfaaDoorSTokenVerifiesPTSx13
import Derived.Laws.RangeAny
import Derived.Lib.OthersKept
import Derived.Test.YtkkomfomjpcbfaaDoorSTokenVerifiesE1
import Derived.Test.YtkkomfomjpcbfaaDoorSTokenVerifiesWGuard
import Derived.Test.YtkkomfomjpcbfaaDoorSTokenVerifiesTM
import Derived.Test.YtkkomfomjpcbfaaDoorSTokenVerifiesTT
import Derived.Test.YtkkomfomjpcbfaaDoorSTokenVerifiesY
set_option linter.unusedVariables false
set_option linter.unusedSimpArgs false
namespace Go.Proofs.YtkkomfomjpcbfaaDoor.PTS
open Go.RowKit Go.Proofs.YtkkomfomjpcbfaaDoorW.PrintWords Go.Proofs.YtkkomfomjpcbfaaDoorW.PrintLast Go.Proofs.YtkkomfomjpcbfaaDoorW.PrintMore
attribute [local go_sem] kQ kO kW kV kG kF kP kN
mutual
def mr17_claims.j0 : Nat → List Int → Int → Int → Bool → ByteArray → Int → Int → Int → Int → Option (ByteArray × Int × Int × Int × Int × Bool)
 | 0, _, _, _, _, _, _, _, _, _ => none
 | k + 1, x0, x5, x6, x27, x334000, x334001, x334002, x334003, x334004 => if x27 = true then (some (x334000, x334001, x334002, x334003, x334004, false)) else (if 0 ≤ x6 then (if x6 ≤ (x0.length : Int) then (if 0 ≤ (wrap64 (x5)) then (if (wrap64 (x5)) ≤ ((x0.drop (x6 : Int).toNat).length : Int) then ((mr01_Uvarint.f k ((x0.drop (x6 : Int).toNat).drop ((wrap64 (x5)) : Int).toNat)).bind fun bt340 => (if bt340.2.2 = 0 then (mr17_claims.j1 k ((x0.drop (x6 : Int).toNat).drop ((wrap64 (x5)) : Int).toNat) bt340.2.1 bt340.1 (decide (bt340.1 > 99)) (strOfNums ((x0.drop (x6 : Int).toNat).take ((wrap64 (x5)) : Int).toNat)) x334001 x334002 x334003 x334004) else (mr17_claims.j1 k ((x0.drop (x6 : Int).toNat).drop ((wrap64 (x5)) : Int).toNat) bt340.2.1 bt340.1 true (strOfNums ((x0.drop (x6 : Int).toNat).take ((wrap64 (x5)) : Int).toNat)) x334001 x334002 x334003 x334004))) else (none)) else (none)) else (none)) else (none))
def mr17_claims.j1 : Nat → List Int → Int → Int → Bool → ByteArray → Int → Int → Int → Int → Option (ByteArray × Int × Int × Int × Int × Bool)
 | 0, _, _, _, _, _, _, _, _, _ => none
 | k + 1, x0, x6, x8, x53, x334000, x334001, x334002, x334003, x334004 => if x53 = true then (some (x334000, x334001, x334002, x334003, x334004, false)) else (if 0 ≤ x6 then (if x6 ≤ (x0.length : Int) then ((mr01_Varint.f k (x0.drop (x6 : Int).toNat)).bind fun bt344 => (if bt344.2.2 = 0 then (mr17_claims.j2 k (x0.drop (x6 : Int).toNat) bt344.2.1 bt344.1 (((x0.drop (x6 : Int).toNat).length : Int) == bt344.2.1) x334000 (wrap64 (x8)) x334002 x334003 x334004) else (mr17_claims.j2 k (x0.drop (x6 : Int).toNat) bt344.2.1 bt344.1 true x334000 (wrap64 (x8)) x334002 x334003 x334004))) else (none)) else (none))
def mr17_claims.j2 : Nat → List Int → Int → Int → Bool → ByteArray → Int → Int → Int → Int → Option (ByteArray × Int × Int × Int × Int × Bool)
 | 0, _, _, _, _, _, _, _, _, _ => none
 | k + 1, x0, x6, x9, x74, x334000, x334001, x334002, x334003, x334004 => if x74 = true then (some (x334000, x334001, x334002, x334003, x334004, false)) else (if 0 ≤ x6 then (if x6 < (x0.length : Int) then (if 0 ≤ (wrap64 (x6 + 1)) then (if (wrap64 (x6 + 1)) ≤ (x0.length : Int) then ((mr01_Uvarint.f k (x0.drop ((wrap64 (x6 + 1)) : Int).toNat)).bind fun bt349 => (if bt349.2.2 = 0 then (if bt349.2.1 = ((x0.drop ((wrap64 (x6 + 1)) : Int).toNat).length : Int) then ((mr17_Check.f k x334000 x334001 x9 (rd x0 x6) bt349.1).bind fun t352 => (some (x334000, x334001, x9, rd x0 x6, bt349.1, (t352 == 0)))) else (some (x334000, x334001, x9, rd x0 x6, bt349.1, false))) else (some (x334000, x334001, x9, rd x0 x6, bt349.1, false)))) else (none)) else (none)) else (none)) else (none))
end
def mr17_claims.f (k : Nat) (l0 : List Int) : Option (ByteArray × Int × Int × Int × Int × Bool) := (mr01_Uvarint.f k l0).bind fun bt334 => (if bt334.2.2 = 0 then (mr17_claims.j0 k l0 bt334.1 bt334.2.1 (decide (bt334.1 > (IntKind.u64.wrap (wrap64 ((l0.length : Int) - bt334.2.1))))) (⟨#[]⟩ : ByteArray) 0 0 0 0) else (mr17_claims.j0 k l0 bt334.1 bt334.2.1 true (⟨#[]⟩ : ByteArray) 0 0 0 0))
def mr17_claims.T16 : Bool × List (List Nat × List Nat) := (true, [([], []), ([], []), ([], []), ([1, 2], [1, 2]), ([3], [3]), ([0], []), ([5, 0, 0], [0, 5]), ([0, 1, 2, 3, 4, 5, 6], []), ([7, 4, 6, 0, 1, 2, 3, 4, 5, 6], [4, 7])])
def mr17_claims.B16 : List Nat := [0, 0, 0, 6, 14, 1, 33, 127, 255]
theorem mr17_claims.tab16 : rtab .any (opsOf Tryd.f37 16) = mr17_claims.T16 := by kernel_rfl
theorem mr17_claims.bits16 : waitsOk mr17_claims.T16.2 mr17_claims.B16 = true := by kernel_rfl
def mr17_claims.T20 : Bool × List (List Nat × List Nat) := (true, [([], []), ([], []), ([1], [1]), ([2], [2]), ([3], [3]), ([3], [3]), ([5, 3], [3, 5]), ([4, 6, 3], [3, 4, 6]), ([3, 7], [3, 7]), ([8, 3], [8]), ([9], [9]), ([10, 9, 9], [9, 10]), ([11, 9], [9, 11]), ([9, 12], [9, 12]), ([0, 11, 0], [0]), ([13, 14, 0, 1, 2, 3, 4, 5, 6, 7, 8, 9, 10, 11, 12, 13, 14], [13])])
def mr17_claims.B20 : List Nat := [0, 0, 2, 6, 14, 14, 46, 126, 254, 510, 1022, 2046, 4094, 8190, 4095, 32767]
theorem mr17_claims.tab20 : rtab .any (opsOf Tryd.f37 20) = mr17_claims.T20 := by kernel_rfl
theorem mr17_claims.bits20 : waitsOk mr17_claims.T20.2 mr17_claims.B20 = true := by kernel_rfl
set_option maxHeartbeats 8000000 in
set_option maxRecDepth 100000 in
theorem mr17_claims.calls (k : Nat) (A0 : Option Addr) (c0 : Nat) (l0 : List Int) (r1 : ByteArray) (r2 : Int) (r3 : Int) (r4 : Int) (r5 : Int) (r6 : Bool) (w : World) (hr0 : Kd.C (Kd.int .u8) w A0 l0.length l0) (hc0 : l0.length ≤ c0) (h : mr17_claims.f k l0 = some (r1, r2, r3, r4, r5, r6)) :
  Calls Tryd.prog 37 #[.slice A0 l0.length c0] w fun e w' => e = .returned (.tuple #[.agg #[.string r1, .int .i64 r2, .int .i64 r3, .int .u8 r4, .int .u64 r5], .bool r6]) ∧ Below w.heap.size w w' := by
 have hu26 := Tryd.underlying26; have HR0 := Aside0.mk hr0; have HC0 := Aside0.mk hc0; clear hr0 hc0; have HB := am_ (Below.refl w.heap.size w); have H : ((mr01_Uvarint.f k l0).bind fun bt334 => (if bt334.2.2 = 0 then (mr17_claims.j0 k l0 bt334.1 bt334.2.1 (decide (bt334.1 > (IntKind.u64.wrap (wrap64 ((l0.length : Int) - bt334.2.1))))) (⟨#[]⟩ : ByteArray) 0 0 0 0) else (mr17_claims.j0 k l0 bt334.1 bt334.2.1 true (⟨#[]⟩ : ByteArray) 0 0 0 0))) = some (r1, r2, r3, r4, r5, r6) := h; clear h; replace H := Option.bind_eq_some_iff.mp H; obtain ⟨⟨t334, t335, t336⟩, A20, H⟩ := H; replace H : (if t336 = 0 then (mr17_claims.j0 k l0 t334 t335 (decide (t334 > (IntKind.u64.wrap (wrap64 ((l0.length : Int) - t335))))) (⟨#[]⟩ : ByteArray) 0 0 0 0) else (mr17_claims.j0 k l0 t334 t335 true (⟨#[]⟩ : ByteArray) 0 0 0 0)) = some (r1, r2, r3, r4, r5, r6) := H; have A2 := Aside0.mk A20; clear A20; have HC3 := Aside0.mk H; clear H; go_enter Tryd.func37, Tryd.ntmps37
 go_upto_region 3 with (first | ((with_reducible refine ko (N := 2) rfl ?_); (try (refine kx (by rfl) ?_; dsimp only)); refine kn ?hg (N := 2) ?hd (cs := #[.string (⟨#[]⟩ : ByteArray), .int .i64 0, .int .i64 0, .int .u8 0, .int .u64 0]) (t := 26) ?hr ?_; (case hd => rfl); (case hg => rfl); (case hr => first | (go_simp; done) | (go_simp; rfl)); intro gb332 hg w4 hbox hb; have BK332 := am_ (hbox); have GW332 := am_ ((y31_ : w.heap.size ≤ gb332)); have GE332 := am_ ((y31_ : w.heap.size ≤ gb332)); replace HB := am_ (ke y1_ hb); clear hb hbox hg) | ((with_reducible refine ko (N := 4) rfl ?_); (try (refine kx (by rfl) ?_; dsimp only)); refine kn ?hg (N := 4) ?hd (cs := #[.string (⟨#[]⟩ : ByteArray), .int .i64 0, .int .i64 0, .int .u8 0, .int .u64 0]) (t := 26) ?hr ?_; (case hd => rfl); (case hg => rfl); (case hr => first | (go_simp; done) | (go_simp; rfl)); intro gb333 hg w5 hbox hb; have BK333 := am_ (hbox); have GW333 := am_ ((by rw [hg]; exact (km y114_) : w.heap.size ≤ gb333)); have GE333 := am_ ((by rw [hg]; exact (km y114_) : w.heap.size ≤ gb333)); replace HB := am_ (ke y114_ hb); have NB332_333 := am_ ((by rw [hg]; exact Nat.ne_of_lt (ky (g := gb332) (o := .cells #[.string (⟨#[]⟩ : ByteArray), .int .i64 0, .int .i64 0, .int .u8 0, .int .u64 0] 26 (0, 0)) y61_) : gb332 ≠ gb333)); have NB333_332 := am_ ((by rw [hg]; exact Nat.ne_of_gt (ky (g := gb332) (o := .cells #[.string (⟨#[]⟩ : ByteArray), .int .i64 0, .int .i64 0, .int .u8 0, .int .u64 0] 26 (0, 0)) y61_) : gb333 ≠ gb332)); replace BK332 := am_ (ki (g := gb332) (o := .cells #[.string (⟨#[]⟩ : ByteArray), .int .i64 0, .int .i64 0, .int .u8 0, .int .u64 0] 26 (0, 0)) y61_ hb); clear hb hbox hg) | ((with_reducible refine kj (f := 62) rfl ?_); refine kw (some 13) rfl rfl Tryd.func62 (by kernel_rfl) rfl #[.slice A0 l0.length c0] rfl y2_ ?_; (with_reducible refine (mr01_Uvarint.calls k _ _ l0 t334 t335 t336 _ ?side1 ?side2 A2.out).mono ?_); (case side1 => repeat (first | exact (Kd.C_below HR0.out HB.out) | (with_reducible refine Kd.C_alloc ?_ _) | (with_reducible refine Kd.C_drewN ?_ _) | (with_reducible refine Kd.C_drew ?_))); (case side2 => exact HC0.out); rintro e w' ⟨rfl, ⟨nd, rfl⟩⟩; refine ⟨_, rfl, ?_⟩))
 (try simp only [Act.put, List.setIfInBounds_toArray, List.set_cons_zero, List.set_cons_succ]); go_cut [27] (fun v27 wc => ∃ (kq : Nat) (x27_2 : Bool), v27 = .bool x27_2 ∧ Aside0 (mr17_claims.j0 kq l0 t334 t335 x27_2 (⟨#[]⟩ : ByteArray) 0 0 0 0 = some (r1, r2, r3, r4, r5, r6)) ∧ Aside0 (kq ≤ k) ∧ Aside0 (wc.heap[gb332]? = some (.cells #[.string (⟨#[]⟩ : ByteArray), .int .i64 0, .int .i64 0, .int .u8 0, .int .u64 0] 26 (0, 0))) ∧ Aside0 (wc.heap[gb333]? = some (.cells #[.string (⟨#[]⟩ : ByteArray), .int .i64 0, .int .i64 0, .int .u8 0, .int .u64 0] 26 (0, 0))) ∧ Aside0 (Below w.heap.size w wc))
 case first =>
  have H := HC3.out; clear HC3
  by_cases c6 : t336 = 0
  ·rw [if_pos c6] at H; have c6b0 : (t336 == 0) = true := beq_iff_eq.mpr c6; have c6b1 : (t336 != 0) = false := bne_eq_false_iff_eq.mpr c6; clear c6; (first | rw [c6b0] | (simp only [kT, i32_w]; rw [c6b0]) | skip); have H' := Aside0.mk H; clear H
   go_wp2
   go_meet
   case rel => exact ⟨_, (decide (t334 > (IntKind.u64.wrap (wrap64 ((l0.length : Int) - t335))))), y3_, H', ⟨y89_⟩, ⟨y61_⟩, ⟨y80_⟩, ⟨y8_⟩⟩
  ·rw [if_neg c6] at H; have c6b0 : (t336 == 0) = false := beq_eq_false_iff_ne.mpr c6; have c6b1 : (t336 != 0) = true := bne_iff_ne.mpr c6; (first | rw [c6b0] | (simp only [kT, i32_w]; rw [c6b0]) | skip); have H' := Aside0.mk H; clear H
   go_wp2
   go_meet
   case rel => exact ⟨_, (true), y3_, H', ⟨y89_⟩, ⟨y61_⟩, ⟨y80_⟩, ⟨y8_⟩⟩
 case rest =>
  clear HC3
  try clear p2
  try clear c3
  try clear c6
  try clear c6b0
  try clear c6b1
  try clear p6
  obtain ⟨kq, x27_2, rfl, HA, HJ2, BK332, BK333, HB⟩ := hcut
  cases kq with
  | zero => exact absurd HA.out (by simp [mr17_claims.j0])
  | succ kj2 =>
   have H := HA.out; clear HA; simp only [mr17_claims.j0] at H
   by_cases c7 : x27_2 = true
   ·subst c7; rw [if_pos rfl] at H; simp only [Option.some.injEq, Prod.mk.injEq] at H; obtain ⟨rfl, rfl, rfl, rfl, rfl, rfl⟩ := H; have hnb8 := NB333_332.out; have hnc8 := NB332_333.out; obtain ⟨hcz9_0, hcz9_1, hcz9_2, hcz9_3, hcz9_4, hfz9_0, hfz9_1, hfz9_2, hfz9_3, hfz9_4⟩ := pd5_ BK333.out; obtain ⟨hcz10_0, hcz10_1, hcz10_2, hcz10_3, hcz10_4, hfz10_0, hfz10_1, hfz10_2, hfz10_3, hfz10_4⟩ := pd5_ BK332.out
    go_wp2
    refine bodyPost_ret (ku rfl _ _ gb332 26 #[.string (⟨#[]⟩ : ByteArray), .int .i64 0, .int .i64 0, .int .u8 0, .int .u64 0] (0, 0) _ rfl (by (with_reducible repeat (first | refine kf ?_ _ | refine kg ?_ | refine kd ?_ _)); refine kp (cs := #[.string (⟨#[]⟩ : ByteArray), .int .i64 0, .int .i64 0, .int .u8 0, .int .u64 0]) ?_ 4 _ rfl; (with_reducible repeat (first | refine kf ?_ _ | refine kg ?_ | refine kd ?_ _)); refine kp (cs := #[.string (⟨#[]⟩ : ByteArray), .int .i64 0, .int .i64 0, .int .u8 0, .int .u64 0]) ?_ 3 _ rfl; (with_reducible repeat (first | refine kf ?_ _ | refine kg ?_ | refine kd ?_ _)); refine kp (cs := #[.string (⟨#[]⟩ : ByteArray), .int .i64 0, .int .i64 0, .int .u8 0, .int .u64 0]) ?_ 2 _ rfl; (with_reducible repeat (first | refine kf ?_ _ | refine kg ?_ | refine kd ?_ _)); refine kp (cs := #[.string (⟨#[]⟩ : ByteArray), .int .i64 0, .int .i64 0, .int .u8 0, .int .u64 0]) ?_ 1 _ rfl; (with_reducible repeat (first | refine kf ?_ _ | refine kg ?_ | refine kd ?_ _)); refine kp (cs := #[.string (⟨#[]⟩ : ByteArray), .int .i64 0, .int .i64 0, .int .u8 0, .int .u64 0]) ?_ 0 _ rfl; (with_reducible repeat (first | refine kf ?_ _ | refine kg ?_ | refine kd ?_ _)); exact BK332.out) Tryd.underlying26 rfl (by kernel_rfl)) rfl ?_
    exact ⟨y5_, y8_⟩
   ·replace c7 := Bool.eq_false_iff.mpr c7; subst c7; rw [if_neg (show ¬ (false = true) by decide)] at H
    by_cases c11 : 0 ≤ t335
    ·rw [if_pos c11] at H; have c11b0 := eq_true c11; have c11b1 : decide (0 ≤ t335) = true := decide_eq_true c11; clear c11
     by_cases c12 : t335 ≤ (l0.length : Int)
     ·rw [if_pos c12] at H; have c12b0 := eq_true c12; have c12b1 : decide (t335 ≤ (l0.length : Int)) = true := decide_eq_true c12; clear c12; obtain ⟨ji13, hji13⟩ : ∃ j_ : Int, (wrap64 (t334)) = j_ := ⟨_, rfl⟩
      replace H : (if 0 ≤ (ji13) then (if (ji13) ≤ ((l0.drop (t335 : Int).toNat).length : Int) then ((mr01_Uvarint.f kj2 ((l0.drop (t335 : Int).toNat).drop ((ji13) : Int).toNat)).bind fun bt340 => (if bt340.2.2 = 0 then (mr17_claims.j1 kj2 ((l0.drop (t335 : Int).toNat).drop ((ji13) : Int).toNat) bt340.2.1 bt340.1 (decide (bt340.1 > 99)) (strOfNums ((l0.drop (t335 : Int).toNat).take ((ji13) : Int).toNat)) 0 0 0 0) else (mr17_claims.j1 kj2 ((l0.drop (t335 : Int).toNat).drop ((ji13) : Int).toNat) bt340.2.1 bt340.1 true (strOfNums ((l0.drop (t335 : Int).toNat).take ((ji13) : Int).toNat)) 0 0 0 0))) else (none)) else (none)) = some (r1, r2, r3, r4, r5, r6) := by first | (rw [hji13] at H; exact H) | (simp only [hji13] at H ⊢; exact H)
      have hji13w : (IntKind.i64.wrap (t334)) = ji13 := (kT _).trans hji13
      by_cases c14 : 0 ≤ (ji13)
      ·rw [if_pos c14] at H; have c14b0 := eq_true c14; have c14b1 : decide (0 ≤ (ji13)) = true := decide_eq_true c14; clear c14
       by_cases c15 : (ji13) ≤ ((l0.drop (t335 : Int).toNat).length : Int)
       ·rw [if_pos c15] at H; have c15b0 := eq_true c15; have c15b1 : decide ((ji13) ≤ ((l0.drop (t335 : Int).toNat).length : Int)) = true := decide_eq_true c15; clear c15; have c16b0 := eq_true (of_decide_eq_true y4_ : 0 ≤ (ji13)); have c17b0 := eq_true (of_decide_eq_true y4_ : (ji13) ≤ ((l0.drop (t335 : Int).toNat).length : Int)); replace H := Option.bind_eq_some_iff.mp H; obtain ⟨⟨t340, t341, t342⟩, A180, H⟩ := H; replace H : (if t342 = 0 then (mr17_claims.j1 kj2 ((l0.drop (t335 : Int).toNat).drop ((ji13) : Int).toNat) t341 t340 (decide (t340 > 99)) (strOfNums ((l0.drop (t335 : Int).toNat).take ((ji13) : Int).toNat)) 0 0 0 0) else (mr17_claims.j1 kj2 ((l0.drop (t335 : Int).toNat).drop ((ji13) : Int).toNat) t341 t340 true (strOfNums ((l0.drop (t335 : Int).toNat).take ((ji13) : Int).toNat)) 0 0 0 0)) = some (r1, r2, r3, r4, r5, r6) := H; have A18 := Aside0.mk A180; clear A180; have HC19 := Aside0.mk H; clear H; obtain ⟨i020, hi020, _, hsz20, _⟩ := info_parts info5; obtain ⟨A20, hcut20, hA20, hC20⟩ := kL (P := Tryd.prog) (Value.int .u8) 0 45 5 .i64 Tryd.underlying45 hi020 hsz20 A0 c0 l0 t335 (of_decide_eq_true y4_) (of_decide_eq_true y4_) HC0.out; obtain ⟨L20_, hL20_⟩ : ∃ L_, L_ = l0.drop (t335 : Int).toNat := ⟨_, rfl⟩; rw [← hL20_] at hcut20 hA20 hC20; (try rw [← hL20_] at HR0); (try rw [← hL20_] at HC0); (try rw [← hL20_] at HB); (try rw [← hL20_] at A2); (try rw [← hL20_] at HC3); (try rw [← hL20_] at n0_); (try rw [← hL20_] at n1_); (try rw [← hL20_] at n2_); (try rw [← hL20_] at n3_); (try rw [← hL20_] at n4_); (try rw [← hL20_] at n5_); (try rw [← hL20_] at n6_); (try rw [← hL20_] at c6); (try rw [← hL20_] at c6b0); (try rw [← hL20_] at c6b1); (try rw [← hL20_] at c7); (try rw [← hL20_] at c11); (try rw [← hL20_] at c11b0); (try rw [← hL20_] at c11b1); (try rw [← hL20_] at c12); (try rw [← hL20_] at c12b0); (try rw [← hL20_] at c12b1); (try rw [← hL20_] at c14); (try rw [← hL20_] at c14b0); (try rw [← hL20_] at c14b1); (try rw [← hL20_] at c15); (try rw [← hL20_] at c15b0); (try rw [← hL20_] at c15b1); (try rw [← hL20_] at c16b0); (try rw [← hL20_] at c17b0); (try rw [← hL20_] at A18); (try rw [← hL20_] at HC19); clear hL20_; have HR337 := am_ (Kd.C_of_reads (h1 := fun _ => rfl) (hA20 _ (Kd.reads_of_C HR0.out))); have HC337 := Aside0.mk hC20; clear hA20 hC20 hi020 hsz20; obtain ⟨i021, hi021, _, hsz21, _⟩ := info_parts info5; have hle21_ : (ji13) ≤ (L20_.length : Int) := of_decide_eq_true y4_; obtain ⟨hcut21, hA21, hC21⟩ := print_take_of (P := Tryd.prog) (Value.int .u8) 0 45 5 .i64 Tryd.underlying45 hi021 hsz21 A20 (c0 - t335.toNat) L20_ (ji13) (of_decide_eq_true y4_) (of_decide_eq_true y4_) HC337.out; have HR338 := am_ (Kd.C_of_reads (h1 := fun _ => rfl) (hA21 _ (Kd.reads_of_C HR337.out))); have HC338 := Aside0.mk hC21; clear hA21 hC21 hi021 hsz21
        have hcv22 := Kd.C_string (P := Tryd.prog) (A := A20) (c := (c0 - t335.toNat)) Tryd.underlying45 Tryd.underlying5 Tryd.underlying9 (Kd.C_below HR338.out HB.out); have hcv22n := fun m_ : Nat => Kd.C_string (P := Tryd.prog) (A := A20) (c := (c0 - t335.toNat)) Tryd.underlying45 Tryd.underlying5 Tryd.underlying9 (Kd.C_drewN ((Kd.C_below HR338.out HB.out)) m_); (try simp only [List.length_drop, List.length_take] at hcv22n); (try rw [Nat.min_eq_left (by omega)] at hcv22n); have hcv22s := hcv22; (try simp only [List.length_drop, List.length_take] at hcv22s); (try rw [Nat.min_eq_left (by omega)] at hcv22s)
        have hnb23 := NB333_332.out; have hnc23 := NB332_333.out; obtain ⟨hcz24_0, hcz24_1, hcz24_2, hcz24_3, hcz24_4, hfz24_0, hfz24_1, hfz24_2, hfz24_3, hfz24_4⟩ := pd5_ BK333.out; obtain ⟨i025, hi025, _, hsz25, _⟩ := info_parts info5; obtain ⟨A25, hcut25, hA25, hC25⟩ := kL (P := Tryd.prog) (Value.int .u8) 0 45 5 .i64 Tryd.underlying45 hi025 hsz25 A20 (c0 - t335.toNat) L20_ (ji13) (of_decide_eq_true y4_) (of_decide_eq_true y4_) HC337.out; obtain ⟨L25_, hL25_⟩ : ∃ L_, L_ = L20_.drop ((ji13) : Int).toNat := ⟨_, rfl⟩; rw [← hL25_] at hcut25 hA25 hC25; (try rw [← hL25_] at HR0); (try rw [← hL25_] at HC0); (try rw [← hL25_] at HB); (try rw [← hL25_] at A2); (try rw [← hL25_] at HC3); (try rw [← hL25_] at n0_); (try rw [← hL25_] at n1_); (try rw [← hL25_] at n2_); (try rw [← hL25_] at n3_); (try rw [← hL25_] at n4_); (try rw [← hL25_] at n5_); (try rw [← hL25_] at n6_); (try rw [← hL25_] at c6); (try rw [← hL25_] at c6b0); (try rw [← hL25_] at c6b1); (try rw [← hL25_] at c7); (try rw [← hL25_] at c11); (try rw [← hL25_] at c11b0); (try rw [← hL25_] at c11b1); (try rw [← hL25_] at c12); (try rw [← hL25_] at c12b0); (try rw [← hL25_] at c12b1); (try rw [← hL25_] at c14); (try rw [← hL25_] at c14b0); (try rw [← hL25_] at c14b1); (try rw [← hL25_] at c15); (try rw [← hL25_] at c15b0); (try rw [← hL25_] at c15b1); (try rw [← hL25_] at c16b0); (try rw [← hL25_] at c17b0); (try rw [← hL25_] at A18); (try rw [← hL25_] at HC19); (try rw [← hL25_] at HR337); (try rw [← hL25_] at HC337); (try rw [← hL25_] at HR338); (try rw [← hL25_] at HC338); clear hL25_; have HR339 := am_ (Kd.C_of_reads (h1 := fun _ => rfl) (hA25 _ (Kd.reads_of_C HR337.out))); have HC339 := Aside0.mk hC25; clear hA25 hC25 hi025 hsz25
        go_upto_region 9 with (first | ((with_reducible refine kj (f := 62) rfl ?_); refine kw (some 44) rfl rfl Tryd.func62 (by kernel_rfl) rfl #[.slice A25 L25_.length ((c0 - t335.toNat) - (ji13).toNat)] rfl (by (try simp only [List.map_toArray, List.map_cons, List.map_nil]); first | done | (rw [show L25_.length = (L20_.length - (ji13).toNat) from List.length_drop] <;> rfl) | (simp only [hji13]; rfl) | rfl | (simp only [List.length_drop, List.length_take]; rfl)) ?_; (with_reducible refine (mr01_Uvarint.calls kj2 _ _ L25_ t340 t341 t342 _ ?side1 ?side2 A18.out).mono ?_); (case side1 => exact Kd.C_below HR339.out y8_); (case side2 => exact HC339.out); rintro e w' ⟨rfl, ⟨nd, rfl⟩⟩; refine ⟨_, rfl, ?_⟩))
        (try simp only [Act.put, List.setIfInBounds_toArray, List.set_cons_zero, List.set_cons_succ]); go_cut [53] (fun v53 wc => ∃ (kq : Nat) (x53_18 : Bool), v53 = .bool x53_18 ∧ Aside0 (mr17_claims.j1 kq L25_ t341 t340 x53_18 (strOfNums (L20_.take ((ji13) : Int).toNat)) 0 0 0 0 = some (r1, r2, r3, r4, r5, r6)) ∧ Aside0 (kq ≤ kj2) ∧ Aside0 (wc.heap[gb332]? = some (.cells #[.string (⟨#[]⟩ : ByteArray), .int .i64 0, .int .i64 0, .int .u8 0, .int .u64 0] 26 (0, 0))) ∧ Aside0 (wc.heap[gb333]? = some (.cells #[.string (strOfNums (L20_.take ((ji13) : Int).toNat)), .int .i64 0, .int .i64 0, .int .u8 0, .int .u64 0] 26 (0, 0))) ∧ Aside0 (Below w.heap.size w wc))
        case first =>
         have H := HC19.out; clear HC19
         by_cases c26 : t342 = 0
         ·rw [if_pos c26] at H; have c26b0 : (t342 == 0) = true := beq_iff_eq.mpr c26; have c26b1 : (t342 != 0) = false := bne_eq_false_iff_eq.mpr c26; clear c26; (first | rw [c26b0] | (simp only [kT, i32_w]; rw [c26b0]) | skip); have H' := Aside0.mk H; clear H
          go_wp2
          go_meet
          case rel => exact ⟨_, (decide (t340 > 99)), y3_, H', ⟨by have := HJ2.out; first | omega | exact Nat.le_refl _⟩, ⟨y75_⟩, ⟨y102_⟩, ⟨y8_⟩⟩
         ·rw [if_neg c26] at H; have c26b0 : (t342 == 0) = false := beq_eq_false_iff_ne.mpr c26; have c26b1 : (t342 != 0) = true := bne_iff_ne.mpr c26; (first | rw [c26b0] | (simp only [kT, i32_w]; rw [c26b0]) | skip); have H' := Aside0.mk H; clear H
          go_wp2
          go_meet
          case rel => exact ⟨_, (true), y3_, H', ⟨by have := HJ2.out; first | omega | exact Nat.le_refl _⟩, ⟨y75_⟩, ⟨y102_⟩, ⟨y8_⟩⟩
        case rest =>
         clear HC19
         try clear c1
         try clear c2
         try clear p2
         try clear hcv2
         try clear c3
         try clear c6
         try clear c6b0
         try clear c6b1
         try clear p6
         try clear c7
         try clear c8
         try clear c11
         try clear c11b0
         try clear c11b1
         try clear c12
         try clear c12b0
         try clear c12b1
         try clear c14
         try clear c14b0
         try clear c14b1
         try clear c15
         try clear c15b0
         try clear c15b1
         try clear c16
         try clear c16b0
         try clear c17
         try clear c17b0
         try clear hcv22
         try clear c23
         try clear c26
         try clear c26b0
         try clear c26b1
         try clear hcz10_0
         try clear hcz10_1
         try clear hcz10_2
         try clear hcz10_3
         try clear hcz10_4
         try clear hcz24_0
         try clear hcz24_1
         try clear hcz24_2
         try clear hcz24_3
         try clear hcz24_4
         try clear hcz9_0
         try clear hcz9_1
         try clear hcz9_2
         try clear hcz9_3
         try clear hcz9_4
         try clear hfz10_0
         try clear hfz10_1
         try clear hfz10_2
         try clear hfz10_3
         try clear hfz10_4
         try clear hfz24_0
         try clear hfz24_1
         try clear hfz24_2
         try clear hfz24_3
         try clear hfz24_4
         try clear hfz9_0
         try clear hfz9_1
         try clear hfz9_2
         try clear hfz9_3
         try clear hfz9_4
         try clear p2
         try clear p6
         obtain ⟨kq, x53_18, rfl, HA, HJ18, BK332, BK333, HB⟩ := hcut
         cases kq with
         | zero => exact absurd HA.out (by simp [mr17_claims.j1])
         | succ kj18 =>
          have H := HA.out; clear HA; simp only [mr17_claims.j1] at H
          by_cases c27 : x53_18 = true
          ·subst c27; rw [if_pos rfl] at H; simp only [Option.some.injEq, Prod.mk.injEq] at H; obtain ⟨rfl, rfl, rfl, rfl, rfl, rfl⟩ := H; have hnb28 := NB333_332.out; have hnc28 := NB332_333.out; obtain ⟨hcz29_0, hcz29_1, hcz29_2, hcz29_3, hcz29_4, hfz29_0, hfz29_1, hfz29_2, hfz29_3, hfz29_4⟩ := pd5_ BK333.out; obtain ⟨hcz30_0, hcz30_1, hcz30_2, hcz30_3, hcz30_4, hfz30_0, hfz30_1, hfz30_2, hfz30_3, hfz30_4⟩ := pd5_ BK332.out
           go_wp2
           refine bodyPost_ret (ku rfl _ _ gb332 26 #[.string (strOfNums (L20_.take ((ji13) : Int).toNat)), .int .i64 0, .int .i64 0, .int .u8 0, .int .u64 0] (0, 0) _ rfl (by (with_reducible repeat (first | refine kf ?_ _ | refine kg ?_ | refine kd ?_ _)); refine kp (cs := #[.string (strOfNums (L20_.take ((ji13) : Int).toNat)), .int .i64 0, .int .i64 0, .int .u8 0, .int .u64 0]) ?_ 4 _ rfl; (with_reducible repeat (first | refine kf ?_ _ | refine kg ?_ | refine kd ?_ _)); refine kp (cs := #[.string (strOfNums (L20_.take ((ji13) : Int).toNat)), .int .i64 0, .int .i64 0, .int .u8 0, .int .u64 0]) ?_ 3 _ rfl; (with_reducible repeat (first | refine kf ?_ _ | refine kg ?_ | refine kd ?_ _)); refine kp (cs := #[.string (strOfNums (L20_.take ((ji13) : Int).toNat)), .int .i64 0, .int .i64 0, .int .u8 0, .int .u64 0]) ?_ 2 _ rfl; (with_reducible repeat (first | refine kf ?_ _ | refine kg ?_ | refine kd ?_ _)); refine kp (cs := #[.string (strOfNums (L20_.take ((ji13) : Int).toNat)), .int .i64 0, .int .i64 0, .int .u8 0, .int .u64 0]) ?_ 1 _ rfl; (with_reducible repeat (first | refine kf ?_ _ | refine kg ?_ | refine kd ?_ _)); refine kp (cs := #[.string (⟨#[]⟩ : ByteArray), .int .i64 0, .int .i64 0, .int .u8 0, .int .u64 0]) ?_ 0 _ rfl; (with_reducible repeat (first | refine kf ?_ _ | refine kg ?_ | refine kd ?_ _)); exact BK332.out) Tryd.underlying26 rfl (by kernel_rfl)) rfl ?_
           exact ⟨y85_, y8_⟩
          ·replace c27 := Bool.eq_false_iff.mpr c27; subst c27; rw [if_neg (show ¬ (false = true) by decide)] at H
           by_cases c31 : 0 ≤ t341
           ·rw [if_pos c31] at H; have c31b0 := eq_true c31; have c31b1 : decide (0 ≤ t341) = true := decide_eq_true c31; clear c31
            by_cases c32 : t341 ≤ (L25_.length : Int)
            ·rw [if_pos c32] at H; have c32b0 := eq_true c32; have c32b1 : decide (t341 ≤ (L25_.length : Int)) = true := decide_eq_true c32; clear c32; replace H := Option.bind_eq_some_iff.mp H; obtain ⟨⟨t344, t345, t346⟩, A330, H⟩ := H; replace H : (if t346 = 0 then (mr17_claims.j2 kj18 (L25_.drop (t341 : Int).toNat) t345 t344 (((L25_.drop (t341 : Int).toNat).length : Int) == t345) (strOfNums (L20_.take ((ji13) : Int).toNat)) (wrap64 (t340)) 0 0 0) else (mr17_claims.j2 kj18 (L25_.drop (t341 : Int).toNat) t345 t344 true (strOfNums (L20_.take ((ji13) : Int).toNat)) (wrap64 (t340)) 0 0 0)) = some (r1, r2, r3, r4, r5, r6) := H; have A33 := Aside0.mk A330; clear A330; have HC34 := Aside0.mk H; clear H; have hnb35 := NB333_332.out; have hnc35 := NB332_333.out; obtain ⟨hcz36_0, hcz36_1, hcz36_2, hcz36_3, hcz36_4, hfz36_0, hfz36_1, hfz36_2, hfz36_3, hfz36_4⟩ := pd5_ BK333.out; obtain ⟨i037, hi037, _, hsz37, _⟩ := info_parts info5; obtain ⟨A37, hcut37, hA37, hC37⟩ := kL (P := Tryd.prog) (Value.int .u8) 0 45 5 .i64 Tryd.underlying45 hi037 hsz37 A25 ((c0 - t335.toNat) - (ji13).toNat) L25_ t341 (of_decide_eq_true y4_) (of_decide_eq_true y4_) HC339.out; obtain ⟨L37_, hL37_⟩ : ∃ L_, L_ = L25_.drop (t341 : Int).toNat := ⟨_, rfl⟩; rw [← hL37_] at hcut37 hA37 hC37; (try rw [← hL37_] at HR0); (try rw [← hL37_] at HC0); (try rw [← hL37_] at HB); (try rw [← hL37_] at A2); (try rw [← hL37_] at HC3); (try rw [← hL37_] at n0_); (try rw [← hL37_] at n1_); (try rw [← hL37_] at n2_); (try rw [← hL37_] at n3_); (try rw [← hL37_] at n4_); (try rw [← hL37_] at n5_); (try rw [← hL37_] at n6_); (try rw [← hL37_] at c6); (try rw [← hL37_] at c6b0); (try rw [← hL37_] at c6b1); (try rw [← hL37_] at c7); (try rw [← hL37_] at c11); (try rw [← hL37_] at c11b0); (try rw [← hL37_] at c11b1); (try rw [← hL37_] at c12); (try rw [← hL37_] at c12b0); (try rw [← hL37_] at c12b1); (try rw [← hL37_] at c14); (try rw [← hL37_] at c14b0); (try rw [← hL37_] at c14b1); (try rw [← hL37_] at c15); (try rw [← hL37_] at c15b0); (try rw [← hL37_] at c15b1); (try rw [← hL37_] at c16b0); (try rw [← hL37_] at c17b0); (try rw [← hL37_] at A18); (try rw [← hL37_] at HC19); (try rw [← hL37_] at HR337); (try rw [← hL37_] at HC337); (try rw [← hL37_] at HR338); (try rw [← hL37_] at HC338); (try rw [← hL37_] at HR339); (try rw [← hL37_] at HC339); (try rw [← hL37_] at c26); (try rw [← hL37_] at c26b0); (try rw [← hL37_] at c26b1); (try rw [← hL37_] at c27); (try rw [← hL37_] at c31); (try rw [← hL37_] at c31b0); (try rw [← hL37_] at c31b1); (try rw [← hL37_] at c32); (try rw [← hL37_] at c32b0); (try rw [← hL37_] at c32b1); (try rw [← hL37_] at A33); (try rw [← hL37_] at HC34); clear hL37_; have HR343 := am_ (Kd.C_of_reads (h1 := fun _ => rfl) (hA37 _ (Kd.reads_of_C HR339.out))); have HC343 := Aside0.mk hC37; clear hA37 hC37 hi037 hsz37
             go_upto_region 14 with (first | ((with_reducible refine kj (f := 63) rfl ?_); refine kw (some 63) rfl rfl Tryd.func63 (by kernel_rfl) rfl #[.slice A37 L37_.length (((c0 - t335.toNat) - (ji13).toNat) - t341.toNat)] rfl (by (try simp only [List.map_toArray, List.map_cons, List.map_nil]); first | done | (rw [show L37_.length = (L25_.length - t341.toNat) from List.length_drop] <;> rfl) | (simp only [hji13]; rfl) | rfl | (simp only [List.length_drop, List.length_take]; rfl)) ?_; (with_reducible refine (mr01_Varint.calls kj18 _ _ L37_ t344 t345 t346 _ ?side1 ?side2 A33.out).mono ?_); (case side1 => exact Kd.C_below HR343.out y8_); (case side2 => exact HC343.out); rintro e w' ⟨rfl, ⟨nd, rfl⟩⟩; refine ⟨_, rfl, ?_⟩))
             (try simp only [Act.put, List.setIfInBounds_toArray, List.set_cons_zero, List.set_cons_succ]); go_cut [74] (fun v74 wc => ∃ (kq : Nat) (x74_33 : Bool), v74 = .bool x74_33 ∧ Aside0 (mr17_claims.j2 kq L37_ t345 t344 x74_33 (strOfNums (L20_.take ((ji13) : Int).toNat)) (wrap64 (t340)) 0 0 0 = some (r1, r2, r3, r4, r5, r6)) ∧ Aside0 (kq ≤ kj18) ∧ Aside0 (wc.heap[gb332]? = some (.cells #[.string (⟨#[]⟩ : ByteArray), .int .i64 0, .int .i64 0, .int .u8 0, .int .u64 0] 26 (0, 0))) ∧ Aside0 (wc.heap[gb333]? = some (.cells #[.string (strOfNums (L20_.take ((ji13) : Int).toNat)), .int .i64 (wrap64 (t340)), .int .i64 0, .int .u8 0, .int .u64 0] 26 (0, 0))) ∧ Aside0 (Below w.heap.size w wc))
             case first =>
              have H := HC34.out; clear HC34
              by_cases c38 : t346 = 0
              ·rw [if_pos c38] at H; have c38b0 : (t346 == 0) = true := beq_iff_eq.mpr c38; have c38b1 : (t346 != 0) = false := bne_eq_false_iff_eq.mpr c38; clear c38; (first | rw [c38b0] | (simp only [kT, i32_w]; rw [c38b0]) | skip); have H' := Aside0.mk H; clear H
               go_wp2
               go_meet
               case rel => exact ⟨_, (((L37_.length : Int) == t345)), y92_, H', ⟨by have := HJ2.out; have := HJ18.out; first | omega | exact Nat.le_refl _⟩, ⟨y75_⟩, ⟨y97_⟩, ⟨y8_⟩⟩
              ·rw [if_neg c38] at H; have c38b0 : (t346 == 0) = false := beq_eq_false_iff_ne.mpr c38; have c38b1 : (t346 != 0) = true := bne_iff_ne.mpr c38; (first | rw [c38b0] | (simp only [kT, i32_w]; rw [c38b0]) | skip); have H' := Aside0.mk H; clear H
               go_wp2
               go_meet
               case rel => exact ⟨_, (true), y3_, H', ⟨by have := HJ2.out; have := HJ18.out; first | omega | exact Nat.le_refl _⟩, ⟨y75_⟩, ⟨y97_⟩, ⟨y8_⟩⟩
             case rest =>
              clear HC34
              try clear c1
              try clear c2
              try clear p2
              try clear hcv2
              try clear c3
              try clear c6
              try clear c6b0
              try clear c6b1
              try clear p6
              try clear c7
              try clear c8
              try clear c11
              try clear c11b0
              try clear c11b1
              try clear c12
              try clear c12b0
              try clear c12b1
              try clear c14
              try clear c14b0
              try clear c14b1
              try clear c15
              try clear c15b0
              try clear c15b1
              try clear c16
              try clear c16b0
              try clear c17
              try clear c17b0
              try clear hcv22
              try clear c23
              try clear c26
              try clear c26b0
              try clear c26b1
              try clear c27
              try clear c28
              try clear c31
              try clear c31b0
              try clear c31b1
              try clear c32
              try clear c32b0
              try clear c32b1
              try clear c35
              try clear c37
              try clear c38
              try clear c38b0
              try clear c38b1
              try clear hcz10_0
              try clear hcz10_1
              try clear hcz10_2
              try clear hcz10_3
              try clear hcz10_4
              try clear hcz24_0
              try clear hcz24_1
              try clear hcz24_2
              try clear hcz24_3
              try clear hcz24_4
              try clear hcz29_0
              try clear hcz29_1
              try clear hcz29_2
              try clear hcz29_3
              try clear hcz29_4
              try clear hcz30_0
              try clear hcz30_1
              try clear hcz30_2
              try clear hcz30_3
              try clear hcz30_4
              try clear hcz36_0
              try clear hcz36_1
              try clear hcz36_2
              try clear hcz36_3
              try clear hcz36_4
              try clear hcz9_0
              try clear hcz9_1
              try clear hcz9_2
              try clear hcz9_3
              try clear hcz9_4
              try clear hfz10_0
              try clear hfz10_1
              try clear hfz10_2
              try clear hfz10_3
              try clear hfz10_4
              try clear hfz24_0
              try clear hfz24_1
              try clear hfz24_2
              try clear hfz24_3
              try clear hfz24_4
              try clear hfz29_0
              try clear hfz29_1
              try clear hfz29_2
              try clear hfz29_3
              try clear hfz29_4
              try clear hfz30_0
              try clear hfz30_1
              try clear hfz30_2
              try clear hfz30_3
              try clear hfz30_4
              try clear hfz36_0
              try clear hfz36_1
              try clear hfz36_2
              try clear hfz36_3
              try clear hfz36_4
              try clear hfz9_0
              try clear hfz9_1
              try clear hfz9_2
              try clear hfz9_3
              try clear hfz9_4
              try clear p2
              try clear p6
              obtain ⟨kq, x74_33, rfl, HA, HJ33, BK332, BK333, HB⟩ := hcut
              cases kq with
              | zero => exact absurd HA.out (by simp [mr17_claims.j2])
              | succ kj33 =>
               have H := HA.out; clear HA; simp only [mr17_claims.j2] at H
               by_cases c39 : x74_33 = true
               ·subst c39; rw [if_pos rfl] at H; simp only [Option.some.injEq, Prod.mk.injEq] at H; obtain ⟨rfl, rfl, rfl, rfl, rfl, rfl⟩ := H; have hnb40 := NB333_332.out; have hnc40 := NB332_333.out; obtain ⟨hcz41_0, hcz41_1, hcz41_2, hcz41_3, hcz41_4, hfz41_0, hfz41_1, hfz41_2, hfz41_3, hfz41_4⟩ := pd5_ BK333.out; obtain ⟨hcz42_0, hcz42_1, hcz42_2, hcz42_3, hcz42_4, hfz42_0, hfz42_1, hfz42_2, hfz42_3, hfz42_4⟩ := pd5_ BK332.out
                go_wp2
                refine bodyPost_ret (ku rfl _ _ gb332 26 #[.string (strOfNums (L20_.take ((ji13) : Int).toNat)), .int .i64 (wrap64 (t340)), .int .i64 0, .int .u8 0, .int .u64 0] (0, 0) _ rfl (by (with_reducible repeat (first | refine kf ?_ _ | refine kg ?_ | refine kd ?_ _)); refine kp (cs := #[.string (strOfNums (L20_.take ((ji13) : Int).toNat)), .int .i64 (wrap64 (t340)), .int .i64 0, .int .u8 0, .int .u64 0]) ?_ 4 _ rfl; (with_reducible repeat (first | refine kf ?_ _ | refine kg ?_ | refine kd ?_ _)); refine kp (cs := #[.string (strOfNums (L20_.take ((ji13) : Int).toNat)), .int .i64 (wrap64 (t340)), .int .i64 0, .int .u8 0, .int .u64 0]) ?_ 3 _ rfl; (with_reducible repeat (first | refine kf ?_ _ | refine kg ?_ | refine kd ?_ _)); refine kp (cs := #[.string (strOfNums (L20_.take ((ji13) : Int).toNat)), .int .i64 (wrap64 (t340)), .int .i64 0, .int .u8 0, .int .u64 0]) ?_ 2 _ rfl; (with_reducible repeat (first | refine kf ?_ _ | refine kg ?_ | refine kd ?_ _)); refine kp (cs := #[.string (strOfNums (L20_.take ((ji13) : Int).toNat)), .int .i64 0, .int .i64 0, .int .u8 0, .int .u64 0]) ?_ 1 _ rfl; (with_reducible repeat (first | refine kf ?_ _ | refine kg ?_ | refine kd ?_ _)); refine kp (cs := #[.string (⟨#[]⟩ : ByteArray), .int .i64 0, .int .i64 0, .int .u8 0, .int .u64 0]) ?_ 0 _ rfl; (with_reducible repeat (first | refine kf ?_ _ | refine kg ?_ | refine kd ?_ _)); exact BK332.out) Tryd.underlying26 rfl (by kernel_rfl)) rfl ?_
                exact ⟨y85_, y8_⟩
               ·replace c39 := Bool.eq_false_iff.mpr c39; subst c39; rw [if_neg (show ¬ (false = true) by decide)] at H
                by_cases c43 : 0 ≤ t345
                ·rw [if_pos c43] at H; have c43b0 : decide (0 ≤ t345) = true := decide_eq_true c43; clear c43
                 by_cases c44 : t345 < (L37_.length : Int)
                 ·rw [if_pos c44] at H; have c44b0 : decide (t345 < (L37_.length : Int)) = true := decide_eq_true c44; clear c44; obtain ⟨ji45, hji45⟩ : ∃ j_ : Int, (wrap64 (t345 + 1)) = j_ := ⟨_, rfl⟩
                  replace H : (if 0 ≤ (ji45) then (if (ji45) ≤ (L37_.length : Int) then ((mr01_Uvarint.f kj33 (L37_.drop ((ji45) : Int).toNat)).bind fun bt349 => (if bt349.2.2 = 0 then (if bt349.2.1 = ((L37_.drop ((ji45) : Int).toNat).length : Int) then ((mr17_Check.f kj33 (strOfNums (L20_.take ((ji13) : Int).toNat)) (wrap64 (t340)) t344 (rd L37_ t345) bt349.1).bind fun t352 => (some ((strOfNums (L20_.take ((ji13) : Int).toNat)), (wrap64 (t340)), t344, rd L37_ t345, bt349.1, (t352 == 0)))) else (some ((strOfNums (L20_.take ((ji13) : Int).toNat)), (wrap64 (t340)), t344, rd L37_ t345, bt349.1, false))) else (some ((strOfNums (L20_.take ((ji13) : Int).toNat)), (wrap64 (t340)), t344, rd L37_ t345, bt349.1, false)))) else (none)) else (none)) = some (r1, r2, r3, r4, r5, r6) := by first | (rw [hji45] at H; exact H) | (simp only [hji45] at H ⊢; exact H)
                  have hji45w : (IntKind.i64.wrap (t345 + 1)) = ji45 := (kT _).trans hji45
                  by_cases c46 : 0 ≤ (ji45)
                  ·rw [if_pos c46] at H; have c46b0 := eq_true c46; have c46b1 : decide (0 ≤ (ji45)) = true := decide_eq_true c46; clear c46
                   by_cases c47 : (ji45) ≤ (L37_.length : Int)
                   ·rw [if_pos c47] at H; have c47b0 := eq_true c47; have c47b1 : decide ((ji45) ≤ (L37_.length : Int)) = true := decide_eq_true c47; clear c47; replace H := Option.bind_eq_some_iff.mp H; obtain ⟨⟨t349, t350, t351⟩, A480, H⟩ := H; replace H : (if t351 = 0 then (if t350 = ((L37_.drop ((ji45) : Int).toNat).length : Int) then ((mr17_Check.f kj33 (strOfNums (L20_.take ((ji13) : Int).toNat)) (wrap64 (t340)) t344 (rd L37_ t345) t349).bind fun t352 => (some ((strOfNums (L20_.take ((ji13) : Int).toNat)), (wrap64 (t340)), t344, rd L37_ t345, t349, (t352 == 0)))) else (some ((strOfNums (L20_.take ((ji13) : Int).toNat)), (wrap64 (t340)), t344, rd L37_ t345, t349, false))) else (some ((strOfNums (L20_.take ((ji13) : Int).toNat)), (wrap64 (t340)), t344, rd L37_ t345, t349, false))) = some (r1, r2, r3, r4, r5, r6) := H; have A48 := Aside0.mk A480; clear A480
                    by_cases c49 : t351 = 0
                    ·rw [if_pos c49] at H; have c49b0 : (t351 == 0) = true := beq_iff_eq.mpr c49; have c49b1 : (t351 != 0) = false := bne_eq_false_iff_eq.mpr c49; clear c49
                     by_cases c50 : t350 = ((L37_.drop ((ji45) : Int).toNat).length : Int)
                     ·rw [if_pos c50] at H; have c50b0 : (t350 == ((L37_.drop ((ji45) : Int).toNat).length : Int)) = true := beq_iff_eq.mpr c50; have c50b1 : (t350 != ((L37_.drop ((ji45) : Int).toNat).length : Int)) = false := bne_eq_false_iff_eq.mpr c50; clear c50; replace H := Option.bind_eq_some_iff.mp H; obtain ⟨t352, A510, H⟩ := H; have A51 := Aside0.mk A510; clear A510; simp only [Option.some.injEq, Prod.mk.injEq] at H; obtain ⟨rfl, rfl, rfl, rfl, rfl, rfl⟩ := H
                      try go_wp2
                      replace BK332 := am_ (kg BK332.out); replace BK333 := am_ (kg BK333.out); replace HB := am_ (kK HB.out); have p347 : 0 ≤ (t345 : Int) := of_decide_eq_true y4_; have q347 : t345 < (L37_.length : Int) := of_decide_eq_true y4_; obtain ⟨ad347, e347, hx347_0⟩ := Kd.at_int HR343.out t345 p347 q347; have hw347_0 := hx347_0
                      cases e347
                      replace hx347_0 := (HB.out.cell (World.block_lt_of_cell? w _ hx347_0)).trans hx347_0; replace p347 := eq_true p347; replace q347 := eq_true q347; refine start_ (n := 9) (S := fun w' => w'.cell? (ad347.add (t345).toNat) = some (.int .u8 (rd L37_ t345))) (ds := []) #[false, false, false, false, false, false, false, false, false] (by kernel_rfl) rfl rfl (((HB.out.cell (World.block_lt_of_cell? w _ hw347_0)).trans hw347_0)) (fun hHeld => ?_); refine with_tabW mr17_claims.tab16 mr17_claims.bits16 (fun HT_ HW_ => ?_); generalize wc.drew = w52 at BK332 BK333 HB hx347_0 hHeld ⊢; refine kz (i := 0) (N := some 76) (v := ?_) (a' := ?_) #[true, false, false, false, false, false, false, false, false] rfl rfl (kr HT_.out (by kernel_rfl)) (fun _ _ _ h => h) (Or.inl ⟨by rfl, ?_⟩) ?_ ?_
                      rotate_left; ·intro w'; go_simp; with_reducible rfl
                      rotate_left; ·exact u2_
                      refine kz (i := 1) (N := some 77) (v := ?_) (a' := ?_) #[true, true, false, false, false, false, false, false, false] rfl rfl (kr HT_.out (by kernel_rfl)) (fun _ _ _ h => h) (Or.inl ⟨by rfl, ?_⟩) ?_ ?_
                      rotate_left; ·intro w'; go_simp; with_reducible rfl
                      rotate_left; ·exact u2_
                      refine kz (i := 2) (N := some 78) (v := ?_) (a' := ?_) #[true, true, true, false, false, false, false, false, false] rfl rfl (kr HT_.out (by kernel_rfl)) (fun _ _ _ h => h) (Or.inl ⟨by rfl, ?_⟩) ?_ ?_
                      rotate_left; ·intro w'; go_simp; with_reducible rfl
                      rotate_left; ·exact u2_
                      refine kz (i := 3) (N := some 79) (v := ?_) (a' := ?_) #[true, true, true, true, false, false, false, false, false] rfl rfl (kr HT_.out (by kernel_rfl)) (fun _ _ _ h => h) (Or.inl ⟨by rfl, ?_⟩) ?_ ?_
                      rotate_left; ·intro w'; go_simp; with_reducible rfl
                      rotate_left; ·exact u2_
                      refine kz (i := 5) (N := some 81) (v := ?_) (a' := ?_) #[true, true, true, true, false, true, false, false, false] rfl rfl (kr HT_.out (by kernel_rfl)) (fun _ _ _ h => h) (Or.inl ⟨by rfl, ?_⟩) ?_ ?_
                      rotate_left; ·intro w'; go_simp; with_reducible rfl
                      rotate_left; ·exact u2_
                      refine take_ (i := 4) (N := some 80) (v := ?_) (a' := ?_) #[true, true, true, true, true, true, false, false, false] rfl rfl (take_ofW HT_.out HW_.out (by kernel_rfl)) (fun _ _ _ h => h) (Or.inl ⟨by rfl, ?_⟩) hHeld ?_ ?_
                      rotate_left
                      ·intro w' s0
                       go_simp
                       with_reducible rfl
                      rotate_left; ·exact u2_
                      refine one_ (i := 6) (N := none) #[true, true, true, true, true, true, true, false, false] rfl rfl (one_of HT_.out (by kernel_rfl)) (by decide) (fun K hK => ?_); have hs53 : w52.cell? ⟨gb333, 2, none⟩ = some (.int .i64 0) := (ka BK333.out 2).trans rfl; have hfs53 := kc BK333.out 2; have hns53_0 := NB332_333.out; have hms53_0 := NB333_332.out; refine skip_ (w1 := ?_) (by rfl) rfl ?_ ?_
                      rotate_left
                      ·go_simp
                       rfl
                      refine hK.out _ _ (((cell_far (p := ⟨gb333, _, none⟩) y15_ _).trans (hHeld))) (fun hHeld => ?_); clear hK K; refine kz (i := 7) (N := some 82) (v := ?_) (a' := ?_) #[true, true, true, true, true, true, true, true, false] rfl rfl (kr HT_.out (by kernel_rfl)) (fun _ _ _ h => h) (Or.inl ⟨by rfl, ?_⟩) ?_ ?_
                      rotate_left; ·intro w'; go_simp; with_reducible rfl
                      rotate_left; ·exact u2_
                      refine one_ (i := 8) (N := none) #[true, true, true, true, true, true, true, true, true] rfl rfl (one_of HT_.out (by kernel_rfl)) (by decide) (fun K hK => ?_); have hs54 : w52.cell? ⟨gb333, 3, none⟩ = some (.int .u8 0) := (ka BK333.out 3).trans rfl; have hfs54 := kc BK333.out 3; have hns54_0 := NB332_333.out; have hms54_0 := NB333_332.out; refine skip_ (w1 := ?_) (by rfl) rfl ?_ ?_
                      rotate_left
                      ·go_simp
                       rfl
                      refine hK.out _ _ (((cell_far (p := ⟨gb333, _, none⟩) y15_ _).trans (hHeld))) (fun hHeld => ?_); clear hK K; refine done_ (done_of HT_.out (by kernel_rfl)) ?_; obtain ⟨i055, hi055, _, hsz55, _⟩ := info_parts info5; obtain ⟨A55, hcut55, hA55, hC55⟩ := kL (P := Tryd.prog) (Value.int .u8) 0 45 5 .i64 Tryd.underlying45 hi055 hsz55 (some ad347) (((c0 - t335.toNat) - (ji13).toNat) - t341.toNat) L37_ (ji45) (of_decide_eq_true y4_) (of_decide_eq_true y4_) HC343.out; obtain ⟨L55_, hL55_⟩ : ∃ L_, L_ = L37_.drop ((ji45) : Int).toNat := ⟨_, rfl⟩; rw [← hL55_] at hcut55 hA55 hC55; (try rw [← hL55_] at HR0); (try rw [← hL55_] at HC0); (try rw [← hL55_] at HB); (try rw [← hL55_] at A2); (try rw [← hL55_] at HC3); (try rw [← hL55_] at n0_); (try rw [← hL55_] at n1_); (try rw [← hL55_] at n2_); (try rw [← hL55_] at n3_); (try rw [← hL55_] at n4_); (try rw [← hL55_] at n5_); (try rw [← hL55_] at n6_); (try rw [← hL55_] at c6); (try rw [← hL55_] at c6b0); (try rw [← hL55_] at c6b1); (try rw [← hL55_] at c7); (try rw [← hL55_] at c11); (try rw [← hL55_] at c11b0); (try rw [← hL55_] at c11b1); (try rw [← hL55_] at c12); (try rw [← hL55_] at c12b0); (try rw [← hL55_] at c12b1); (try rw [← hL55_] at c14); (try rw [← hL55_] at c14b0); (try rw [← hL55_] at c14b1); (try rw [← hL55_] at c15); (try rw [← hL55_] at c15b0); (try rw [← hL55_] at c15b1); (try rw [← hL55_] at c16b0); (try rw [← hL55_] at c17b0); (try rw [← hL55_] at A18); (try rw [← hL55_] at HC19); (try rw [← hL55_] at HR337); (try rw [← hL55_] at HC337); (try rw [← hL55_] at HR338); (try rw [← hL55_] at HC338); (try rw [← hL55_] at HR339); (try rw [← hL55_] at HC339); (try rw [← hL55_] at c26); (try rw [← hL55_] at c26b0); (try rw [← hL55_] at c26b1); (try rw [← hL55_] at c27); (try rw [← hL55_] at c31); (try rw [← hL55_] at c31b0); (try rw [← hL55_] at c31b1); (try rw [← hL55_] at c32); (try rw [← hL55_] at c32b0); (try rw [← hL55_] at c32b1); (try rw [← hL55_] at A33); (try rw [← hL55_] at HC34); (try rw [← hL55_] at HR343); (try rw [← hL55_] at HC343); (try rw [← hL55_] at c38); (try rw [← hL55_] at c38b0); (try rw [← hL55_] at c38b1); (try rw [← hL55_] at c39); (try rw [← hL55_] at c43); (try rw [← hL55_] at c43b0); (try rw [← hL55_] at c44); (try rw [← hL55_] at c44b0); (try rw [← hL55_] at c46); (try rw [← hL55_] at c46b0); (try rw [← hL55_] at c46b1); (try rw [← hL55_] at c47); (try rw [← hL55_] at c47b0); (try rw [← hL55_] at c47b1); (try rw [← hL55_] at A48); (try rw [← hL55_] at c49); (try rw [← hL55_] at c49b0); (try rw [← hL55_] at c49b1); (try rw [← hL55_] at c50); (try rw [← hL55_] at c50b0); (try rw [← hL55_] at c50b1); (try rw [← hL55_] at A51); clear hL55_; have HR348 := am_ (Kd.C_of_reads (h1 := fun _ => rfl) (hA55 _ (Kd.reads_of_C HR343.out))); have HC348 := Aside0.mk hC55; clear hA55 hC55 hi055 hsz55
                      try go_wp2_with (first | ((with_reducible refine kj (f := 62) rfl ?_); refine kw (some 89) rfl rfl Tryd.func62 (by kernel_rfl) rfl #[.slice A55 L55_.length ((((c0 - t335.toNat) - (ji13).toNat) - t341.toNat) - (ji45).toNat)] rfl (by (try simp only [List.map_toArray, List.map_cons, List.map_nil]); first | done | (rw [show L55_.length = (L37_.length - (ji45).toNat) from List.length_drop] <;> rfl) | (simp only [hji13, hji45]; rfl) | rfl | (simp only [List.length_drop, List.length_take]; rfl)) ?_; (with_reducible refine (mr01_Uvarint.calls kj33 _ _ L55_ t349 t350 t351 _ ?side1 ?side2 A48.out).mono ?_); (case side1 => exact Kd.C_below HR348.out y8_); (case side2 => exact HC348.out); rintro e w' ⟨rfl, ⟨nd, rfl⟩⟩; refine ⟨_, rfl, ?_⟩; have hnb56 := NB333_332.out; have hnc56 := NB332_333.out; obtain ⟨hcz57_0, hcz57_1, hcz57_2, hcz57_3, hcz57_4, hfz57_0, hfz57_1, hfz57_2, hfz57_3, hfz57_4⟩ := pd5_ BK333.out))
                      have n0_ : Aside0 (((((w52.setCell ⟨gb333, 2, none⟩ (.int .i64 t344)).setCell ⟨gb333, 3, none⟩ (.int .u8 (rd L37_ t345))).drewN nd).setCell ⟨gb333, 4, none⟩ (.int .u64 t349)).heap[gb332]? = some (.cells #[.string (⟨#[]⟩ : ByteArray), .int .i64 0, .int .i64 0, .int .u8 0, .int .u64 0] 26 (0, 0))) := ⟨y52_⟩; have n1_ : Aside0 (((((w52.setCell ⟨gb333, 2, none⟩ (.int .i64 t344)).setCell ⟨gb333, 3, none⟩ (.int .u8 (rd L37_ t345))).drewN nd).setCell ⟨gb333, 4, none⟩ (.int .u64 t349)).heap[gb333]? = some (.cells #[.string (strOfNums (L20_.take ((ji13) : Int).toNat)), .int .i64 (wrap64 (t340)), .int .i64 t344, .int .u8 (rd L37_ t345), .int .u64 t349] 26 (0, 0))) := ⟨y32_⟩; have n2_ : Aside0 (Below w.heap.size w ((((w52.setCell ⟨gb333, 2, none⟩ (.int .i64 t344)).setCell ⟨gb333, 3, none⟩ (.int .u8 (rd L37_ t345))).drewN nd).setCell ⟨gb333, 4, none⟩ (.int .u64 t349))) := ⟨y8_⟩; (try clear BK332); (try clear BK333); (try clear HB); generalize ((((w52.setCell ⟨gb333, 2, none⟩ (.int .i64 t344)).setCell ⟨gb333, 3, none⟩ (.int .u8 (rd L37_ t345))).drewN nd).setCell ⟨gb333, 4, none⟩ (.int .u64 t349)) = w58 at n0_ n1_ n2_ ⊢; have BK332 := n0_; have BK333 := n1_; have HB := n2_; clear n0_ n1_ n2_; (try (rw [drewN_self w58]; generalize hq_ : World.drewN w58 _ = w58; have n0_ : Aside0 (w58.heap[gb332]? = some (.cells #[.string (⟨#[]⟩ : ByteArray), .int .i64 0, .int .i64 0, .int .u8 0, .int .u64 0] 26 (0, 0))) := ⟨by rw [← hq_]; exact y61_⟩; have n1_ : Aside0 (w58.heap[gb333]? = some (.cells #[.string (strOfNums (L20_.take ((ji13) : Int).toNat)), .int .i64 (wrap64 (t340)), .int .i64 t344, .int .u8 (rd L37_ t345), .int .u64 t349] 26 (0, 0))) := ⟨by rw [← hq_]; exact y80_⟩; have n2_ : Aside0 (Below w.heap.size w w58) := ⟨by rw [← hq_]; exact y8_⟩; clear BK332 BK333 HB hq_; have BK332 := n0_; have BK333 := n1_; have HB := n2_; clear n0_ n1_ n2_)); replace BK332 := am_ (kg BK332.out); replace BK333 := am_ (kg BK333.out); replace HB := am_ (kK HB.out); refine start_ (n := 16) (S := fun w' => w'.cell? ⟨gb333, 0, none⟩ = some (.string (strOfNums (L20_.take ((ji13) : Int).toNat))) ∧ w'.cell? ⟨gb333, 1, none⟩ = some (.int .i64 (wrap64 (t340))) ∧ w'.cell? ⟨gb333, 2, none⟩ = some (.int .i64 t344) ∧ w'.cell? ⟨gb333, 3, none⟩ = some (.int .u8 (rd L37_ t345)) ∧ w'.cell? ⟨gb333, 4, none⟩ = some (.int .u64 t349)) (ds := []) #[false, false, false, false, false, false, false, false, false, false, false, false, false, false, false, false] (by kernel_rfl) rfl rfl ⟨(ka BK333.out 0).trans rfl, (ka BK333.out 1).trans rfl, (ka BK333.out 2).trans rfl, (ka BK333.out 3).trans rfl, (ka BK333.out 4).trans rfl⟩ (fun hHeld => ?_); refine with_tabW mr17_claims.tab20 mr17_claims.bits20 (fun HT_ HW_ => ?_); generalize w58.drew = w59 at BK332 BK333 HB hHeld ⊢; refine kz (i := 1) (N := some 96) (v := ?_) (a' := ?_) #[false, true, false, false, false, false, false, false, false, false, false, false, false, false, false, false] rfl rfl (kr HT_.out (by kernel_rfl)) (fun _ _ _ h => h) (Or.inl ⟨by rfl, ?_⟩) ?_ ?_
                      rotate_left; ·intro w'; go_simp; with_reducible rfl
                      rotate_left; ·exact u2_
                      refine kz (i := 2) (N := some 97) (v := ?_) (a' := ?_) #[false, true, true, false, false, false, false, false, false, false, false, false, false, false, false, false] rfl rfl (kr HT_.out (by kernel_rfl)) (fun _ _ _ h => h) (Or.inl ⟨by rfl, ?_⟩) ?_ ?_
                      rotate_left; ·intro w'; go_simp; with_reducible rfl
                      rotate_left; ·exact u2_
                      refine kz (i := 3) (N := some 98) (v := ?_) (a' := ?_) #[false, true, true, true, false, false, false, false, false, false, false, false, false, false, false, false] rfl rfl (kr HT_.out (by kernel_rfl)) (fun _ _ _ h => h) (Or.inl ⟨by rfl, ?_⟩) ?_ ?_
                      rotate_left; ·intro w'; go_simp; with_reducible rfl
                      rotate_left; ·exact u2_
                      refine kz (i := 4) (N := some 99) (v := ?_) (a' := ?_) #[false, true, true, true, true, false, false, false, false, false, false, false, false, false, false, false] rfl rfl (kr HT_.out (by kernel_rfl)) (fun _ _ _ h => h) (Or.inl ⟨by rfl, ?_⟩) ?_ ?_
                      rotate_left; ·intro w'; go_simp; with_reducible rfl
                      rotate_left; ·exact u2_
                      refine kz (i := 5) (N := some 100) (v := ?_) (a' := ?_) #[false, true, true, true, true, true, false, false, false, false, false, false, false, false, false, false] rfl rfl (kr HT_.out (by kernel_rfl)) (fun _ _ _ h => h) (Or.inl ⟨by rfl, ?_⟩) ?_ ?_
                      rotate_left; ·intro w'; go_simp; with_reducible rfl
                      rotate_left; ·exact u2_
                      refine kz (i := 6) (N := some 101) (v := ?_) (a' := ?_) #[false, true, true, true, true, true, true, false, false, false, false, false, false, false, false, false] rfl rfl (kr HT_.out (by kernel_rfl)) (fun _ _ _ h => h) (Or.inl ⟨by rfl, ?_⟩) ?_ ?_
                      rotate_left; ·intro w'; go_simp; with_reducible rfl
                      rotate_left; ·exact u2_
                      refine kz (i := 7) (N := some 102) (v := ?_) (a' := ?_) #[false, true, true, true, true, true, true, true, false, false, false, false, false, false, false, false] rfl rfl (kr HT_.out (by kernel_rfl)) (fun _ _ _ h => h) (Or.inl ⟨by rfl, ?_⟩) ?_ ?_
                      rotate_left; ·intro w'; go_simp; with_reducible rfl
                      rotate_left; ·exact u2_
                      refine kz (i := 8) (N := some 103) (v := ?_) (a' := ?_) #[false, true, true, true, true, true, true, true, true, false, false, false, false, false, false, false] rfl rfl (kr HT_.out (by kernel_rfl)) (fun _ _ _ h => h) (Or.inl ⟨by rfl, ?_⟩) ?_ ?_
                      rotate_left; ·intro w'; go_simp; with_reducible rfl
                      rotate_left; ·exact u2_
                      refine kz (i := 9) (N := some 104) (v := ?_) (a' := ?_) #[false, true, true, true, true, true, true, true, true, true, false, false, false, false, false, false] rfl rfl (kr HT_.out (by kernel_rfl)) (fun _ _ _ h => h) (Or.inl ⟨by rfl, ?_⟩) ?_ ?_
                      rotate_left; ·intro w'; go_simp; with_reducible rfl
                      rotate_left; ·exact u2_
                      refine take_ (i := 0) (N := some 95) (v := ?_) (a' := ?_) #[true, true, true, true, true, true, true, true, true, true, false, false, false, false, false, false] rfl rfl (take_ofW HT_.out HW_.out (by kernel_rfl)) (fun _ _ _ h => h) (Or.inl ⟨by rfl, ?_⟩) hHeld ?_ ?_
                      rotate_left
                      ·rintro w' ⟨s0, s1, s2, s3, s4⟩
                       go_simp
                       with_reducible rfl
                      rotate_left; ·exact u2_
                      refine take_ (i := 10) (N := some 105) (v := ?_) (a' := ?_) #[true, true, true, true, true, true, true, true, true, true, true, false, false, false, false, false] rfl rfl (take_ofW HT_.out HW_.out (by kernel_rfl)) (fun _ _ _ h => h) (Or.inl ⟨by rfl, ?_⟩) hHeld ?_ ?_
                      rotate_left
                      ·rintro w' ⟨s0, s1, s2, s3, s4⟩
                       go_simp
                       with_reducible rfl
                      rotate_left; ·exact u2_
                      refine one_ (i := 11) (N := some 106) #[true, true, true, true, true, true, true, true, true, true, true, true, false, false, false, false] rfl rfl (one_of HT_.out (by kernel_rfl)) (by decide) (fun K hK => ?_); refine goes_ Tryd.func13 (by kernel_rfl) rfl #[.agg #[.string (strOfNums (L20_.take ((ji13) : Int).toNat)), .int .i64 (wrap64 (t340)), .int .i64 t344, .int .u8 (rd L37_ t345), .int .u64 t349]] (by rfl) rfl rfl (by (try simp only [List.map_toArray, List.map_cons, List.map_nil]); first | done | (simp only [hji13]; rfl) | rfl | (simp only [List.length_drop, List.length_take]; rfl)) ?_; with_reducible refine (mr17_Check.calls kj33 (strOfNums (L20_.take ((ji13) : Int).toNat)) (wrap64 (t340)) t344 (rd L37_ t345) t349 t352 _ A51.out).mono ?_; rintro e w60 ⟨rfl, hb⟩; refine ⟨_, rfl, ?_⟩; replace BK332 := am_ (ki (g := gb332) (o := .cells #[.string (⟨#[]⟩ : ByteArray), .int .i64 0, .int .i64 0, .int .u8 0, .int .u64 0] 26 (0, 0)) y61_ hb); replace BK333 := am_ (ki (g := gb333) (o := .cells #[.string (strOfNums (L20_.take ((ji13) : Int).toNat)), .int .i64 (wrap64 (t340)), .int .i64 t344, .int .u8 (rd L37_ t345), .int .u64 t349] 26 (0, 0)) y80_ hb); replace HB := am_ (ke y8_ hb); (try clear hb); (try clear hb2); (try clear hk); (try clear hi); refine hK.out _ _ ⟨(ka BK333.out 0).trans rfl, (ka BK333.out 1).trans rfl, (ka BK333.out 2).trans rfl, (ka BK333.out 3).trans rfl, (ka BK333.out 4).trans rfl⟩ (fun hHeld => ?_); clear hK K; refine norm_ (a' := ?_) ?_ ?_
                      rotate_left
                      ·show Act.put _ (some 106) _ = _
                       simp only [Act.put, List.setIfInBounds_toArray, List.set_cons_zero, List.set_cons_succ, kT, i32_w]
                       rfl
                      refine kz (i := 12) (N := some 107) (v := ?_) (a' := ?_) #[true, true, true, true, true, true, true, true, true, true, true, true, true, false, false, false] rfl rfl (kr HT_.out (by kernel_rfl)) (fun _ _ _ h => h) (Or.inl ⟨by rfl, ?_⟩) ?_ ?_
                      rotate_left; ·intro w'; go_simp; with_reducible rfl
                      rotate_left; ·exact u2_
                      refine kz (i := 13) (N := some 108) (v := ?_) (a' := ?_) #[true, true, true, true, true, true, true, true, true, true, true, true, true, true, false, false] rfl rfl (kr HT_.out (by kernel_rfl)) (fun _ _ _ h => h) (Or.inl ⟨by rfl, ?_⟩) ?_ ?_
                      rotate_left; ·intro w'; go_simp; with_reducible rfl
                      rotate_left; ·exact u2_
                      refine one_ (i := 14) (N := none) #[true, true, true, true, true, true, true, true, true, true, true, true, true, true, true, false] rfl rfl (one_of HT_.out (by kernel_rfl)) (by decide) (fun K hK => ?_); have hs61 : w60.cell? ⟨gb332, 0, none⟩ = some (.string (⟨#[]⟩ : ByteArray)) := (ka BK332.out 0).trans rfl; have hfs61 := kc BK332.out 0; have hns61_1 := NB333_332.out; have hms61_1 := NB332_333.out; have hs62 : w60.cell? ⟨gb332, 1, none⟩ = some (.int .i64 0) := (ka BK332.out 1).trans rfl; have hfs62 := kc BK332.out 1; have hns62_1 := NB333_332.out; have hms62_1 := NB332_333.out; have hs63 : w60.cell? ⟨gb332, 2, none⟩ = some (.int .i64 0) := (ka BK332.out 2).trans rfl; have hfs63 := kc BK332.out 2; have hns63_1 := NB333_332.out; have hms63_1 := NB332_333.out; have hs64 : w60.cell? ⟨gb332, 3, none⟩ = some (.int .u8 0) := (ka BK332.out 3).trans rfl; have hfs64 := kc BK332.out 3; have hns64_1 := NB333_332.out; have hms64_1 := NB332_333.out; have hs65 : w60.cell? ⟨gb332, 4, none⟩ = some (.int .u64 0) := (ka BK332.out 4).trans rfl; have hfs65 := kc BK332.out 4; have hns65_1 := NB333_332.out; have hms65_1 := NB332_333.out; refine skip_ (w1 := ?_) (by rfl) rfl ?_ ?_
                      rotate_left
                      ·go_simp
                       rfl
                      refine hK.out _ _ ⟨((cell_far (p := ⟨gb332, _, none⟩) NB333_332.out _).trans (((cell_far (p := ⟨gb332, _, none⟩) NB333_332.out _).trans (((cell_far (p := ⟨gb332, _, none⟩) NB333_332.out _).trans (((cell_far (p := ⟨gb332, _, none⟩) NB333_332.out _).trans (((cell_far (p := ⟨gb332, _, none⟩) NB333_332.out _).trans (hHeld.1)))))))))), ((cell_far (p := ⟨gb332, _, none⟩) NB333_332.out _).trans (((cell_far (p := ⟨gb332, _, none⟩) NB333_332.out _).trans (((cell_far (p := ⟨gb332, _, none⟩) NB333_332.out _).trans (((cell_far (p := ⟨gb332, _, none⟩) NB333_332.out _).trans (((cell_far (p := ⟨gb332, _, none⟩) NB333_332.out _).trans (hHeld.2.1)))))))))), ((cell_far (p := ⟨gb332, _, none⟩) NB333_332.out _).trans (((cell_far (p := ⟨gb332, _, none⟩) NB333_332.out _).trans (((cell_far (p := ⟨gb332, _, none⟩) NB333_332.out _).trans (((cell_far (p := ⟨gb332, _, none⟩) NB333_332.out _).trans (((cell_far (p := ⟨gb332, _, none⟩) NB333_332.out _).trans (hHeld.2.2.1)))))))))), ((cell_far (p := ⟨gb332, _, none⟩) NB333_332.out _).trans (((cell_far (p := ⟨gb332, _, none⟩) NB333_332.out _).trans (((cell_far (p := ⟨gb332, _, none⟩) NB333_332.out _).trans (((cell_far (p := ⟨gb332, _, none⟩) NB333_332.out _).trans (((cell_far (p := ⟨gb332, _, none⟩) NB333_332.out _).trans (hHeld.2.2.2.1)))))))))), ((cell_far (p := ⟨gb332, _, none⟩) NB333_332.out _).trans (((cell_far (p := ⟨gb332, _, none⟩) NB333_332.out _).trans (((cell_far (p := ⟨gb332, _, none⟩) NB333_332.out _).trans (((cell_far (p := ⟨gb332, _, none⟩) NB333_332.out _).trans (((cell_far (p := ⟨gb332, _, none⟩) NB333_332.out _).trans (hHeld.2.2.2.2))))))))))⟩ (fun hHeld => ?_); clear hK K; refine kz (i := 15) (N := some 3) (v := ?_) (a' := ?_) #[true, true, true, true, true, true, true, true, true, true, true, true, true, true, true, true] rfl rfl (kr HT_.out (by kernel_rfl)) (fun _ _ _ h => h) (Or.inl ⟨by rfl, ?_⟩) ?_ ?_
                      rotate_left; ·intro w'; go_simp; with_reducible rfl
                      rotate_left; ·exact u2_
                      refine done_ (done_of HT_.out (by kernel_rfl)) ?_
                      try go_wp2
                      refine bodyPost_ret (ku rfl _ _ gb332 26 #[.string (strOfNums (L20_.take ((ji13) : Int).toNat)), .int .i64 (wrap64 (t340)), .int .i64 t344, .int .u8 (rd L37_ t345), .int .u64 t349] (0, 0) _ rfl y21_ Tryd.underlying26 rfl (by kernel_rfl)) rfl ?_
                      exact ⟨y96_, y8_⟩
                     ·rw [if_neg c50] at H; have c50b0 : (t350 == ((L37_.drop ((ji45) : Int).toNat).length : Int)) = false := beq_eq_false_iff_ne.mpr c50; have c50b1 : (t350 != ((L37_.drop ((ji45) : Int).toNat).length : Int)) = true := bne_iff_ne.mpr c50; simp only [Option.some.injEq, Prod.mk.injEq] at H; obtain ⟨rfl, rfl, rfl, rfl, rfl, rfl⟩ := H
                      try go_wp2
                      replace BK332 := am_ (kg BK332.out); replace BK333 := am_ (kg BK333.out); replace HB := am_ (kK HB.out); have p347 : 0 ≤ (t345 : Int) := of_decide_eq_true y4_; have q347 : t345 < (L37_.length : Int) := of_decide_eq_true y4_; obtain ⟨ad347, e347, hx347_0⟩ := Kd.at_int HR343.out t345 p347 q347; have hw347_0 := hx347_0
                      cases e347
                      replace hx347_0 := (HB.out.cell (World.block_lt_of_cell? w _ hx347_0)).trans hx347_0; replace p347 := eq_true p347; replace q347 := eq_true q347; refine start_ (n := 9) (S := fun w' => w'.cell? (ad347.add (t345).toNat) = some (.int .u8 (rd L37_ t345))) (ds := []) #[false, false, false, false, false, false, false, false, false] (by kernel_rfl) rfl rfl (((HB.out.cell (World.block_lt_of_cell? w _ hw347_0)).trans hw347_0)) (fun hHeld => ?_); refine with_tabW mr17_claims.tab16 mr17_claims.bits16 (fun HT_ HW_ => ?_); generalize wc.drew = w66 at BK332 BK333 HB hx347_0 hHeld ⊢; refine kz (i := 0) (N := some 76) (v := ?_) (a' := ?_) #[true, false, false, false, false, false, false, false, false] rfl rfl (kr HT_.out (by kernel_rfl)) (fun _ _ _ h => h) (Or.inl ⟨by rfl, ?_⟩) ?_ ?_
                      rotate_left; ·intro w'; go_simp; with_reducible rfl
                      rotate_left; ·exact u2_
                      refine kz (i := 1) (N := some 77) (v := ?_) (a' := ?_) #[true, true, false, false, false, false, false, false, false] rfl rfl (kr HT_.out (by kernel_rfl)) (fun _ _ _ h => h) (Or.inl ⟨by rfl, ?_⟩) ?_ ?_
                      rotate_left; ·intro w'; go_simp; with_reducible rfl
                      rotate_left; ·exact u2_
                      refine kz (i := 2) (N := some 78) (v := ?_) (a' := ?_) #[true, true, true, false, false, false, false, false, false] rfl rfl (kr HT_.out (by kernel_rfl)) (fun _ _ _ h => h) (Or.inl ⟨by rfl, ?_⟩) ?_ ?_
                      rotate_left; ·intro w'; go_simp; with_reducible rfl
                      rotate_left; ·exact u2_
                      refine kz (i := 3) (N := some 79) (v := ?_) (a' := ?_) #[true, true, true, true, false, false, false, false, false] rfl rfl (kr HT_.out (by kernel_rfl)) (fun _ _ _ h => h) (Or.inl ⟨by rfl, ?_⟩) ?_ ?_
                      rotate_left; ·intro w'; go_simp; with_reducible rfl
                      rotate_left; ·exact u2_
                      refine kz (i := 5) (N := some 81) (v := ?_) (a' := ?_) #[true, true, true, true, false, true, false, false, false] rfl rfl (kr HT_.out (by kernel_rfl)) (fun _ _ _ h => h) (Or.inl ⟨by rfl, ?_⟩) ?_ ?_
                      rotate_left; ·intro w'; go_simp; with_reducible rfl
                      rotate_left; ·exact u2_
                      refine take_ (i := 4) (N := some 80) (v := ?_) (a' := ?_) #[true, true, true, true, true, true, false, false, false] rfl rfl (take_ofW HT_.out HW_.out (by kernel_rfl)) (fun _ _ _ h => h) (Or.inl ⟨by rfl, ?_⟩) hHeld ?_ ?_
                      rotate_left
                      ·intro w' s0
                       go_simp
                       with_reducible rfl
                      rotate_left; ·exact u2_
                      refine one_ (i := 6) (N := none) #[true, true, true, true, true, true, true, false, false] rfl rfl (one_of HT_.out (by kernel_rfl)) (by decide) (fun K hK => ?_); have hs67 : w66.cell? ⟨gb333, 2, none⟩ = some (.int .i64 0) := (ka BK333.out 2).trans rfl; have hfs67 := kc BK333.out 2; have hns67_0 := NB332_333.out; have hms67_0 := NB333_332.out; refine skip_ (w1 := ?_) (by rfl) rfl ?_ ?_
                      rotate_left
                      ·go_simp
                       rfl
                      refine hK.out _ _ (((cell_far (p := ⟨gb333, _, none⟩) y15_ _).trans (hHeld))) (fun hHeld => ?_); clear hK K; refine kz (i := 7) (N := some 82) (v := ?_) (a' := ?_) #[true, true, true, true, true, true, true, true, false] rfl rfl (kr HT_.out (by kernel_rfl)) (fun _ _ _ h => h) (Or.inl ⟨by rfl, ?_⟩) ?_ ?_
                      rotate_left; ·intro w'; go_simp; with_reducible rfl
                      rotate_left; ·exact u2_
                      refine one_ (i := 8) (N := none) #[true, true, true, true, true, true, true, true, true] rfl rfl (one_of HT_.out (by kernel_rfl)) (by decide) (fun K hK => ?_); have hs68 : w66.cell? ⟨gb333, 3, none⟩ = some (.int .u8 0) := (ka BK333.out 3).trans rfl; have hfs68 := kc BK333.out 3; have hns68_0 := NB332_333.out; have hms68_0 := NB333_332.out; refine skip_ (w1 := ?_) (by rfl) rfl ?_ ?_
                      rotate_left
                      ·go_simp
                       rfl
                      refine hK.out _ _ (((cell_far (p := ⟨gb333, _, none⟩) y15_ _).trans (hHeld))) (fun hHeld => ?_); clear hK K; refine done_ (done_of HT_.out (by kernel_rfl)) ?_; obtain ⟨i069, hi069, _, hsz69, _⟩ := info_parts info5; obtain ⟨A69, hcut69, hA69, hC69⟩ := kL (P := Tryd.prog) (Value.int .u8) 0 45 5 .i64 Tryd.underlying45 hi069 hsz69 (some ad347) (((c0 - t335.toNat) - (ji13).toNat) - t341.toNat) L37_ (ji45) (of_decide_eq_true y4_) (of_decide_eq_true y4_) HC343.out; obtain ⟨L69_, hL69_⟩ : ∃ L_, L_ = L37_.drop ((ji45) : Int).toNat := ⟨_, rfl⟩; rw [← hL69_] at hcut69 hA69 hC69; (try rw [← hL69_] at c11); (try rw [← hL69_] at c11b0); (try rw [← hL69_] at c11b1); (try rw [← hL69_] at c12); (try rw [← hL69_] at c12b0); (try rw [← hL69_] at c12b1); (try rw [← hL69_] at c14); (try rw [← hL69_] at c14b0); (try rw [← hL69_] at c14b1); (try rw [← hL69_] at c15); (try rw [← hL69_] at c15b0); (try rw [← hL69_] at c15b1); (try rw [← hL69_] at c16b0); (try rw [← hL69_] at c17b0); (try rw [← hL69_] at A18); (try rw [← hL69_] at HC19); (try rw [← hL69_] at HR337); (try rw [← hL69_] at HC337); (try rw [← hL69_] at HR338); (try rw [← hL69_] at HC338); (try rw [← hL69_] at HR339); (try rw [← hL69_] at HC339); (try rw [← hL69_] at c26); (try rw [← hL69_] at c26b0); (try rw [← hL69_] at c26b1); (try rw [← hL69_] at c27); (try rw [← hL69_] at c31); (try rw [← hL69_] at c31b0); (try rw [← hL69_] at c31b1); (try rw [← hL69_] at c32); (try rw [← hL69_] at c32b0); (try rw [← hL69_] at c32b1); (try rw [← hL69_] at A33); (try rw [← hL69_] at HC34); (try rw [← hL69_] at HR343); (try rw [← hL69_] at HC343); (try rw [← hL69_] at c38); (try rw [← hL69_] at c38b0); (try rw [← hL69_] at c38b1); (try rw [← hL69_] at c39); (try rw [← hL69_] at c43); (try rw [← hL69_] at c43b0); (try rw [← hL69_] at c44); (try rw [← hL69_] at c44b0); (try rw [← hL69_] at c46); (try rw [← hL69_] at c46b0); (try rw [← hL69_] at c46b1); (try rw [← hL69_] at c47); (try rw [← hL69_] at c47b0); (try rw [← hL69_] at c47b1); (try rw [← hL69_] at A48); (try rw [← hL69_] at c49); (try rw [← hL69_] at c49b0); (try rw [← hL69_] at c49b1); (try rw [← hL69_] at c50); (try rw [← hL69_] at c50b0); (try rw [← hL69_] at c50b1); (try rw [← hL69_] at A51); (try rw [← hL69_] at n0_); (try rw [← hL69_] at n1_); (try rw [← hL69_] at n2_); (try rw [← hL69_] at HR348); (try rw [← hL69_] at HC348); clear hL69_; have HR348 := am_ (Kd.C_of_reads (h1 := fun _ => rfl) (hA69 _ (Kd.reads_of_C HR343.out))); have HC348 := Aside0.mk hC69; clear hA69 hC69 hi069 hsz69
                      try go_wp2_with (first | ((with_reducible refine kj (f := 62) rfl ?_); refine kw (some 89) rfl rfl Tryd.func62 (by kernel_rfl) rfl #[.slice A69 L69_.length ((((c0 - t335.toNat) - (ji13).toNat) - t341.toNat) - (ji45).toNat)] rfl (by (try simp only [List.map_toArray, List.map_cons, List.map_nil]); first | done | (rw [show L69_.length = (L37_.length - (ji45).toNat) from List.length_drop] <;> rfl) | (simp only [hji13, hji45]; rfl) | rfl | (simp only [List.length_drop, List.length_take]; rfl)) ?_; (with_reducible refine (mr01_Uvarint.calls kj33 _ _ L69_ t349 t350 t351 _ ?side1 ?side2 A48.out).mono ?_); (case side1 => exact Kd.C_below HR348.out y8_); (case side2 => exact HC348.out); rintro e w' ⟨rfl, ⟨nd, rfl⟩⟩; refine ⟨_, rfl, ?_⟩; have hnb70 := NB333_332.out; have hnc70 := NB332_333.out; obtain ⟨hcz71_0, hcz71_1, hcz71_2, hcz71_3, hcz71_4, hfz71_0, hfz71_1, hfz71_2, hfz71_3, hfz71_4⟩ := pd5_ BK333.out))
                      have n0_ : Aside0 (((((w66.setCell ⟨gb333, 2, none⟩ (.int .i64 t344)).setCell ⟨gb333, 3, none⟩ (.int .u8 (rd L37_ t345))).drewN nd).setCell ⟨gb333, 4, none⟩ (.int .u64 t349)).heap[gb332]? = some (.cells #[.string (⟨#[]⟩ : ByteArray), .int .i64 0, .int .i64 0, .int .u8 0, .int .u64 0] 26 (0, 0))) := ⟨y52_⟩; have n1_ : Aside0 (((((w66.setCell ⟨gb333, 2, none⟩ (.int .i64 t344)).setCell ⟨gb333, 3, none⟩ (.int .u8 (rd L37_ t345))).drewN nd).setCell ⟨gb333, 4, none⟩ (.int .u64 t349)).heap[gb333]? = some (.cells #[.string (strOfNums (L20_.take ((ji13) : Int).toNat)), .int .i64 (wrap64 (t340)), .int .i64 t344, .int .u8 (rd L37_ t345), .int .u64 t349] 26 (0, 0))) := ⟨y32_⟩; have n2_ : Aside0 (Below w.heap.size w ((((w66.setCell ⟨gb333, 2, none⟩ (.int .i64 t344)).setCell ⟨gb333, 3, none⟩ (.int .u8 (rd L37_ t345))).drewN nd).setCell ⟨gb333, 4, none⟩ (.int .u64 t349))) := ⟨y8_⟩; (try clear BK332); (try clear BK333); (try clear HB); generalize ((((w66.setCell ⟨gb333, 2, none⟩ (.int .i64 t344)).setCell ⟨gb333, 3, none⟩ (.int .u8 (rd L37_ t345))).drewN nd).setCell ⟨gb333, 4, none⟩ (.int .u64 t349)) = w72 at n0_ n1_ n2_ ⊢; have BK332 := n0_; have BK333 := n1_; have HB := n2_; clear n0_ n1_ n2_; (try (rw [drewN_self w72]; generalize hq_ : World.drewN w72 _ = w72; have n0_ : Aside0 (w72.heap[gb332]? = some (.cells #[.string (⟨#[]⟩ : ByteArray), .int .i64 0, .int .i64 0, .int .u8 0, .int .u64 0] 26 (0, 0))) := ⟨by rw [← hq_]; exact y61_⟩; have n1_ : Aside0 (w72.heap[gb333]? = some (.cells #[.string (strOfNums (L20_.take ((ji13) : Int).toNat)), .int .i64 (wrap64 (t340)), .int .i64 t344, .int .u8 (rd L37_ t345), .int .u64 t349] 26 (0, 0))) := ⟨by rw [← hq_]; exact y80_⟩; have n2_ : Aside0 (Below w.heap.size w w72) := ⟨by rw [← hq_]; exact y8_⟩; clear BK332 BK333 HB hq_; have BK332 := n0_; have BK333 := n1_; have HB := n2_; clear n0_ n1_ n2_)); replace BK332 := am_ (kg BK332.out); replace BK333 := am_ (kg BK333.out); replace HB := am_ (kK HB.out); refine start_ (n := 16) (S := fun w' => w'.cell? ⟨gb333, 0, none⟩ = some (.string (strOfNums (L20_.take ((ji13) : Int).toNat))) ∧ w'.cell? ⟨gb333, 1, none⟩ = some (.int .i64 (wrap64 (t340))) ∧ w'.cell? ⟨gb333, 2, none⟩ = some (.int .i64 t344) ∧ w'.cell? ⟨gb333, 3, none⟩ = some (.int .u8 (rd L37_ t345)) ∧ w'.cell? ⟨gb333, 4, none⟩ = some (.int .u64 t349)) (ds := []) #[false, false, false, false, false, false, false, false, false, false, false, false, false, false, false, false] (by kernel_rfl) rfl rfl ⟨(ka BK333.out 0).trans rfl, (ka BK333.out 1).trans rfl, (ka BK333.out 2).trans rfl, (ka BK333.out 3).trans rfl, (ka BK333.out 4).trans rfl⟩ (fun hHeld => ?_); refine with_tabW mr17_claims.tab20 mr17_claims.bits20 (fun HT_ HW_ => ?_); generalize w72.drew = w73 at BK332 BK333 HB hHeld ⊢; refine kz (i := 1) (N := some 96) (v := ?_) (a' := ?_) #[false, true, false, false, false, false, false, false, false, false, false, false, false, false, false, false] rfl rfl (kr HT_.out (by kernel_rfl)) (fun _ _ _ h => h) (Or.inl ⟨by rfl, ?_⟩) ?_ ?_
                      rotate_left; ·intro w'; go_simp; with_reducible rfl
                      rotate_left; ·exact u2_
                      refine kz (i := 2) (N := some 97) (v := ?_) (a' := ?_) #[false, true, true, false, false, false, false, false, false, false, false, false, false, false, false, false] rfl rfl (kr HT_.out (by kernel_rfl)) (fun _ _ _ h => h) (Or.inl ⟨by rfl, ?_⟩) ?_ ?_
                      rotate_left; ·intro w'; go_simp; with_reducible rfl
                      rotate_left; ·exact u2_
                      refine kz (i := 3) (N := some 98) (v := ?_) (a' := ?_) #[false, true, true, true, false, false, false, false, false, false, false, false, false, false, false, false] rfl rfl (kr HT_.out (by kernel_rfl)) (fun _ _ _ h => h) (Or.inl ⟨by rfl, ?_⟩) ?_ ?_
                      rotate_left; ·intro w'; go_simp; with_reducible rfl
                      rotate_left; ·exact u2_
                      refine kz (i := 4) (N := some 99) (v := ?_) (a' := ?_) #[false, true, true, true, true, false, false, false, false, false, false, false, false, false, false, false] rfl rfl (kr HT_.out (by kernel_rfl)) (fun _ _ _ h => h) (Or.inl ⟨by rfl, ?_⟩) ?_ ?_
                      rotate_left; ·intro w'; go_simp; with_reducible rfl
                      rotate_left; ·exact u2_
                      refine kz (i := 5) (N := some 100) (v := ?_) (a' := ?_) #[false, true, true, true, true, true, false, false, false, false, false, false, false, false, false, false] rfl rfl (kr HT_.out (by kernel_rfl)) (fun _ _ _ h => h) (Or.inl ⟨by rfl, ?_⟩) ?_ ?_
                      rotate_left; ·intro w'; go_simp; with_reducible rfl
                      rotate_left; ·exact u2_
                      refine kz (i := 6) (N := some 101) (v := ?_) (a' := ?_) #[false, true, true, true, true, true, true, false, false, false, false, false, false, false, false, false] rfl rfl (kr HT_.out (by kernel_rfl)) (fun _ _ _ h => h) (Or.inl ⟨by rfl, ?_⟩) ?_ ?_
                      rotate_left; ·intro w'; go_simp; with_reducible rfl
                      rotate_left; ·exact u2_
                      refine kz (i := 7) (N := some 102) (v := ?_) (a' := ?_) #[false, true, true, true, true, true, true, true, false, false, false, false, false, false, false, false] rfl rfl (kr HT_.out (by kernel_rfl)) (fun _ _ _ h => h) (Or.inl ⟨by rfl, ?_⟩) ?_ ?_
                      rotate_left; ·intro w'; go_simp; with_reducible rfl
                      rotate_left; ·exact u2_
                      refine kz (i := 8) (N := some 103) (v := ?_) (a' := ?_) #[false, true, true, true, true, true, true, true, true, false, false, false, false, false, false, false] rfl rfl (kr HT_.out (by kernel_rfl)) (fun _ _ _ h => h) (Or.inl ⟨by rfl, ?_⟩) ?_ ?_
                      rotate_left; ·intro w'; go_simp; with_reducible rfl
                      rotate_left; ·exact u2_
                      refine kz (i := 9) (N := some 104) (v := ?_) (a' := ?_) #[false, true, true, true, true, true, true, true, true, true, false, false, false, false, false, false] rfl rfl (kr HT_.out (by kernel_rfl)) (fun _ _ _ h => h) (Or.inl ⟨by rfl, ?_⟩) ?_ ?_
                      rotate_left; ·intro w'; go_simp; with_reducible rfl
                      rotate_left; ·exact u2_
                      refine kz (i := 10) (N := some 105) (v := undef) (a' := ?_) #[false, true, true, true, true, true, true, true, true, true, true, false, false, false, false, false] rfl rfl (kr HT_.out (by kernel_rfl)) (fun _ _ _ h => h) (Or.inr ⟨by rfl, rfl⟩) ?_ ?_
                      rotate_left; ·exact u2_
                      refine kz (i := 11) (N := some 106) (v := undef) (a' := ?_) #[false, true, true, true, true, true, true, true, true, true, true, true, false, false, false, false] rfl rfl (kr HT_.out (by kernel_rfl)) (fun _ _ _ h => h) (Or.inr ⟨by rfl, rfl⟩) ?_ ?_
                      rotate_left; ·exact u2_
                      refine kz (i := 12) (N := some 107) (v := undef) (a' := ?_) #[false, true, true, true, true, true, true, true, true, true, true, true, true, false, false, false] rfl rfl (kr HT_.out (by kernel_rfl)) (fun _ _ _ h => h) (Or.inr ⟨by rfl, rfl⟩) ?_ ?_
                      rotate_left; ·exact u2_
                      refine kz (i := 13) (N := some 108) (v := ?_) (a' := ?_) #[false, true, true, true, true, true, true, true, true, true, true, true, true, true, false, false] rfl rfl (kr HT_.out (by kernel_rfl)) (fun _ _ _ h => h) (Or.inl ⟨by rfl, ?_⟩) ?_ ?_
                      rotate_left; ·intro w'; go_simp; with_reducible rfl
                      rotate_left; ·exact u2_
                      refine take_ (i := 0) (N := some 95) (v := ?_) (a' := ?_) #[true, true, true, true, true, true, true, true, true, true, true, true, true, true, false, false] rfl rfl (take_ofW HT_.out HW_.out (by kernel_rfl)) (fun _ _ _ h => h) (Or.inl ⟨by rfl, ?_⟩) hHeld ?_ ?_
                      rotate_left
                      ·rintro w' ⟨s0, s1, s2, s3, s4⟩
                       go_simp
                       with_reducible rfl
                      rotate_left; ·exact u2_
                      refine one_ (i := 14) (N := none) #[true, true, true, true, true, true, true, true, true, true, true, true, true, true, true, false] rfl rfl (one_of HT_.out (by kernel_rfl)) (by decide) (fun K hK => ?_); have hs74 : w73.cell? ⟨gb332, 0, none⟩ = some (.string (⟨#[]⟩ : ByteArray)) := (ka BK332.out 0).trans rfl; have hfs74 := kc BK332.out 0; have hns74_1 := NB333_332.out; have hms74_1 := NB332_333.out; have hs75 : w73.cell? ⟨gb332, 1, none⟩ = some (.int .i64 0) := (ka BK332.out 1).trans rfl; have hfs75 := kc BK332.out 1; have hns75_1 := NB333_332.out; have hms75_1 := NB332_333.out; have hs76 : w73.cell? ⟨gb332, 2, none⟩ = some (.int .i64 0) := (ka BK332.out 2).trans rfl; have hfs76 := kc BK332.out 2; have hns76_1 := NB333_332.out; have hms76_1 := NB332_333.out; have hs77 : w73.cell? ⟨gb332, 3, none⟩ = some (.int .u8 0) := (ka BK332.out 3).trans rfl; have hfs77 := kc BK332.out 3; have hns77_1 := NB333_332.out; have hms77_1 := NB332_333.out; have hs78 : w73.cell? ⟨gb332, 4, none⟩ = some (.int .u64 0) := (ka BK332.out 4).trans rfl; have hfs78 := kc BK332.out 4; have hns78_1 := NB333_332.out; have hms78_1 := NB332_333.out; refine skip_ (w1 := ?_) (by rfl) rfl ?_ ?_
                      rotate_left
                      ·go_simp
                       rfl
                      refine hK.out _ _ ⟨((cell_far (p := ⟨gb332, _, none⟩) NB333_332.out _).trans (((cell_far (p := ⟨gb332, _, none⟩) NB333_332.out _).trans (((cell_far (p := ⟨gb332, _, none⟩) NB333_332.out _).trans (((cell_far (p := ⟨gb332, _, none⟩) NB333_332.out _).trans (((cell_far (p := ⟨gb332, _, none⟩) NB333_332.out _).trans (hHeld.1)))))))))), ((cell_far (p := ⟨gb332, _, none⟩) NB333_332.out _).trans (((cell_far (p := ⟨gb332, _, none⟩) NB333_332.out _).trans (((cell_far (p := ⟨gb332, _, none⟩) NB333_332.out _).trans (((cell_far (p := ⟨gb332, _, none⟩) NB333_332.out _).trans (((cell_far (p := ⟨gb332, _, none⟩) NB333_332.out _).trans (hHeld.2.1)))))))))), ((cell_far (p := ⟨gb332, _, none⟩) NB333_332.out _).trans (((cell_far (p := ⟨gb332, _, none⟩) NB333_332.out _).trans (((cell_far (p := ⟨gb332, _, none⟩) NB333_332.out _).trans (((cell_far (p := ⟨gb332, _, none⟩) NB333_332.out _).trans (((cell_far (p := ⟨gb332, _, none⟩) NB333_332.out _).trans (hHeld.2.2.1)))))))))), ((cell_far (p := ⟨gb332, _, none⟩) NB333_332.out _).trans (((cell_far (p := ⟨gb332, _, none⟩) NB333_332.out _).trans (((cell_far (p := ⟨gb332, _, none⟩) NB333_332.out _).trans (((cell_far (p := ⟨gb332, _, none⟩) NB333_332.out _).trans (((cell_far (p := ⟨gb332, _, none⟩) NB333_332.out _).trans (hHeld.2.2.2.1)))))))))), ((cell_far (p := ⟨gb332, _, none⟩) NB333_332.out _).trans (((cell_far (p := ⟨gb332, _, none⟩) NB333_332.out _).trans (((cell_far (p := ⟨gb332, _, none⟩) NB333_332.out _).trans (((cell_far (p := ⟨gb332, _, none⟩) NB333_332.out _).trans (((cell_far (p := ⟨gb332, _, none⟩) NB333_332.out _).trans (hHeld.2.2.2.2))))))))))⟩ (fun hHeld => ?_); clear hK K; refine kz (i := 15) (N := some 3) (v := ?_) (a' := ?_) #[true, true, true, true, true, true, true, true, true, true, true, true, true, true, true, true] rfl rfl (kr HT_.out (by kernel_rfl)) (fun _ _ _ h => h) (Or.inl ⟨by rfl, ?_⟩) ?_ ?_
                      rotate_left; ·intro w'; go_simp; with_reducible rfl
                      rotate_left; ·exact u2_
                      refine done_ (done_of HT_.out (by kernel_rfl)) ?_
                      try go_wp2
                      refine bodyPost_ret (ku rfl _ _ gb332 26 #[.string (strOfNums (L20_.take ((ji13) : Int).toNat)), .int .i64 (wrap64 (t340)), .int .i64 t344, .int .u8 (rd L37_ t345), .int .u64 t349] (0, 0) _ rfl y21_ Tryd.underlying26 rfl (by kernel_rfl)) rfl ?_
                      exact ⟨y96_, y8_⟩
                    ·rw [if_neg c49] at H; have c49b0 : (t351 == 0) = false := beq_eq_false_iff_ne.mpr c49; have c49b1 : (t351 != 0) = true := bne_iff_ne.mpr c49; simp only [Option.some.injEq, Prod.mk.injEq] at H; obtain ⟨rfl, rfl, rfl, rfl, rfl, rfl⟩ := H
                     try go_wp2
                     replace BK332 := am_ (kg BK332.out); replace BK333 := am_ (kg BK333.out); replace HB := am_ (kK HB.out); have p347 : 0 ≤ (t345 : Int) := of_decide_eq_true y4_; have q347 : t345 < (L37_.length : Int) := of_decide_eq_true y4_; obtain ⟨ad347, e347, hx347_0⟩ := Kd.at_int HR343.out t345 p347 q347; have hw347_0 := hx347_0
                     cases e347
                     replace hx347_0 := (HB.out.cell (World.block_lt_of_cell? w _ hx347_0)).trans hx347_0; replace p347 := eq_true p347; replace q347 := eq_true q347; refine start_ (n := 9) (S := fun w' => w'.cell? (ad347.add (t345).toNat) = some (.int .u8 (rd L37_ t345))) (ds := []) #[false, false, false, false, false, false, false, false, false] (by kernel_rfl) rfl rfl (((HB.out.cell (World.block_lt_of_cell? w _ hw347_0)).trans hw347_0)) (fun hHeld => ?_); refine with_tabW mr17_claims.tab16 mr17_claims.bits16 (fun HT_ HW_ => ?_); generalize wc.drew = w79 at BK332 BK333 HB hx347_0 hHeld ⊢; refine kz (i := 0) (N := some 76) (v := ?_) (a' := ?_) #[true, false, false, false, false, false, false, false, false] rfl rfl (kr HT_.out (by kernel_rfl)) (fun _ _ _ h => h) (Or.inl ⟨by rfl, ?_⟩) ?_ ?_
                     rotate_left; ·intro w'; go_simp; with_reducible rfl
                     rotate_left; ·exact u2_
                     refine kz (i := 1) (N := some 77) (v := ?_) (a' := ?_) #[true, true, false, false, false, false, false, false, false] rfl rfl (kr HT_.out (by kernel_rfl)) (fun _ _ _ h => h) (Or.inl ⟨by rfl, ?_⟩) ?_ ?_
                     rotate_left; ·intro w'; go_simp; with_reducible rfl
                     rotate_left; ·exact u2_
                     refine kz (i := 2) (N := some 78) (v := ?_) (a' := ?_) #[true, true, true, false, false, false, false, false, false] rfl rfl (kr HT_.out (by kernel_rfl)) (fun _ _ _ h => h) (Or.inl ⟨by rfl, ?_⟩) ?_ ?_
                     rotate_left; ·intro w'; go_simp; with_reducible rfl
                     rotate_left; ·exact u2_
                     refine kz (i := 3) (N := some 79) (v := ?_) (a' := ?_) #[true, true, true, true, false, false, false, false, false] rfl rfl (kr HT_.out (by kernel_rfl)) (fun _ _ _ h => h) (Or.inl ⟨by rfl, ?_⟩) ?_ ?_
                     rotate_left; ·intro w'; go_simp; with_reducible rfl
                     rotate_left; ·exact u2_
                     refine kz (i := 5) (N := some 81) (v := ?_) (a' := ?_) #[true, true, true, true, false, true, false, false, false] rfl rfl (kr HT_.out (by kernel_rfl)) (fun _ _ _ h => h) (Or.inl ⟨by rfl, ?_⟩) ?_ ?_
                     rotate_left; ·intro w'; go_simp; with_reducible rfl
                     rotate_left; ·exact u2_
                     refine take_ (i := 4) (N := some 80) (v := ?_) (a' := ?_) #[true, true, true, true, true, true, false, false, false] rfl rfl (take_ofW HT_.out HW_.out (by kernel_rfl)) (fun _ _ _ h => h) (Or.inl ⟨by rfl, ?_⟩) hHeld ?_ ?_
                     rotate_left
                     ·intro w' s0
                      go_simp
                      with_reducible rfl
                     rotate_left; ·exact u2_
                     refine one_ (i := 6) (N := none) #[true, true, true, true, true, true, true, false, false] rfl rfl (one_of HT_.out (by kernel_rfl)) (by decide) (fun K hK => ?_); have hs80 : w79.cell? ⟨gb333, 2, none⟩ = some (.int .i64 0) := (ka BK333.out 2).trans rfl; have hfs80 := kc BK333.out 2; have hns80_0 := NB332_333.out; have hms80_0 := NB333_332.out; refine skip_ (w1 := ?_) (by rfl) rfl ?_ ?_
                     rotate_left
                     ·go_simp
                      rfl
                     refine hK.out _ _ (((cell_far (p := ⟨gb333, _, none⟩) y15_ _).trans (hHeld))) (fun hHeld => ?_); clear hK K; refine kz (i := 7) (N := some 82) (v := ?_) (a' := ?_) #[true, true, true, true, true, true, true, true, false] rfl rfl (kr HT_.out (by kernel_rfl)) (fun _ _ _ h => h) (Or.inl ⟨by rfl, ?_⟩) ?_ ?_
                     rotate_left; ·intro w'; go_simp; with_reducible rfl
                     rotate_left; ·exact u2_
                     refine one_ (i := 8) (N := none) #[true, true, true, true, true, true, true, true, true] rfl rfl (one_of HT_.out (by kernel_rfl)) (by decide) (fun K hK => ?_); have hs81 : w79.cell? ⟨gb333, 3, none⟩ = some (.int .u8 0) := (ka BK333.out 3).trans rfl; have hfs81 := kc BK333.out 3; have hns81_0 := NB332_333.out; have hms81_0 := NB333_332.out; refine skip_ (w1 := ?_) (by rfl) rfl ?_ ?_
                     rotate_left
                     ·go_simp
                      rfl
                     refine hK.out _ _ (((cell_far (p := ⟨gb333, _, none⟩) y15_ _).trans (hHeld))) (fun hHeld => ?_); clear hK K; refine done_ (done_of HT_.out (by kernel_rfl)) ?_; obtain ⟨i082, hi082, _, hsz82, _⟩ := info_parts info5; obtain ⟨A82, hcut82, hA82, hC82⟩ := kL (P := Tryd.prog) (Value.int .u8) 0 45 5 .i64 Tryd.underlying45 hi082 hsz82 (some ad347) (((c0 - t335.toNat) - (ji13).toNat) - t341.toNat) L37_ (ji45) (of_decide_eq_true y4_) (of_decide_eq_true y4_) HC343.out; obtain ⟨L82_, hL82_⟩ : ∃ L_, L_ = L37_.drop ((ji45) : Int).toNat := ⟨_, rfl⟩; rw [← hL82_] at hcut82 hA82 hC82; (try rw [← hL82_] at c38b0); (try rw [← hL82_] at c38b1); (try rw [← hL82_] at c39); (try rw [← hL82_] at c43); (try rw [← hL82_] at c43b0); (try rw [← hL82_] at c44); (try rw [← hL82_] at c44b0); (try rw [← hL82_] at c46); (try rw [← hL82_] at c46b0); (try rw [← hL82_] at c46b1); (try rw [← hL82_] at c47); (try rw [← hL82_] at c47b0); (try rw [← hL82_] at c47b1); (try rw [← hL82_] at A48); (try rw [← hL82_] at c49); (try rw [← hL82_] at c49b0); (try rw [← hL82_] at c49b1); (try rw [← hL82_] at c50); (try rw [← hL82_] at c50b0); (try rw [← hL82_] at c50b1); (try rw [← hL82_] at A51); (try rw [← hL82_] at n0_); (try rw [← hL82_] at n1_); (try rw [← hL82_] at n2_); (try rw [← hL82_] at HR348); (try rw [← hL82_] at HC348); clear hL82_; have HR348 := am_ (Kd.C_of_reads (h1 := fun _ => rfl) (hA82 _ (Kd.reads_of_C HR343.out))); have HC348 := Aside0.mk hC82; clear hA82 hC82 hi082 hsz82
                     try go_wp2_with (first | ((with_reducible refine kj (f := 62) rfl ?_); refine kw (some 89) rfl rfl Tryd.func62 (by kernel_rfl) rfl #[.slice A82 L82_.length ((((c0 - t335.toNat) - (ji13).toNat) - t341.toNat) - (ji45).toNat)] rfl (by (try simp only [List.map_toArray, List.map_cons, List.map_nil]); first | done | (rw [show L82_.length = (L37_.length - (ji45).toNat) from List.length_drop] <;> rfl) | (simp only [hji13, hji45]; rfl) | rfl | (simp only [List.length_drop, List.length_take]; rfl)) ?_; (with_reducible refine (mr01_Uvarint.calls kj33 _ _ L82_ t349 t350 t351 _ ?side1 ?side2 A48.out).mono ?_); (case side1 => exact Kd.C_below HR348.out y8_); (case side2 => exact HC348.out); rintro e w' ⟨rfl, ⟨nd, rfl⟩⟩; refine ⟨_, rfl, ?_⟩; have hnb83 := NB333_332.out; have hnc83 := NB332_333.out; obtain ⟨hcz84_0, hcz84_1, hcz84_2, hcz84_3, hcz84_4, hfz84_0, hfz84_1, hfz84_2, hfz84_3, hfz84_4⟩ := pd5_ BK333.out))
                     have n0_ : Aside0 (((((w79.setCell ⟨gb333, 2, none⟩ (.int .i64 t344)).setCell ⟨gb333, 3, none⟩ (.int .u8 (rd L37_ t345))).drewN nd).setCell ⟨gb333, 4, none⟩ (.int .u64 t349)).heap[gb332]? = some (.cells #[.string (⟨#[]⟩ : ByteArray), .int .i64 0, .int .i64 0, .int .u8 0, .int .u64 0] 26 (0, 0))) := ⟨y52_⟩; have n1_ : Aside0 (((((w79.setCell ⟨gb333, 2, none⟩ (.int .i64 t344)).setCell ⟨gb333, 3, none⟩ (.int .u8 (rd L37_ t345))).drewN nd).setCell ⟨gb333, 4, none⟩ (.int .u64 t349)).heap[gb333]? = some (.cells #[.string (strOfNums (L20_.take ((ji13) : Int).toNat)), .int .i64 (wrap64 (t340)), .int .i64 t344, .int .u8 (rd L37_ t345), .int .u64 t349] 26 (0, 0))) := ⟨y32_⟩; have n2_ : Aside0 (Below w.heap.size w ((((w79.setCell ⟨gb333, 2, none⟩ (.int .i64 t344)).setCell ⟨gb333, 3, none⟩ (.int .u8 (rd L37_ t345))).drewN nd).setCell ⟨gb333, 4, none⟩ (.int .u64 t349))) := ⟨y8_⟩; (try clear BK332); (try clear BK333); (try clear HB); generalize ((((w79.setCell ⟨gb333, 2, none⟩ (.int .i64 t344)).setCell ⟨gb333, 3, none⟩ (.int .u8 (rd L37_ t345))).drewN nd).setCell ⟨gb333, 4, none⟩ (.int .u64 t349)) = w85 at n0_ n1_ n2_ ⊢; have BK332 := n0_; have BK333 := n1_; have HB := n2_; clear n0_ n1_ n2_; (try (rw [drewN_self w85]; generalize hq_ : World.drewN w85 _ = w85; have n0_ : Aside0 (w85.heap[gb332]? = some (.cells #[.string (⟨#[]⟩ : ByteArray), .int .i64 0, .int .i64 0, .int .u8 0, .int .u64 0] 26 (0, 0))) := ⟨by rw [← hq_]; exact y61_⟩; have n1_ : Aside0 (w85.heap[gb333]? = some (.cells #[.string (strOfNums (L20_.take ((ji13) : Int).toNat)), .int .i64 (wrap64 (t340)), .int .i64 t344, .int .u8 (rd L37_ t345), .int .u64 t349] 26 (0, 0))) := ⟨by rw [← hq_]; exact y80_⟩; have n2_ : Aside0 (Below w.heap.size w w85) := ⟨by rw [← hq_]; exact y8_⟩; clear BK332 BK333 HB hq_; have BK332 := n0_; have BK333 := n1_; have HB := n2_; clear n0_ n1_ n2_)); replace BK332 := am_ (kg BK332.out); replace BK333 := am_ (kg BK333.out); replace HB := am_ (kK HB.out); refine start_ (n := 16) (S := fun w' => w'.cell? ⟨gb333, 0, none⟩ = some (.string (strOfNums (L20_.take ((ji13) : Int).toNat))) ∧ w'.cell? ⟨gb333, 1, none⟩ = some (.int .i64 (wrap64 (t340))) ∧ w'.cell? ⟨gb333, 2, none⟩ = some (.int .i64 t344) ∧ w'.cell? ⟨gb333, 3, none⟩ = some (.int .u8 (rd L37_ t345)) ∧ w'.cell? ⟨gb333, 4, none⟩ = some (.int .u64 t349)) (ds := []) #[false, false, false, false, false, false, false, false, false, false, false, false, false, false, false, false] (by kernel_rfl) rfl rfl ⟨(ka BK333.out 0).trans rfl, (ka BK333.out 1).trans rfl, (ka BK333.out 2).trans rfl, (ka BK333.out 3).trans rfl, (ka BK333.out 4).trans rfl⟩ (fun hHeld => ?_); refine with_tabW mr17_claims.tab20 mr17_claims.bits20 (fun HT_ HW_ => ?_); generalize w85.drew = w86 at BK332 BK333 HB hHeld ⊢; refine kz (i := 1) (N := some 96) (v := ?_) (a' := ?_) #[false, true, false, false, false, false, false, false, false, false, false, false, false, false, false, false] rfl rfl (kr HT_.out (by kernel_rfl)) (fun _ _ _ h => h) (Or.inl ⟨by rfl, ?_⟩) ?_ ?_
                     rotate_left; ·intro w'; go_simp; with_reducible rfl
                     rotate_left; ·exact u2_
                     refine kz (i := 2) (N := some 97) (v := ?_) (a' := ?_) #[false, true, true, false, false, false, false, false, false, false, false, false, false, false, false, false] rfl rfl (kr HT_.out (by kernel_rfl)) (fun _ _ _ h => h) (Or.inl ⟨by rfl, ?_⟩) ?_ ?_
                     rotate_left; ·intro w'; go_simp; with_reducible rfl
                     rotate_left; ·exact u2_
                     refine kz (i := 3) (N := some 98) (v := ?_) (a' := ?_) #[false, true, true, true, false, false, false, false, false, false, false, false, false, false, false, false] rfl rfl (kr HT_.out (by kernel_rfl)) (fun _ _ _ h => h) (Or.inl ⟨by rfl, ?_⟩) ?_ ?_
                     rotate_left; ·intro w'; go_simp; with_reducible rfl
                     rotate_left; ·exact u2_
                     refine kz (i := 4) (N := some 99) (v := undef) (a' := ?_) #[false, true, true, true, true, false, false, false, false, false, false, false, false, false, false, false] rfl rfl (kr HT_.out (by kernel_rfl)) (fun _ _ _ h => h) (Or.inr ⟨by rfl, rfl⟩) ?_ ?_
                     rotate_left; ·exact u2_
                     refine kz (i := 5) (N := some 100) (v := undef) (a' := ?_) #[false, true, true, true, true, true, false, false, false, false, false, false, false, false, false, false] rfl rfl (kr HT_.out (by kernel_rfl)) (fun _ _ _ h => h) (Or.inr ⟨by rfl, rfl⟩) ?_ ?_
                     rotate_left; ·exact u2_
                     refine kz (i := 6) (N := some 101) (v := undef) (a' := ?_) #[false, true, true, true, true, true, true, false, false, false, false, false, false, false, false, false] rfl rfl (kr HT_.out (by kernel_rfl)) (fun _ _ _ h => h) (Or.inr ⟨by rfl, rfl⟩) ?_ ?_
                     rotate_left; ·exact u2_
                     refine kz (i := 7) (N := some 102) (v := undef) (a' := ?_) #[false, true, true, true, true, true, true, true, false, false, false, false, false, false, false, false] rfl rfl (kr HT_.out (by kernel_rfl)) (fun _ _ _ h => h) (Or.inr ⟨by rfl, rfl⟩) ?_ ?_
                     rotate_left; ·exact u2_
                     refine kz (i := 8) (N := some 103) (v := ?_) (a' := ?_) #[false, true, true, true, true, true, true, true, true, false, false, false, false, false, false, false] rfl rfl (kr HT_.out (by kernel_rfl)) (fun _ _ _ h => h) (Or.inl ⟨by rfl, ?_⟩) ?_ ?_
                     rotate_left; ·intro w'; go_simp; with_reducible rfl
                     rotate_left; ·exact u2_
                     refine kz (i := 9) (N := some 104) (v := ?_) (a' := ?_) #[false, true, true, true, true, true, true, true, true, true, false, false, false, false, false, false] rfl rfl (kr HT_.out (by kernel_rfl)) (fun _ _ _ h => h) (Or.inl ⟨by rfl, ?_⟩) ?_ ?_
                     rotate_left; ·intro w'; go_simp; with_reducible rfl
                     rotate_left; ·exact u2_
                     refine kz (i := 10) (N := some 105) (v := undef) (a' := ?_) #[false, true, true, true, true, true, true, true, true, true, true, false, false, false, false, false] rfl rfl (kr HT_.out (by kernel_rfl)) (fun _ _ _ h => h) (Or.inr ⟨by rfl, rfl⟩) ?_ ?_
                     rotate_left; ·exact u2_
                     refine kz (i := 11) (N := some 106) (v := undef) (a' := ?_) #[false, true, true, true, true, true, true, true, true, true, true, true, false, false, false, false] rfl rfl (kr HT_.out (by kernel_rfl)) (fun _ _ _ h => h) (Or.inr ⟨by rfl, rfl⟩) ?_ ?_
                     rotate_left; ·exact u2_
                     refine kz (i := 12) (N := some 107) (v := undef) (a' := ?_) #[false, true, true, true, true, true, true, true, true, true, true, true, true, false, false, false] rfl rfl (kr HT_.out (by kernel_rfl)) (fun _ _ _ h => h) (Or.inr ⟨by rfl, rfl⟩) ?_ ?_
                     rotate_left; ·exact u2_
                     refine kz (i := 13) (N := some 108) (v := ?_) (a' := ?_) #[false, true, true, true, true, true, true, true, true, true, true, true, true, true, false, false] rfl rfl (kr HT_.out (by kernel_rfl)) (fun _ _ _ h => h) (Or.inl ⟨by rfl, ?_⟩) ?_ ?_
                     rotate_left; ·intro w'; go_simp; with_reducible rfl
                     rotate_left; ·exact u2_
                     refine take_ (i := 0) (N := some 95) (v := ?_) (a' := ?_) #[true, true, true, true, true, true, true, true, true, true, true, true, true, true, false, false] rfl rfl (take_ofW HT_.out HW_.out (by kernel_rfl)) (fun _ _ _ h => h) (Or.inl ⟨by rfl, ?_⟩) hHeld ?_ ?_
                     rotate_left
                     ·rintro w' ⟨s0, s1, s2, s3, s4⟩
                      go_simp
                      with_reducible rfl
                     rotate_left; ·exact u2_
                     refine one_ (i := 14) (N := none) #[true, true, true, true, true, true, true, true, true, true, true, true, true, true, true, false] rfl rfl (one_of HT_.out (by kernel_rfl)) (by decide) (fun K hK => ?_); have hs87 : w86.cell? ⟨gb332, 0, none⟩ = some (.string (⟨#[]⟩ : ByteArray)) := (ka BK332.out 0).trans rfl; have hfs87 := kc BK332.out 0; have hns87_1 := NB333_332.out; have hms87_1 := NB332_333.out; have hs88 : w86.cell? ⟨gb332, 1, none⟩ = some (.int .i64 0) := (ka BK332.out 1).trans rfl; have hfs88 := kc BK332.out 1; have hns88_1 := NB333_332.out; have hms88_1 := NB332_333.out; have hs89 : w86.cell? ⟨gb332, 2, none⟩ = some (.int .i64 0) := (ka BK332.out 2).trans rfl; have hfs89 := kc BK332.out 2; have hns89_1 := NB333_332.out; have hms89_1 := NB332_333.out; have hs90 : w86.cell? ⟨gb332, 3, none⟩ = some (.int .u8 0) := (ka BK332.out 3).trans rfl; have hfs90 := kc BK332.out 3; have hns90_1 := NB333_332.out; have hms90_1 := NB332_333.out; have hs91 : w86.cell? ⟨gb332, 4, none⟩ = some (.int .u64 0) := (ka BK332.out 4).trans rfl; have hfs91 := kc BK332.out 4; have hns91_1 := NB333_332.out; have hms91_1 := NB332_333.out; refine skip_ (w1 := ?_) (by rfl) rfl ?_ ?_
                     rotate_left
                     ·go_simp
                      rfl
                     refine hK.out _ _ ⟨((cell_far (p := ⟨gb332, _, none⟩) NB333_332.out _).trans (((cell_far (p := ⟨gb332, _, none⟩) NB333_332.out _).trans (((cell_far (p := ⟨gb332, _, none⟩) NB333_332.out _).trans (((cell_far (p := ⟨gb332, _, none⟩) NB333_332.out _).trans (((cell_far (p := ⟨gb332, _, none⟩) NB333_332.out _).trans (hHeld.1)))))))))), ((cell_far (p := ⟨gb332, _, none⟩) NB333_332.out _).trans (((cell_far (p := ⟨gb332, _, none⟩) NB333_332.out _).trans (((cell_far (p := ⟨gb332, _, none⟩) NB333_332.out _).trans (((cell_far (p := ⟨gb332, _, none⟩) NB333_332.out _).trans (((cell_far (p := ⟨gb332, _, none⟩) NB333_332.out _).trans (hHeld.2.1)))))))))), ((cell_far (p := ⟨gb332, _, none⟩) NB333_332.out _).trans (((cell_far (p := ⟨gb332, _, none⟩) NB333_332.out _).trans (((cell_far (p := ⟨gb332, _, none⟩) NB333_332.out _).trans (((cell_far (p := ⟨gb332, _, none⟩) NB333_332.out _).trans (((cell_far (p := ⟨gb332, _, none⟩) NB333_332.out _).trans (hHeld.2.2.1)))))))))), ((cell_far (p := ⟨gb332, _, none⟩) NB333_332.out _).trans (((cell_far (p := ⟨gb332, _, none⟩) NB333_332.out _).trans (((cell_far (p := ⟨gb332, _, none⟩) NB333_332.out _).trans (((cell_far (p := ⟨gb332, _, none⟩) NB333_332.out _).trans (((cell_far (p := ⟨gb332, _, none⟩) NB333_332.out _).trans (hHeld.2.2.2.1)))))))))), ((cell_far (p := ⟨gb332, _, none⟩) NB333_332.out _).trans (((cell_far (p := ⟨gb332, _, none⟩) NB333_332.out _).trans (((cell_far (p := ⟨gb332, _, none⟩) NB333_332.out _).trans (((cell_far (p := ⟨gb332, _, none⟩) NB333_332.out _).trans (((cell_far (p := ⟨gb332, _, none⟩) NB333_332.out _).trans (hHeld.2.2.2.2))))))))))⟩ (fun hHeld => ?_); clear hK K; refine kz (i := 15) (N := some 3) (v := ?_) (a' := ?_) #[true, true, true, true, true, true, true, true, true, true, true, true, true, true, true, true] rfl rfl (kr HT_.out (by kernel_rfl)) (fun _ _ _ h => h) (Or.inl ⟨by rfl, ?_⟩) ?_ ?_
                     rotate_left; ·intro w'; go_simp; with_reducible rfl
                     rotate_left; ·exact u2_
                     refine done_ (done_of HT_.out (by kernel_rfl)) ?_
                     try go_wp2
                     refine bodyPost_ret (ku rfl _ _ gb332 26 #[.string (strOfNums (L20_.take ((ji13) : Int).toNat)), .int .i64 (wrap64 (t340)), .int .i64 t344, .int .u8 (rd L37_ t345), .int .u64 t349] (0, 0) _ rfl y21_ Tryd.underlying26 rfl (by kernel_rfl)) rfl ?_
                     exact ⟨y96_, y8_⟩
                   ·rw [if_neg c47] at H
                    exact absurd H (by simp)
                  ·rw [if_neg c46] at H
                   exact absurd H (by simp)
                 ·rw [if_neg c44] at H
                  exact absurd H (by simp)
                ·rw [if_neg c43] at H
                 exact absurd H (by simp)
            ·rw [if_neg c32] at H
             exact absurd H (by simp)
           ·rw [if_neg c31] at H
            exact absurd H (by simp)
       ·rw [if_neg c15] at H
        exact absurd H (by simp)
      ·rw [if_neg c14] at H
       exact absurd H (by simp)
     ·rw [if_neg c12] at H
      exact absurd H (by simp)
    ·rw [if_neg c11] at H
     exact absurd H (by simp)
end Go.Proofs.YtkkomfomjpcbfaaDoor.PTS
