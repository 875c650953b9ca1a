import Derived.Test.YtkkomfomjpcbfaaDoorSTokenVerifiesH14
import Derived.Test.YtkkomfomjpcbfaaDoorSTokenVerifiesPTSx12
import Derived.Laws.RangeAny
import Derived.Lib.OthersKept
import Derived.Test.YtkkomfomjpcbfaaDoorSTokenVerifiesE1
import Derived.Test.YtkkomfomjpcbfaaDoorSTokenVerifiesWGuard
import Derived.Test.YtkkomfomjpcbfaaDoorSTokenVerifiesTM
import Derived.Test.YtkkomfomjpcbfaaDoorSTokenVerifiesTT
import Derived.Test.YtkkomfomjpcbfaaDoorSTokenVerifiesY
set_option linter.unusedVariables false
set_option linter.unusedSimpArgs false
namespace Go.Proofs.YtkkomfomjpcbfaaDoor.PTS
open Go.RowKit Go.Proofs.YtkkomfomjpcbfaaDoorW.PrintWords Go.Proofs.YtkkomfomjpcbfaaDoorW.PrintLast Go.Proofs.YtkkomfomjpcbfaaDoorW.PrintMore
attribute [local go_sem] kQ kO kW kV kG kF kP kN
def mr01_Zag.f (a0 : Int) : Option (Int) := if (Int.tmod a0 2) = 1 then (some (wrap64 ((wrap64 (-(wrap64 (IntKind.u64.wrap (Int.tdiv a0 2))))) - 1))) else (some (wrap64 (IntKind.u64.wrap (Int.tdiv a0 2))))
set_option maxHeartbeats 8000000 in
set_option maxRecDepth 100000 in
theorem mr01_Zag.calls (a0 : Int) (r : Int) (w : World) (h : mr01_Zag.f a0 = some r) :
  Calls Tryd.prog 72 #[.int .u64 a0] w fun e w' => e = .returned (.int .i64 r) ∧ Drawn0 w w' := by
 have H : (if (Int.tmod a0 2) = 1 then (some (wrap64 ((wrap64 (-(wrap64 (IntKind.u64.wrap (Int.tdiv a0 2))))) - 1))) else (some (wrap64 (IntKind.u64.wrap (Int.tdiv a0 2))))) = some r := h; clear h
 by_cases c2 : (Int.tmod a0 2) = 1
 ·rw [if_pos c2] at H; have c2b0 : ((Int.tmod a0 2) == 1) = true := beq_iff_eq.mpr c2; have c2b1 : ((Int.tmod a0 2) != 1) = false := bne_eq_false_iff_eq.mpr c2; clear c2; obtain rfl := Option.some.inj H; go_enter Tryd.func72, Tryd.ntmps72
  go_wp2
  go_ret
  exact ⟨y24_, y6_⟩
 ·rw [if_neg c2] at H; have c2b0 : ((Int.tmod a0 2) == 1) = false := beq_eq_false_iff_ne.mpr c2; have c2b1 : ((Int.tmod a0 2) != 1) = true := bne_iff_ne.mpr c2; obtain rfl := Option.some.inj H; go_enter Tryd.func72, Tryd.ntmps72
  go_wp2
  go_ret
  exact ⟨y24_, y6_⟩
def mr01_Varint.f (k : Nat) (l0 : List Int) : Option (Int × Int × Int) := (mr01_Uvarint.f k l0).bind fun bt328 => (if bt328.2.2 = 0 then ((mr01_Zag.f bt328.1).bind fun t331 => (some (t331, bt328.2.1, 0))) else (some (0, 0, bt328.2.2)))
set_option maxHeartbeats 8000000 in
set_option maxRecDepth 100000 in
theorem mr01_Varint.calls (k : Nat) (A0 : Option Addr) (c0 : Nat) (l0 : List Int) (r1 : Int) (r2 : Int) (r3 : Int) (w : World) (hr0 : Kd.C (Kd.int .u8) w A0 l0.length l0) (hc0 : l0.length ≤ c0) (h : mr01_Varint.f k l0 = some (r1, r2, r3)) :
  Calls Tryd.prog 63 #[.slice A0 l0.length c0] w fun e w' => e = .returned (.tuple #[.int .i64 r1, .int .i64 r2, .int .i64 r3]) ∧ Drawn0 w w' := by
 have HR0 := Aside0.mk hr0; have HC0 := Aside0.mk hc0; clear hr0 hc0; have H : ((mr01_Uvarint.f k l0).bind fun bt328 => (if bt328.2.2 = 0 then ((mr01_Zag.f bt328.1).bind fun t331 => (some (t331, bt328.2.1, 0))) else (some (0, 0, bt328.2.2)))) = some (r1, r2, r3) := h; clear h; replace H := Option.bind_eq_some_iff.mp H; obtain ⟨⟨t328, t329, t330⟩, A20, H⟩ := H; replace H : (if t330 = 0 then ((mr01_Zag.f t328).bind fun t331 => (some (t331, t329, 0))) else (some (0, 0, t330))) = some (r1, r2, r3) := H; have A2 := Aside0.mk A20; clear A20
 by_cases c3 : t330 = 0
 ·rw [if_pos c3] at H; have c3b0 : (t330 == 0) = true := beq_iff_eq.mpr c3; have c3b1 : (t330 != 0) = false := bne_eq_false_iff_eq.mpr c3; clear c3; replace H := Option.bind_eq_some_iff.mp H; obtain ⟨t331, A40, H⟩ := H; have A4 := Aside0.mk A40; clear A40; simp only [Option.some.injEq, Prod.mk.injEq] at H; obtain ⟨rfl, rfl, rfl⟩ := H; go_enter Tryd.func63, Tryd.ntmps63
  go_wp2_with (first | ((with_reducible refine kj (f := 62) rfl ?_); refine kw (some 10) rfl rfl Tryd.func62 (by kernel_rfl) rfl #[.slice A0 l0.length c0] rfl y2_ ?_; (with_reducible refine (mr01_Uvarint.calls k _ _ l0 t328 t329 t330 _ ?side1 ?side2 A2.out).mono ?_); (case side1 => repeat (first | exact HR0.out | (with_reducible refine Kd.C_alloc ?_ _) | (with_reducible refine Kd.C_drewN ?_ _) | (with_reducible refine Kd.C_drew ?_))); (case side2 => exact HC0.out); rintro e w' ⟨rfl, ⟨nd, rfl⟩⟩; refine ⟨_, rfl, ?_⟩) | ((with_reducible refine kj (f := 72) rfl ?_); refine kw (some 18) rfl rfl Tryd.func72 (by kernel_rfl) rfl #[.int .u64 t328] rfl y2_ ?_; (with_reducible refine (mr01_Zag.calls t328 t331 _ A4.out).mono ?_); rintro e w' ⟨rfl, ⟨nd, rfl⟩⟩; refine ⟨_, rfl, ?_⟩))
  go_ret3
  exact ⟨y24_, y6_⟩
 ·rw [if_neg c3] at H; have c3b0 : (t330 == 0) = false := beq_eq_false_iff_ne.mpr c3; have c3b1 : (t330 != 0) = true := bne_iff_ne.mpr c3; simp only [Option.some.injEq, Prod.mk.injEq] at H; obtain ⟨rfl, rfl, rfl⟩ := H; go_enter Tryd.func63, Tryd.ntmps63
  go_wp2_with (first | ((with_reducible refine kj (f := 62) rfl ?_); refine kw (some 10) rfl rfl Tryd.func62 (by kernel_rfl) rfl #[.slice A0 l0.length c0] rfl y2_ ?_; (with_reducible refine (mr01_Uvarint.calls k _ _ l0 t328 t329 t330 _ ?side1 ?side2 A2.out).mono ?_); (case side1 => repeat (first | exact HR0.out | (with_reducible refine Kd.C_alloc ?_ _) | (with_reducible refine Kd.C_drewN ?_ _) | (with_reducible refine Kd.C_drew ?_))); (case side2 => exact HC0.out); rintro e w' ⟨rfl, ⟨nd, rfl⟩⟩; refine ⟨_, rfl, ?_⟩))
  go_ret3
  exact ⟨y24_, y6_⟩
end Go.Proofs.YtkkomfomjpcbfaaDoor.PTS
