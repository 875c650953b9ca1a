import Derived.Test.YtkkomfomjpcbfaaDoorProg
import Derived.Below
import Derived.Deep.Draws
import Derived.Deep.AppendLies
import Derived.Maps.AppendAt
import Derived.OwnWalk
import Derived.Laws.BytesArg
import Derived.Laws.MakeOwn
import Derived.Laws.OwnMore
import Derived.Deep.OwnRows
import Derived.Tactics
import Derived.Lib.ConvBytes
import Derived.Laws.Slices
import Derived.WalkKit
import Derived.KernelRfl
import Derived.RowKit3
import Derived.Deep.LoopGhost
import Derived.Deep.QuietTactic
import Derived.BigQuiet
import Derived.WideLaws
import Derived.Deep.DeepCutAuto
import Derived.Deep.CutBlock
import Derived.Deep.RegionHeld3
import Derived.Laws.Rows
import Derived.Lib.AppendStr
import Derived.ArgAppend
import Derived.Laws.IdiomCopy
import Derived.OrdersHeld
import Derived.Laws.BitsLemmas
import Derived.RowKit
import Derived.Test.YtkkomfomjpcbfaaDoorSTokenVerifiesG0
import Derived.Test.YtkkomfomjpcbfaaDoorSTokenVerifiesWGuard
import Derived.Test.YtkkomfomjpcbfaaDoorSTokenVerifiesWWords
import Derived.Test.YtkkomfomjpcbfaaDoorSTokenVerifiesY
import Derived.Lib.OthersKept
import Derived.Laws.RangeAny
import Derived.Test.YtkkomfomjpcbfaaDoorSTokenVerifiesH2r
import Derived.Test.YtkkomfomjpcbfaaDoorSTokenVerifiesH11
import Derived.Test.YtkkomfomjpcbfaaDoorSTokenVerifiesE1
import Derived.Test.YtkkomfomjpcbfaaDoorSTokenVerifiesHA
namespace Go.Proofs.YtkkomfomjpcbfaaDoor.Bq
end Go.Proofs.YtkkomfomjpcbfaaDoor.Bq
set_option linter.unusedVariables false
set_option linter.unusedSimpArgs false
section
namespace Go.Proofs.YtkkomfomjpcbfaaDoor.PHL
open Go.RowKit Go.Proofs.YtkkomfomjpcbfaaDoorW.PrintWords Go.Proofs.YtkkomfomjpcbfaaDoorW.PrintLast Go.Proofs.YtkkomfomjpcbfaaDoorW.PrintMore
attribute [local go_sem] kQ kO kW kV kG kF kP kN
def errW : Option Int → Value
 | none => .nilIface
 | some c => .iface 0 (.int .i64 c)
theorem errW_none : errW none = .nilIface := rfl
theorem errW_some (c : Int) : errW (some c) = .iface 0 (.int .i64 c) := rfl
end Go.Proofs.YtkkomfomjpcbfaaDoor.PHL
end
section
namespace Go.Proofs.YtkkomfomjpcbfaaDoor.PHL
open Go.RowKit Go.Proofs.YtkkomfomjpcbfaaDoorW.PrintWords Go.Proofs.YtkkomfomjpcbfaaDoorW.PrintLast Go.Proofs.YtkkomfomjpcbfaaDoorW.PrintMore
attribute [local go_sem] kQ kO kW kV kG kF kP kN
mutual
def hash_six.j0 : Nat → Int → Bool → Option (Int × Bool)
 | 0, _, _ => none
 | k + 1, x0, x4 => if x4 = true then (some (IntKind.u64.wrap (wrap32 (x0 - 65)), true)) else (if x0 ≥ 97 then (hash_six.j1 k x0 (decide (x0 ≤ 122))) else (hash_six.j1 k x0 false))
def hash_six.j1 : Nat → Int → Bool → Option (Int × Bool)
 | 0, _, _ => none
 | k + 1, x0, x14 => if x14 = true then (some (IntKind.u64.wrap ((IntKind.u64.wrap (wrap32 (x0 - 97))) + 26), true)) else (if x0 ≥ 48 then (hash_six.j2 k x0 (decide (x0 ≤ 57))) else (hash_six.j2 k x0 false))
def hash_six.j2 : Nat → Int → Bool → Option (Int × Bool)
 | 0, _, _ => none
 | k + 1, x0, x25 => if x25 = true then (some (IntKind.u64.wrap ((IntKind.u64.wrap (wrap32 (x0 - 48))) + 52), true)) else (if x0 = 45 then (some (62, true)) else (if x0 = 95 then (some (63, true)) else (some (0, false))))
end
def hash_six.f (k : Nat) (a0 : Int) : Option (Int × Bool) := if a0 ≥ 65 then (hash_six.j0 k a0 (decide (a0 ≤ 90))) else (hash_six.j0 k a0 false)
set_option maxHeartbeats 8000000 in
set_option maxRecDepth 100000 in
theorem hash_six.calls (k : Nat) (a0 : Int) (r1 : Int) (r2 : Bool) (w : World) (h : hash_six.f k a0 = some (r1, r2)) :
  Calls Tryd.prog 56 #[.int .i32 a0] w fun e w' => e = .returned (.tuple #[.int .u64 r1, .bool r2]) ∧ Drawn0 w w' := by
 have H : (if a0 ≥ 65 then (hash_six.j0 k a0 (decide (a0 ≤ 90))) else (hash_six.j0 k a0 false)) = some (r1, r2) := h; clear h; have HC2 := Aside0.mk H; clear H; go_enter Tryd.func56, Tryd.ntmps56
 go_upto_region 1 with (fail)
 go_cut [4] (fun v4 wc => ∃ (kq : Nat) (x4_1 : Bool), v4 = .bool x4_1 ∧ Aside0 (hash_six.j0 kq a0 x4_1 = some (r1, r2)) ∧ Aside0 (kq ≤ k) ∧ Drawn0 w wc)
 case first =>
  have H := HC2.out; clear HC2
  by_cases c3 : a0 ≥ 65
  ·rw [if_pos c3] at H; have c3b0 : decide (65 ≤ a0) = true := decide_eq_true c3; clear c3; (first | rw [c3b0] | (simp only [kT, i32_w]; rw [c3b0]) | skip); have H' := Aside0.mk H; clear H
   go_wp2
   go_meet
   case rel => exact ⟨_, (decide (a0 ≤ 90)), y93_, H', ⟨y89_⟩, y6_⟩
  ·rw [if_neg c3] at H; have c3b0 : decide (65 ≤ a0) = false := decide_eq_false c3; clear c3; (first | rw [c3b0] | (simp only [kT, i32_w]; rw [c3b0]) | skip); have H' := Aside0.mk H; clear H
   go_wp2
   go_meet
   case rel => exact ⟨_, (false), y93_, H', ⟨y89_⟩, y6_⟩
 case rest =>
  clear HC2
  try clear p2
  try clear c3
  try clear c3b0
  obtain ⟨kq, x4_1, rfl, HA, HJ1, ⟨mc1, rfl⟩⟩ := hcut
  cases kq with
  | zero => exact absurd HA.out (by simp [hash_six.j0])
  | succ kj1 =>
   have H := HA.out; clear HA; simp only [hash_six.j0] at H
   by_cases c4 : x4_1 = true
   ·subst c4; rw [if_pos rfl] at H; simp only [Option.some.injEq, Prod.mk.injEq] at H; obtain ⟨rfl, rfl⟩ := H
    go_wp2
    go_ret2
    exact ⟨y24_, y6_⟩
   ·replace c4 := Bool.eq_false_iff.mpr c4; subst c4; rw [if_neg (show ¬ (false = true) by decide)] at H; have HC5 := Aside0.mk H; clear H
    go_upto_region 3 with (fail)
    go_cut [14] (fun v14 wc => ∃ (kq : Nat) (x14_4 : Bool), v14 = .bool x14_4 ∧ Aside0 (hash_six.j1 kq a0 x14_4 = some (r1, r2)) ∧ Aside0 (kq ≤ kj1) ∧ Drawn0 w wc)
    case first =>
     have H := HC5.out; clear HC5
     by_cases c6 : a0 ≥ 97
     ·rw [if_pos c6] at H; have c6b0 : decide (97 ≤ a0) = true := decide_eq_true c6; clear c6; (first | rw [c6b0] | (simp only [kT, i32_w]; rw [c6b0]) | skip); have H' := Aside0.mk H; clear H
      go_wp2
      go_meet
      case rel => exact ⟨_, (decide (a0 ≤ 122)), y93_, H', ⟨by have := HJ1.out; first | omega | exact Nat.le_refl _⟩, y6_⟩
     ·rw [if_neg c6] at H; have c6b0 : decide (97 ≤ a0) = false := decide_eq_false c6; clear c6; (first | rw [c6b0] | (simp only [kT, i32_w]; rw [c6b0]) | skip); have H' := Aside0.mk H; clear H
      go_wp2
      go_meet
      case rel => exact ⟨_, (false), y93_, H', ⟨by have := HJ1.out; first | omega | exact Nat.le_refl _⟩, y6_⟩
    case rest =>
     clear HC5
     try clear c1
     try clear p2
     try clear c3
     try clear c3b0
     try clear p3
     try clear c4
     try clear c5
     try clear c6
     try clear c6b0
     try clear p2
     obtain ⟨kq, x14_4, rfl, HA, HJ4, ⟨mc4, rfl⟩⟩ := hcut
     cases kq with
     | zero => exact absurd HA.out (by simp [hash_six.j1])
     | succ kj4 =>
      have H := HA.out; clear HA; simp only [hash_six.j1] at H
      by_cases c7 : x14_4 = true
      ·subst c7; rw [if_pos rfl] at H; simp only [Option.some.injEq, Prod.mk.injEq] at H; obtain ⟨rfl, rfl⟩ := H
       go_wp2
       go_ret2
       exact ⟨y24_, y6_⟩
      ·replace c7 := Bool.eq_false_iff.mpr c7; subst c7; rw [if_neg (show ¬ (false = true) by decide)] at H; have HC8 := Aside0.mk H; clear H
       go_upto_region 5 with (fail)
       go_cut [25] (fun v25 wc => ∃ (kq : Nat) (x25_7 : Bool), v25 = .bool x25_7 ∧ Aside0 (hash_six.j2 kq a0 x25_7 = some (r1, r2)) ∧ Aside0 (kq ≤ kj4) ∧ Drawn0 w wc)
       case first =>
        have H := HC8.out; clear HC8
        by_cases c9 : a0 ≥ 48
        ·rw [if_pos c9] at H; have c9b0 : decide (48 ≤ a0) = true := decide_eq_true c9; clear c9; (first | rw [c9b0] | (simp only [kT, i32_w]; rw [c9b0]) | skip); have H' := Aside0.mk H; clear H
         go_wp2
         go_meet
         case rel => exact ⟨_, (decide (a0 ≤ 57)), y93_, H', ⟨by have := HJ1.out; have := HJ4.out; first | omega | exact Nat.le_refl _⟩, y6_⟩
        ·rw [if_neg c9] at H; have c9b0 : decide (48 ≤ a0) = false := decide_eq_false c9; clear c9; (first | rw [c9b0] | (simp only [kT, i32_w]; rw [c9b0]) | skip); have H' := Aside0.mk H; clear H
         go_wp2
         go_meet
         case rel => exact ⟨_, (false), y93_, H', ⟨by have := HJ1.out; have := HJ4.out; first | omega | exact Nat.le_refl _⟩, y6_⟩
       case rest =>
        clear HC8
        try clear c1
        try clear p2
        try clear c3
        try clear c3b0
        try clear p3
        try clear c4
        try clear c5
        try clear c6
        try clear c6b0
        try clear c7
        try clear c9
        try clear c9b0
        try clear p2
        try clear p3
        obtain ⟨kq, x25_7, rfl, HA, HJ7, ⟨mc7, rfl⟩⟩ := hcut
        cases kq with
        | zero => exact absurd HA.out (by simp [hash_six.j2])
        | succ kj7 =>
         have H := HA.out; clear HA; simp only [hash_six.j2] at H
         by_cases c10 : x25_7 = true
         ·subst c10; rw [if_pos rfl] at H; simp only [Option.some.injEq, Prod.mk.injEq] at H; obtain ⟨rfl, rfl⟩ := H
          go_wp2
          go_ret2
          exact ⟨y24_, y6_⟩
         ·replace c10 := Bool.eq_false_iff.mpr c10; subst c10; rw [if_neg (show ¬ (false = true) by decide)] at H
          by_cases c11 : a0 = 45
          ·rw [if_pos c11] at H; have c11b0 : (a0 == 45) = true := beq_iff_eq.mpr c11; have c11b1 : (a0 != 45) = false := bne_eq_false_iff_eq.mpr c11; clear c11; simp only [Option.some.injEq, Prod.mk.injEq] at H; obtain ⟨rfl, rfl⟩ := H
           go_wp2
           go_ret2
           exact ⟨y24_, y6_⟩
          ·rw [if_neg c11] at H; have c11b0 : (a0 == 45) = false := beq_eq_false_iff_ne.mpr c11; have c11b1 : (a0 != 45) = true := bne_iff_ne.mpr c11
           by_cases c12 : a0 = 95
           ·rw [if_pos c12] at H; have c12b0 : (a0 == 95) = true := beq_iff_eq.mpr c12; have c12b1 : (a0 != 95) = false := bne_eq_false_iff_eq.mpr c12; clear c12; simp only [Option.some.injEq, Prod.mk.injEq] at H; obtain ⟨rfl, rfl⟩ := H
            go_wp2
            go_ret2
            exact ⟨y24_, y6_⟩
           ·rw [if_neg c12] at H; have c12b0 : (a0 == 95) = false := beq_eq_false_iff_ne.mpr c12; have c12b1 : (a0 != 95) = true := bne_iff_ne.mpr c12; simp only [Option.some.injEq, Prod.mk.injEq] at H; obtain ⟨rfl, rfl⟩ := H
            go_wp2
            go_ret2
            exact ⟨y24_, y6_⟩
end Go.Proofs.YtkkomfomjpcbfaaDoor.PHL
end
section
namespace Go.Proofs.YtkkomfomjpcbfaaDoor
open Go Go.RowKit Go.Lib Go.Proofs.YtkkomfomjpcbfaaDoorW.PrintWords Go.Proofs.YtkkomfomjpcbfaaDoorW.PrintMore Go.Proofs.YtkkomfomjpcbfaaDoorW.PrintLast Bq
attribute [local go_sem ↓] Go.wp_at_zero Go.wp_at_succ
def sixV (c : Int) : Option Nat := if 65 ≤ c ∧ c ≤ 90 then some (c - 65).toNat else if 97 ≤ c ∧ c ≤ 122 then some (c - 71).toNat else if 48 ≤ c ∧ c ≤ 57 then some (c + 4).toNat else if c = 45 then some 62 else if c = 95 then some 63 else none
theorem sixV_lt {c : Int} {v : Nat} (h : sixV c = some v) : v < 64 ∧ 0 ≤ c ∧ c < 128 := by
 unfold sixV at h
 repeat' split at h
 all_goals simp only [Option.some.injEq, reduceCtorEq] at h
 all_goals omega
theorem sixV_high {c : Int} (h : 128 ≤ c) : sixV c = none := by
 unfold sixV
 rw [if_neg (by omega), if_neg (by omega), if_neg (by omega), if_neg (by omega), if_neg (by omega)]
theorem w_small (x : Int) (h0 : 0 ≤ x) (h1 : x < 100) : IntKind.u64.wrap (wrap32 x) = x := by
 rw [← i32_w, IntKind.wrap_i32, IntKind.wrap_u64]
 omega
theorem w_small' (x : Int) (h0 : 0 ≤ x) (h1 : x < 200) : IntKind.u64.wrap x = x := by
 rw [IntKind.wrap_u64]
 omega
theorem below_dr {w w' : World} (h : Drawn0 w w') : Below w.heap.size w w' := by
 obtain ⟨n, rfl⟩ := h
 exact kA (Below.refl _ _) n
theorem dr_trans {B : Nat} {w w1 w' : World} (h : Below B w w1) (hD : Drawn0 w1 w') : Below B w w' := by
 obtain ⟨n, rfl⟩ := hD
 exact kA h n
theorem six_f (c : Int) : PHL.hash_six.f 3 c = some ((((sixV c).getD 0 : Nat) : Int), (sixV c).isSome) := by
 simp only [PHL.hash_six.f, PHL.hash_six.j0, PHL.hash_six.j1, PHL.hash_six.j2, decide_eq_true_eq, Bool.false_eq_true, if_false, reduceIte]
 unfold sixV
 (repeat' split) <;> first
  | (exfalso; omega)
  | rfl
  | (simp only [Option.getD_some, Option.isSome_some, Option.some.injEq, Prod.mk.injEq, and_true]; rw [w_small _ (by omega) (by omega)]; omega)
  | (simp only [Option.getD_some, Option.isSome_some, Option.some.injEq, Prod.mk.injEq, and_true]; rw [w_small _ (by omega) (by omega), w_small' _ (by omega) (by omega)]; omega)
theorem six_calls (c : Int) (w : World) : Calls Tryd.prog 56 #[.int .i32 c] w fun e w' => e = .returned (.tuple #[.int .u64 (((sixV c).getD 0 : Nat) : Int), .bool (sixV c).isSome]) ∧ Drawn0 w w' :=
 PHL.hash_six.calls 3 c _ _ w (six_f c)
def unL : List UInt8 → Nat → Nat → List Int → List Int × Int
 | [], X, n, out => if n = 6 ∨ X % 2 ^ n ≠ 0 then ([], 8) else (out, 0)
 | c :: l, X, n, out => match sixV (c.toNat : Int) with
  | none => ([], 8)
  | some v => if 8 ≤ n + 6 then unL l ((X * 64 + v) % 256) (n - 2) (out ++ [(((X * 64 + v) / 2 ^ (n - 2) % 256 : Nat) : Int)]) else unL l ((X * 64 + v) % 256) (n + 6) out
theorem hu_byte (s : ByteArray) (i : Nat) (h : i < s.size) : s[i] = s.data.toList.getD i 0 := by
 rw [List.getD_eq_getElem?_getD, List.getElem?_eq_getElem (by simpa using h)]
 simp
 rfl
theorem hu_drop (s : ByteArray) (i : Nat) (h : i < s.size) : s.data.toList.drop i = s[i] :: s.data.toList.drop (i + 1) := by
 have hl : i < s.data.toList.length := by simpa using h
 rw [List.drop_eq_getElem_cons hl]
 congr 1
theorem or64 (a v : Nat) (hv : v < 64) (ha : a < 72057594037927936) : bits .or .u64 ((a * 64 : Nat) : Int) (v : Int) = ((a * 64 + v : Nat) : Int) := by
 rw [(bits_nat .u64 64 (by decide) (fun m a b => by rw [IntKind.wrap_u64]; omega) (a * 64) v (by omega) (by omega)).2]
 congr 1
 have h3 := Nat.two_pow_add_eq_or_of_lt (i := 6) hv a
 rw [Nat.mul_comm a 64]
 exact h3.symm
theorem and_mask (a n : Nat) (ha : a < 18446744073709551616) (hn : n ≤ 8) : bits .and .u64 (a : Int) ((2 ^ n - 1 : Nat) : Int) = ((a % 2 ^ n : Nat) : Int) := by
 have hp : 2 ^ n ≤ 2 ^ 8 := Nat.pow_le_pow_right (by decide) hn
 rw [(bits_nat .u64 64 (by decide) (fun m a b => by rw [IntKind.wrap_u64]; omega) a (2 ^ n - 1) ha (by omega)).1]
 congr 1
 exact Nat.and_two_pow_sub_one_eq_mod a n
theorem R_iterAt {w : World} {base k pos p0 : Nat} {s : ByteArray} {v : Value} {xs : List Int} (h : (Kd.int .u8).R 5 w base (fun j => j ≠ k) v xs) : (Kd.int .u8).R 5 (w.iterAt k s pos) base (fun j => j ≠ k) v xs :=
 Kd.R_step h (fun j hj _ => iterAt_other w k j s pos hj)
set_option maxRecDepth 20000 in
set_option maxHeartbeats 4000000 in
theorem unarmor_calls (w : World) (s : ByteArray) (hs : s.size ≤ 1000000) (r1 : List Int) (r2 : Int) (h : unL s.data.toList 0 0 [] = (r1, r2)) :
  Calls Tryd.prog 33 #[.string s] w fun e w' => ∃ v : Value, e = .returned (.tuple #[v, .int .i64 r2]) ∧ (Kd.int .u8).R 5 w' w.heap.size (fun _ => True) v r1 ∧ Below w.heap.size w w' := by
 have H0 := Lib.hid h
 clear h
 obtain ⟨m0, hm0⟩ : ∃ m0 : Nat, (3 * (s.size : Int)) / 4 = m0 := ⟨((3 * (s.size : Int)) / 4).toNat, by omega⟩
 have hm0b : m0 ≤ 10000000 := by omega
 have HM0 := Lib.hid hm0
 clear hm0
 have q0 : IntKind.i64.wrap (3 * (s.size : Int)) = 3 * (s.size : Int) := IntWalk.i64_in _ (by omega)
 go_enter Tryd.func33, Tryd.ntmps33
 go_upto_region 3 with (show wpList _ _ _ ({ dst := _, op := .makeSlice _ _ _, type := _, pos := _, after := _, guard := _ } :: _) _ _; refine wl_make0 w.heap.size m0 (fun _ => True) rfl _ _ rfl rfl (congrArg (Value.int .i64) HM0.out) (Nat.le_refl _) trivial (by omega) ?_; intro v1 w1 hR1 hB1; have HR1 := Lib.hid hR1; have HB1 := Lib.hid hB1; clear hR1 hB1)
 obtain ⟨it, hit⟩ : ∃ it, it = w1.heap.size := ⟨_, rfl⟩
 obtain ⟨W2, hW2⟩ : ∃ W2, W2 = w1.iter s 0 := ⟨_, rfl⟩
 have HB2 : Hid (Below w.heap.size w W2) := Lib.hid (by rw [hW2]; exact HB1.out.alloc HB1.out.size _)
 have HI2 : Hid (W2.heap[it]? = some (.stringIter s 0)) := Lib.hid (by rw [hW2, hit]; exact World.iter_heap _ _ _)
 have HR2 : Hid ((Kd.int .u8).R 5 W2 w.heap.size (fun j => j ≠ it) v1 []) := Lib.hid (by
  have h1 := Kd.R_mono (Kd.R_bound HR1.out) (ok' := fun j => j ≠ it) (fun j hj => by have := hj.2.2.1; omega)
  rw [hW2]
  exact Kd.R_below h1 ((Below.refl _ _).alloc (Nat.le_refl _) _))
 have HIW : Hid (w.heap.size ≤ it) := Lib.hid (by rw [hit]; exact HB1.out.size)
 go_upto_region 4 with fail
 rw [← hW2, ← hit]
 clear hW2 hit HB1 HR1
 go_loopg [4, 5, 6] s.size (fun kq s4 s5 s6 wr => ∃ (pos X n : Nat) (out : List Int), pos + kq = s.size ∧ s5 = .int .u64 (X : Int) ∧ s6 = .int .i64 (n : Int) ∧ X < 256 ∧ n < 8 ∧ out.length ≤ pos ∧ Hid (unL (s.data.toList.drop pos) X n out = (r1, r2)) ∧ Hid ((Kd.int .u8).R 5 wr w.heap.size (fun j => j ≠ it) s4 out) ∧ Hid (wr.heap[it]? = some (.stringIter s pos)) ∧ Hid (Below w.heap.size w wr))
 case atStart => exact ⟨0, 0, 0, [], by omega, rfl, rfl, by decide, by decide, Nat.le_refl _, H0.out, HR2.out, HI2.out, HB2.out⟩
 case round =>
  obtain ⟨pos, X, n, out, hk, rfl, rfl, hX, hn, hol, HU, HR, HI, HB⟩ := hrel
  obtain ⟨A4, c4, hs4⟩ := Kd.R_slice HR.out
  subst hs4
  by_cases hlt : pos < s.size
  ·obtain ⟨c, hc⟩ : ∃ c : Int, c = ((Utf8.decode s pos).1 : Int) := ⟨_, rfl⟩
   obtain ⟨st, hst⟩ : ∃ st, st = (Utf8.decode s pos).2 := ⟨_, rfl⟩
   have hnx := fun ty => run_next_any_at (P := Tryd.prog) wr it s pos ty HI.out hlt
   simp only [← hc, ← hst] at hnx
   have hsix : sixV c = sixV ((s[pos]'hlt).toNat : Int) ∧ ((s[pos]'hlt).toNat < 128 → st = 1) := by
    by_cases ha : (s[pos]'hlt).toNat < 128
    ·rw [hc, hst, decode_ascii s pos hlt ha]
     exact ⟨rfl, fun _ => rfl⟩
    ·have hd := (decode_high s pos hlt (by omega)).1
     exact ⟨by rw [sixV_high (by omega), sixV_high (by omega)], fun h => absurd h ha⟩
   have hd := hu_drop s pos hlt
   have HU2 : Hid (unL ((s[pos]'hlt) :: s.data.toList.drop (pos + 1)) X n out = (r1, r2)) := Lib.hid (by rw [← hd]; exact HU.out)
   have HSX := Lib.hid hsix
   have HLT := Lib.hid hlt
   clear hc hst hd hsix HU
   cases hv : sixV c with
   | none =>
    have hres : r1 = [] ∧ r2 = 8 := by
     have h := HU2.out
     unfold unL at h
     rw [← HSX.out.1, hv] at h
     exact ⟨(congrArg Prod.fst h).symm, (congrArg Prod.snd h).symm⟩
    obtain ⟨rfl, rfl⟩ := hres
    have h6 := fun W => six_calls c W
    rw [hv] at h6
    clear hv
    go_wp2_with (go_at_call 56; refine (h6 _).mono ?_; rintro e w' ⟨rfl, hD⟩; have HB5 : Hid (Below w.heap.size w w') := Lib.hid (dr_trans (below_iterAt HB.out HIW.out s _) hD); clear hD)
    go_ret2
    exact ⟨.slice none 0 0, rfl, Kd.R_nil _ _ _ _ _, HB5.out⟩
   | some v =>
    obtain ⟨hv64, hc0, hc1⟩ := sixV_lt hv
    have hst1 : st = 1 := HSX.out.2 (by
     by_cases ha : (s[pos]'hlt).toNat < 128
     ·exact ha
     ·exfalso
      have h1 := HSX.out.1
      rw [hv, sixV_high (c := ((s[pos]'hlt).toNat : Int)) (by omega)] at h1
      cases h1)
    subst hst1
    have HU3 : Hid ((if 8 ≤ n + 6 then unL (s.data.toList.drop (pos + 1)) ((X * 64 + v) % 256) (n - 2) (out ++ [(((X * 64 + v) / 2 ^ (n - 2) % 256 : Nat) : Int)]) else unL (s.data.toList.drop (pos + 1)) ((X * 64 + v) % 256) (n + 6) out) = (r1, r2)) := Lib.hid (by
     have h := HU2.out
     unfold unL at h
     rw [← HSX.out.1, hv] at h
     exact h)
    have h6 := fun W => six_calls c W
    rw [hv] at h6
    simp only [Option.getD_some, Option.isSome_some] at h6
    have hor := or64 X v hv64 (by omega)
    rw [show ((X * 64 : Nat) : Int) = (X : Int) * 64 by omega] at hor
    obtain ⟨Y, hY⟩ : ∃ Y, Y = X * 64 + v := ⟨_, rfl⟩
    rw [← hY] at hor
    have hYl : Y < 16384 := by omega
    have HY := Lib.hid hY
    have e1 : IntKind.u64.wrap ((X : Int) * 64) = (X : Int) * 64 := by rw [IntKind.wrap_u64]; omega
    have hand := and_mask Y 8 (by omega) (Nat.le_refl _)
    rw [show ((2 ^ 8 - 1 : Nat) : Int) = 255 from rfl, show (2 : Nat) ^ 8 = 256 from rfl] at hand
    obtain ⟨Z, hZ⟩ : ∃ Z, Z = Y % 256 := ⟨_, rfl⟩
    rw [← hZ] at hand
    have HZ := Lib.hid hZ
    have hZl : Z < 256 := by omega
    have HSV := Lib.hid hv
    clear hY hZ hv hc0 hc1 HU2 HSX hlt
    obtain ⟨W9, hW9⟩ : ∃ W9, W9 = wr.iterAt it s (pos + 1) := ⟨_, rfl⟩
    have HR9 : Hid ((Kd.int .u8).R 5 W9 w.heap.size (fun j => j ≠ it) (.slice A4 out.length c4) out) := Lib.hid (by rw [hW9]; exact R_iterAt (p0 := 0) HR.out)
    have HI9 : Hid (W9.heap[it]? = some (.stringIter s (pos + 1))) := Lib.hid (by rw [hW9]; exact iterAt_heap wr it s pos _ HI.out)
    have HB9 : Hid (Below w.heap.size w W9) := Lib.hid (by rw [hW9]; exact below_iterAt HB.out HIW.out s _)
    rw [← hW9] at hnx
    clear hW9
    by_cases h8 : 8 ≤ n + 6
    ·obtain ⟨m, hm⟩ : ∃ m, n = m + 2 := ⟨n - 2, by omega⟩
     subst hm
     have HU4 : Hid (unL (s.data.toList.drop (pos + 1)) Z m (out ++ [((Y / 2 ^ m % 256 : Nat) : Int)]) = (r1, r2)) := Lib.hid (by
      have h := HU3.out
      rw [if_pos h8, ← HY.out, ← HZ.out] at h
      exact h)
     have n1 : IntKind.i64.wrap (((m + 2 : Nat) : Int) + 6) = ((m + 8 : Nat) : Int) := by rw [IntWalk.i64_in _ (by omega)]; omega
     have n2 : (8 : Int) ≤ ((m + 8 : Nat) : Int) := by omega
     have n3 : IntKind.i64.wrap (((m + 8 : Nat) : Int) - 8) = (m : Int) := by rw [IntWalk.i64_in _ (by omega)]; omega
     have n4 : IntKind.u64.wrap (m : Int) = (m : Int) := by rw [IntKind.wrap_u64]; omega
     have n5 : m < 64 := by omega
     obtain ⟨B, hB⟩ : ∃ B : Nat, B = Y / 2 ^ m % 256 := ⟨_, rfl⟩
     rw [← hB] at HU4
     have n6 : (Y : Int) / 2 ^ m % 256 = (B : Int) := by rw [hB]; simp
     have n7 : IntKind.u8.wrap ((Y : Int) / 2 ^ m) = (B : Int) := by rw [IntKind.wrap_u8]; exact n6
     clear hB
     go_upto_region 14 with (first
      | (go_at_call 56; refine (h6 _).mono ?_; rintro e w' ⟨rfl, hD⟩; have HB5 : Hid (Below w.heap.size w w') := Lib.hid (dr_trans HB9.out hD); have HR5 := Lib.hid (Kd.R_below HR9.out (below_dr hD)); have HI5 : Hid (w'.heap[it]? = some (.stringIter s (pos + 1))) := Lib.hid (((below_dr hD : Below W9.heap.size W9 w').block it (ky HI9.out)).trans HI9.out); clear hD)
      | (at_builtin; refine Kd.R_append (Kd.int .u8) (w0 := w) w.heap.size rfl (.tmp 38) (.tmp 44) 45 5 (.int .u8 0) 1 rfl Tryd.underlying45 info_u8' rfl (by decide) (by decide) _ out (B : Int) [.int .u8 (B : Int)] (fun j => j ≠ it) (fun _ => False) rfl rfl rfl (fun _ h => h.elim) (fun k hk => by have := ky HI5.out; omega) HR5.out HB5.out (below_size' HB5.out) (by omega) ?_; intro v7 w7 hR7 hB7 hg7 _; have HR7 := Lib.hid hR7; have HB7 := Lib.hid hB7; have HI7 : Hid (w7.heap[it]? = some (.stringIter s (pos + 1))) := Lib.hid ((hg7.block it (ky HI5.out) (fun e => (HR5.out).1 it e.symm rfl)).trans HI5.out); clear hR7 hB7 hg7))
     go_wp2_with fail
     go_roundg (gk - 1)
     case measure => have := HLT.out; omega
     case rel => exact ⟨pos + 1, Z, m, out ++ [(B : Int)], by have := HLT.out; omega, rfl, (by first | rfl | exact congrArg (Value.int .i64) (by omega)), hZl, by omega, by rw [List.length_append, List.length_singleton]; omega, HU4.out, HR7.out, HI7.out, HB7.out⟩
    ·have HU4 : Hid (unL (s.data.toList.drop (pos + 1)) Z (n + 6) out = (r1, r2)) := Lib.hid (by
      have h := HU3.out
      rw [if_neg h8, ← HY.out, ← HZ.out] at h
      exact h)
     have n1 : IntKind.i64.wrap ((n : Int) + 6) = ((n + 6 : Nat) : Int) := by rw [IntWalk.i64_in _ (by omega)]; omega
     have n2 : ¬ (8 : Int) ≤ ((n + 6 : Nat) : Int) := by omega
     go_wp2_with (go_at_call 56; refine (h6 _).mono ?_; rintro e w' ⟨rfl, hD⟩; have HB5 : Hid (Below w.heap.size w w') := Lib.hid (dr_trans HB9.out hD); have HR5 := Lib.hid (Kd.R_below HR9.out (below_dr hD)); have HI5 : Hid (w'.heap[it]? = some (.stringIter s (pos + 1))) := Lib.hid (((below_dr hD : Below W9.heap.size W9 w').block it (ky HI9.out)).trans HI9.out); clear hD)
     go_roundg (gk - 1)
     case measure => have := HLT.out; omega
     case rel => exact ⟨pos + 1, Z, n + 6, out, by have := HLT.out; omega, rfl, (by first | rfl | exact congrArg (Value.int .i64) (by omega)), hZl, by omega, by omega, HU4.out, HR5.out, HI5.out, HB5.out⟩
  ·have hnx := fun ty => run_next_end_at (P := Tryd.prog) wr it s pos ty HI.out hlt
   have hps : pos = s.size := by omega
   have hres : (if n = 6 ∨ X % 2 ^ n ≠ 0 then (([] : List Int), (8 : Int)) else (out, 0)) = (r1, r2) := by
    have h := HU.out
    rw [List.drop_of_length_le (by rw [hps]; simp)] at h
    exact h
   have HRES := Lib.hid hres
   clear hres hps HU
   by_cases h6 : n = 6
   ·subst h6
    have hr := HRES.out
    rw [if_pos (.inl rfl)] at hr
    obtain ⟨rfl, rfl⟩ : ([] : List Int) = r1 ∧ (8 : Int) = r2 := ⟨congrArg Prod.fst hr, congrArg Prod.snd hr⟩
    clear hr
    go_wp2_with fail
    go_ret2
    exact ⟨.slice none 0 0, rfl, Kd.R_nil _ _ _ _ _, HB.out⟩
   ·have hne : (n : Int) ≠ 6 := by omega
    have n4 : IntKind.u64.wrap (n : Int) = (n : Int) := by rw [IntKind.wrap_u64]; omega
    have n5 : n < 64 := by omega
    have hpw : 2 ^ n ≤ 128 := by
     have : ∀ j : Fin 8, 2 ^ j.val ≤ 128 := by decide
     exact this ⟨n, hn⟩
    have hp1 : 0 < 2 ^ n := Nat.pow_pos (by decide)
    have hand := and_mask X n (by omega) (by omega)
    obtain ⟨P, hP⟩ : ∃ P, P = 2 ^ n := ⟨_, rfl⟩
    rw [← hP] at hand hpw hp1
    have n6 : (2 : Int) ^ n = (P : Int) := by rw [hP]; simp
    have n7 : (P : Int) % 18446744073709551616 = (P : Int) := by omega
    have n7' : IntKind.u64.wrap (P : Int) = (P : Int) := by rw [IntKind.wrap_u64]; omega
    have n8 : IntKind.u64.wrap ((P : Int) - 1) = ((P - 1 : Nat) : Int) := by rw [IntKind.wrap_u64]; omega
    have n9 : ((P : Int) - 1) % 18446744073709551616 = ((P - 1 : Nat) : Int) := by omega
    obtain ⟨Z, hZ⟩ : ∃ Z, Z = X % P := ⟨_, rfl⟩
    rw [← hZ] at hand
    have HZ : Hid (X % 2 ^ n = Z) := Lib.hid (by rw [hZ, hP])
    have HN := Lib.hid h6
    clear hP hZ h6
    by_cases hz : Z = 0
    ·subst hz
     have hr := HRES.out
     rw [if_neg (by rw [HZ.out]; exact fun h => h.elim HN.out (fun h => h rfl))] at hr
     obtain ⟨rfl, rfl⟩ : out = r1 ∧ (0 : Int) = r2 := ⟨congrArg Prod.fst hr, congrArg Prod.snd hr⟩
     clear hr
     go_wp2_with fail
     go_ret2
     exact ⟨_, rfl, Kd.R_mono HR.out (fun _ _ => trivial), HB.out⟩
    ·have hr := HRES.out
     rw [if_pos (.inr (by rw [HZ.out]; exact hz))] at hr
     obtain ⟨rfl, rfl⟩ : ([] : List Int) = r1 ∧ (8 : Int) = r2 := ⟨congrArg Prod.fst hr, congrArg Prod.snd hr⟩
     clear hr
     have hzi : ((Z : Int) != 0) = true := by simp; omega
     have hzj : ((Z : Int) == 0) = false := by simp; omega
     go_wp2_with fail
     go_ret2
     exact ⟨.slice none 0 0, rfl, Kd.R_nil _ _ _ _ _, HB.out⟩
end Go.Proofs.YtkkomfomjpcbfaaDoor
end
section
namespace Go.Proofs.YtkkomfomjpcbfaaDoor
open Go Go.RowKit Bq
def rowV (vs : List Nat) : List Bool := vs.flatMap fun v => nb v 6
theorem rowV_length (vs : List Nat) : (rowV vs).length = 6 * vs.length := by
 induction vs with
 | nil => rfl
 | cons v vs ih => unfold rowV at *; rw [List.flatMap_cons, List.length_append, kJ, ih, List.length_cons]; omega
theorem rowV_cons (v : Nat) (vs : List Nat) : rowV (v :: vs) = nb v 6 ++ rowV vs := by unfold rowV; rw [List.flatMap_cons]
theorem rowV_append (a b : List Nat) : rowV (a ++ b) = rowV a ++ rowV b := by unfold rowV; rw [List.flatMap_append]
def rest8 (R : List Bool) : List Bool := R.drop (8 * (R.length / 8))
def full8 (R : List Bool) : List Bool := R.take (8 * (R.length / 8))
theorem rest8_length (R : List Bool) : (rest8 R).length = R.length % 8 := by unfold rest8; rw [List.length_drop]; omega
theorem full8_length (R : List Bool) : (full8 R).length = 8 * (R.length / 8) := by unfold full8; rw [List.length_take]; omega
theorem full_rest (R : List Bool) : full8 R ++ rest8 R = R := List.take_append_drop _ _
theorem low_pow (Y m : Nat) (h : m ≤ 8) : Y % 256 % 2 ^ m = Y % 2 ^ m := by
 refine Nat.mod_mod_of_dvd Y ?_
 exact Nat.pow_dvd_pow 2 h
theorem six_more (X v n : Nat) (r : List Bool) (hl : r.length = n) (hx : X % 2 ^ n = bnum r) (hv : v < 64) : (X * 64 + v) % 2 ^ (n + 6) = bnum (r ++ nb v 6) := by
 rw [bnum_append, kJ, bnum_nb, ← hx]
 have hp : 2 ^ (n + 6) = 2 ^ n * 64 := by rw [Nat.pow_add]
 have hp0 : 0 < 2 ^ n := Nat.pow_pos (by decide)
 rw [hp]
 have h1 := Nat.div_add_mod X (2 ^ n)
 obtain ⟨q, hq⟩ : ∃ q, q = X / 2 ^ n := ⟨_, rfl⟩
 obtain ⟨m, hm⟩ : ∃ m, m = X % 2 ^ n := ⟨_, rfl⟩
 have hmlt : m < 2 ^ n := by rw [hm]; exact Nat.mod_lt _ hp0
 rw [← hq, ← hm] at h1
 rw [← hm]
 have e : X * 64 + v = q * (2 ^ n * 64) + (m * 64 + v) := by
  rw [← h1, Nat.add_mul, Nat.mul_comm (2 ^ n) q, Nat.mul_assoc, Nat.add_assoc]
 rw [e, Nat.add_comm, Nat.add_mul_mod_self_right, Nat.mod_eq_of_lt]
 ·have : v % 2 ^ 6 = v := Nat.mod_eq_of_lt hv
  rw [this]
 ·have := Nat.mul_le_mul_right 64 (Nat.succ_le_of_lt hmlt)
  rw [Nat.succ_mul] at this
  omega
theorem eight_pick (x m : Nat) (r : List Bool) (hl : r.length = m + 8) (hx : x % 2 ^ (m + 8) = bnum r) : x / 2 ^ m % 256 = bnum (r.take 8) ∧ x % 2 ^ m = bnum (r.drop 8) := by
 have h1 := bnum_append (r.take 8) (r.drop 8)
 rw [List.take_append_drop] at h1
 have hd : (r.drop 8).length = m := by rw [List.length_drop]; omega
 have ht : (r.take 8).length = 8 := by rw [List.length_take]; omega
 rw [hd] at h1
 have h2 := bnum_lt (r.drop 8)
 rw [hd] at h2
 have hp : 2 ^ (m + 8) = 2 ^ m * 256 := by rw [Nat.pow_add]
 have hp0 : 0 < 2 ^ m := Nat.pow_pos (by decide)
 have e1 : x % 2 ^ m = x % 2 ^ (m + 8) % 2 ^ m := by rw [hp, Nat.mod_mul_right_mod]
 have e2 : x / 2 ^ m % 256 = x % 2 ^ (m + 8) / 2 ^ m := by rw [hp, Nat.mod_mul_right_div_self]
 constructor
 ·rw [e2, hx, h1, Nat.add_comm, Nat.add_mul_div_right _ _ hp0, Nat.div_eq_of_lt h2, Nat.zero_add]
 ·rw [e1, hx, h1, Nat.add_comm, Nat.add_mul_mod_self_right, Nat.mod_eq_of_lt h2]
def unR (R : List Bool) : List Int × Int := if R.length % 8 = 6 ∨ bnum (rest8 R) ≠ 0 then ([], 8) else (packI (full8 R), 0)
theorem packI_append (q : Nat) (a t : List Bool) (h : a.length = 8 * q) : packI (a ++ t) = packI a ++ packI t := by unfold packI; rw [pack_append q a t h, ints_append]
theorem packI_byte (t : List Bool) (h : t.length = 8) : packI t = [((bnum t : Nat) : Int)] := by
 unfold packI
 rw [pack_short t (by intro e; rw [e] at h; simp at h) (by omega)]
 unfold byte8
 rw [h]
 simp [ints]
theorem unL_row : ∀ (l : List UInt8) (vs : List Nat) (R : List Bool) (X n : Nat) (out : List Int), l.map (fun c => sixV (c.toNat : Int)) = vs.map some → n = R.length % 8 → R.length % 2 = 0 → X % 2 ^ n = bnum (rest8 R) → out = packI (full8 R) →
  unL l X n out = unR (R ++ rowV vs)
 | [], vs, R, X, n, out, hl, hn, h2, hX, ho => by
  have hvs : vs = [] := by
   rw [List.map_nil] at hl
   exact List.map_eq_nil_iff.1 hl.symm
  subst hvs
  subst ho
  unfold unL unR
  rw [show rowV [] = [] from rfl, List.append_nil, hX, hn]
 | c :: l, vs, R, X, n, out, hl, hn, h2, hX, ho => by
  rcases vs with _ | ⟨v, vs⟩
  ·rw [List.map_cons, List.map_nil] at hl
   cases hl
  ·rw [List.map_cons, List.map_cons] at hl
   injection hl with hv hl
   obtain ⟨hv64, _, _⟩ := sixV_lt hv
   unfold unL
   rw [hv]
   simp only
   have hr := rest8_length R
   have hm := six_more X v n (rest8 R) (by rw [hr, hn]) hX hv64
   have hsp : R ++ nb v 6 = full8 R ++ (rest8 R ++ nb v 6) := by rw [← List.append_assoc, full_rest]
   have hfl := full8_length R
   rw [rowV_cons, ← List.append_assoc]
   by_cases h8 : 8 ≤ n + 6
   ·rw [if_pos h8]
    have hn8 : n < 8 := by omega
    have hlen : (R ++ nb v 6).length = 8 * (R.length / 8 + 1) + (n - 2) := by rw [List.length_append, kJ]; omega
    obtain ⟨p1, p2⟩ := eight_pick (X * 64 + v) (n - 2) (rest8 R ++ nb v 6) (by rw [List.length_append, kJ, hr]; omega) (by rw [show n - 2 + 8 = n + 6 by omega]; exact hm)
    have hf' : full8 (R ++ nb v 6) = full8 R ++ (rest8 R ++ nb v 6).take 8 := by
     have e : (R ++ nb v 6).length / 8 = R.length / 8 + 1 := by rw [hlen]; omega
     unfold full8 at hsp hfl ⊢
     rw [e, hsp, List.take_append, List.take_of_length_le (l := List.take (8 * (R.length / 8)) R) (by omega), hfl]
     congr 2
     omega
    have hr' : rest8 (R ++ nb v 6) = (rest8 R ++ nb v 6).drop 8 := by
     have e : (R ++ nb v 6).length / 8 = R.length / 8 + 1 := by rw [hlen]; omega
     have h9 : rest8 (R ++ nb v 6) = (R ++ nb v 6).drop (8 * (R.length / 8) + 8) := by
      unfold rest8
      rw [e]
      congr 1
     rw [h9, hsp, List.drop_append, List.drop_of_length_le (by omega), hfl]
     simp
    refine unL_row l vs (R ++ nb v 6) _ (n - 2) _ hl (by rw [hlen]; omega) (by rw [hlen]; omega) ?_ ?_
    ·rw [low_pow _ _ (by omega), p2, hr']
    ·rw [ho, hf', packI_append (R.length / 8) _ _ hfl, packI_byte ((rest8 R ++ nb v 6).take 8) (by rw [List.length_take, List.length_append, kJ, hr]; omega), p1]
   ·rw [if_neg h8]
    have hlen : (R ++ nb v 6).length = 8 * (R.length / 8) + (n + 6) := by rw [List.length_append, kJ]; omega
    have hf' : full8 (R ++ nb v 6) = full8 R := by
     have e : (R ++ nb v 6).length / 8 = R.length / 8 := by rw [hlen]; omega
     unfold full8 at hsp hfl ⊢
     rw [e, hsp, List.take_append, List.take_of_length_le (l := List.take (8 * (R.length / 8)) R) (by omega), hfl]
     simp
    have hr' : rest8 (R ++ nb v 6) = rest8 R ++ nb v 6 := by
     have e : (R ++ nb v 6).length / 8 = R.length / 8 := by rw [hlen]; omega
     have h9 : rest8 (R ++ nb v 6) = (R ++ nb v 6).drop (8 * (R.length / 8)) := by
      unfold rest8
      rw [e]
     rw [h9, hsp, List.drop_append, List.drop_of_length_le (by omega), hfl]
     simp
    refine unL_row l vs (R ++ nb v 6) _ (n + 6) _ hl (by rw [hlen]; omega) (by rw [hlen]; omega) ?_ ?_
    ·rw [low_pow _ _ (by omega), hm, hr']
    ·rw [ho, hf']
theorem unL_vals (l : List UInt8) (vs : List Nat) (h : l.map (fun c => sixV (c.toNat : Int)) = vs.map some) : unL l 0 0 [] = unR (rowV vs) := by
 have := unL_row l vs [] 0 0 [] h rfl rfl rfl (by unfold full8; simp [packI, pack_nil, ints])
 rwa [List.nil_append] at this
theorem unL_bad : ∀ (l : List UInt8) (X n : Nat) (out : List Int), (∃ c ∈ l, sixV (c.toNat : Int) = none) → unL l X n out = ([], 8)
 | [], X, n, out, h => by obtain ⟨c, hc, _⟩ := h; cases hc
 | c :: l, X, n, out, h => by
  unfold unL
  cases hv : sixV (c.toNat : Int) with
  | none => rfl
  | some v =>
   have h2 : ∃ c ∈ l, sixV (c.toNat : Int) = none := by
    obtain ⟨d, hd, he⟩ := h
    rcases List.mem_cons.1 hd with rfl | hd
    ·rw [hv] at he; cases he
    ·exact ⟨d, hd, he⟩
   simp only
   split
   ·exact unL_bad l _ _ _ h2
   ·exact unL_bad l _ _ _ h2
theorem lett_six : ∀ v : Fin 64, sixV (lett.getD v.val 0) = some v.val ∧ 0 ≤ lett.getD v.val 0 ∧ lett.getD v.val 0 < 128 := by decide
theorem six_lett (c : Int) (v : Nat) (h : sixV c = some v) : lett.getD v 0 = c := by
 have h1 : ∀ k : Fin 128, ∀ v, sixV (k.val : Int) = some v → lett.getD v 0 = (k.val : Int) := by decide
 obtain ⟨_, h2, h3⟩ := sixV_lt h
 obtain ⟨n, rfl⟩ := Int.eq_ofNat_of_zero_le h2
 exact h1 ⟨n, by omega⟩ v h
theorem lett_inj {a b : Nat} (ha : a < 64) (hb : b < 64) (h : lett.getD a 0 = lett.getD b 0) : a = b := by
 have h1 := (lett_six ⟨a, ha⟩).1
 have h2 := (lett_six ⟨b, hb⟩).1
 simp only at h1 h2
 rw [h, h2] at h1
 exact (Option.some.inj h1).symm
theorem arm_row : ∀ vs : List Nat, (∀ v ∈ vs, v < 64) → arm (rowV vs) = vs.map (fun v => lett.getD v 0)
 | [], _ => arm_nil
 | v :: vs, h => by
  have hv := h v List.mem_cons_self
  have hn : nb v 6 ≠ [] := fun e => by have := congrArg List.length e; rw [kJ] at this; cases this
  rw [rowV_cons, arm_append 1 (nb v 6) _ (by rw [kJ]), arm_short _ hn (by rw [kJ]; omega), six1_full _ (kJ _ _), bnum_nb, Nat.mod_eq_of_lt (by omega : v < 2 ^ 6), arm_row vs (fun u hu => h u (List.mem_cons_of_mem _ hu))]
  rfl
theorem arm_full (R : List Bool) (q : Nat) (hR : R.length = 6 * q) : arm (full8 R) = arm R ↔ ¬ (R.length % 8 = 6 ∨ bnum (rest8 R) ≠ 0) := by
 have hfl := full8_length R
 have hrl := rest8_length R
 by_cases h6 : R.length % 8 = 6
 ·refine ⟨fun h => ?_, fun h => absurd (.inl h6) h⟩
  have h1 := congrArg List.length h
  rw [arm_length, arm_length, hfl] at h1
  omega
 ·have hcond : (R.length % 8 = 6 ∨ bnum (rest8 R) ≠ 0) ↔ bnum (rest8 R) ≠ 0 := ⟨fun h => h.resolve_left h6, .inr⟩
  rw [hcond]
  by_cases h0 : R.length % 8 = 0
  ·have hr : rest8 R = [] := List.eq_nil_of_length_eq_zero (by omega)
   have hf : full8 R = R := by
    have := full_rest R
    rwa [hr, List.append_nil] at this
   rw [hf, hr]
   exact ⟨fun _ h => h rfl, fun _ => rfl⟩
  ·obtain ⟨d, hd⟩ : ∃ d, d = 6 * (q - 1) := ⟨_, rfl⟩
   have hq : 0 < q := by omega
   have hdl : (R.take d).length = 6 * (q - 1) := by rw [List.length_take]; omega
   have ht : (full8 R).drop d ++ rest8 R = R.drop d := by
    have h1 : (full8 R ++ rest8 R).drop d = R.drop d := by rw [full_rest]
    rw [← h1, List.drop_append, show d - (full8 R).length = 0 by omega, List.drop_zero]
   have hft : (full8 R).take d = R.take d := by
    have h1 : (full8 R ++ rest8 R).take d = R.take d := by rw [full_rest]
    rw [← h1, List.take_append, show d - (full8 R).length = 0 by omega, List.take_zero, List.append_nil]
   have hfl2 : ((full8 R).drop d).length + (rest8 R).length = 6 := by rw [List.length_drop]; omega
   have e1 : arm (full8 R) = arm (R.take d) ++ [six1 ((full8 R).drop d)] := by
    rw [← arm_short ((full8 R).drop d) (fun e => by have := congrArg List.length e; rw [List.length_drop, List.length_nil] at this; omega) (by omega), ← arm_append (q - 1) _ _ hdl, ← hft, List.take_append_drop]
   have e2 : arm R = arm (R.take d) ++ [six1 (R.drop d)] := by
    rw [← arm_short (R.drop d) (fun e => by have := congrArg List.length e; rw [List.length_drop, List.length_nil] at this; omega) (by rw [List.length_drop]; omega), ← arm_append (q - 1) _ _ hdl, List.take_append_drop]
   have e3 : six1 ((full8 R).drop d) = lett.getD (bnum ((full8 R).drop d) * 2 ^ (rest8 R).length) 0 := by
    unfold six1
    rw [show 6 - ((full8 R).drop d).length = (rest8 R).length by omega]
   have e4 : six1 (R.drop d) = lett.getD (bnum ((full8 R).drop d) * 2 ^ (rest8 R).length + bnum (rest8 R)) 0 := by
    rw [six1_full _ (by rw [List.length_drop]; omega), ← ht, bnum_append]
   have hlt := bnum_lt ((full8 R).drop d ++ rest8 R)
   rw [List.length_append, hfl2, bnum_append] at hlt
   rw [e1, e2, e3, e4]
   constructor
   ·intro h hne
    have h1 := List.append_cancel_left h
    injection h1 with h1 _
    have := lett_inj (by omega) (by omega) h1
    omega
   ·intro h
    have hz : bnum (rest8 R) = 0 := Classical.byContradiction h
    rw [hz, Nat.add_zero]
theorem armor_pack (T : List Bool) (q : Nat) (h : T.length = 8 * q) : armor (packI T) = arm T := by
 unfold armor
 have h1 : (packI T).length = q := by unfold packI; rw [ints_length, pack_length]; omega
 rw [h1, ← h, bitsOf_pack]
end Go.Proofs.YtkkomfomjpcbfaaDoor
end
section
namespace Go.Proofs.YtkkomfomjpcbfaaDoor
open Go Go.RowKit Go.Lib Go.Proofs.YtkkomfomjpcbfaaDoor.Pu Go.Proofs.YtkkomfomjpcbfaaDoorW.PrintWords Go.Proofs.YtkkomfomjpcbfaaDoorW.PrintLast Go.Proofs.YtkkomfomjpcbfaaDoorW.PrintMore
def ptL : List UInt8 → Nat → Int → Option Int
 | [], _, p => some p
 | c :: l, i, p => if c.toNat = 46 then (if 0 ≤ p then none else ptL l (i + 1) (i : Int)) else ptL l (i + 1) p
def Pt (l : List UInt8) (pt : Int) : Prop := pt = -1 ∨ ∃ p : Nat, pt = (p : Int) ∧ p < l.length ∧ (l.getD p 0).toNat = 46
def High (l : List UInt8) : Prop := ∃ h, h < l.length ∧ 128 ≤ (l.getD h 0).toNat
def PInv (l : List UInt8) (pos : Nat) (pt : Int) : Prop := Pt l pt ∧ (High l ∨ ptL (l.drop pos) pos pt = ptL l 0 (-1))
theorem ptL_some : ∀ (l : List UInt8) (i : Nat) (q p : Int), ptL l i q = some p → p = q ∨ ∃ j, j < l.length ∧ (l.getD j 0).toNat = 46 ∧ p = ((i + j : Nat) : Int)
 | [], i, q, p, h => .inl (by unfold ptL at h; exact (Option.some.inj h).symm)
 | c :: l, i, q, p, h => by
  unfold ptL at h
  split at h
  ·rename_i hc
   split at h
   ·cases h
   ·rcases ptL_some l (i + 1) i p h with h1 | ⟨j, h1, h2, h3⟩
    ·exact .inr ⟨0, by simp, by simpa using hc, by simpa using h1⟩
    ·exact .inr ⟨j + 1, by simp; omega, by simpa using h2, by rw [h3]; omega⟩
  ·rcases ptL_some l (i + 1) q p h with h1 | ⟨j, h1, h2, h3⟩
   ·exact .inl h1
   ·exact .inr ⟨j + 1, by simp; omega, by simpa using h2, by rw [h3]; omega⟩
theorem PInv.start (l : List UInt8) : PInv l 0 (-1) := ⟨.inl rfl, .inr rfl⟩
theorem PInv.high {l : List UInt8} {pos : Nat} {pt : Int} (h : PInv l pos pt) (hl : pos < l.length) (hh : 128 ≤ (l.getD pos 0).toNat) (q : Nat) : PInv l q pt := ⟨h.1, .inl ⟨pos, hl, hh⟩⟩
theorem PInv.other {l : List UInt8} {pos : Nat} {pt : Int} (h : PInv l pos pt) (hl : pos < l.length) (hc : ¬ (l.getD pos 0).toNat = 46) : PInv l (pos + 1) pt := by
 refine ⟨h.1, h.2.imp id (fun h2 => ?_)⟩
 rw [← h2, drop_cons l pos hl]
 conv => rhs; unfold ptL
 rw [if_neg hc]
theorem PInv.dot {l : List UInt8} {pos : Nat} {pt : Int} (h : PInv l pos pt) (hl : pos < l.length) (hc : (l.getD pos 0).toNat = 46) (h0 : pt < 0) : PInv l (pos + 1) (pos : Int) := by
 refine ⟨.inr ⟨pos, rfl, hl, hc⟩, h.2.imp id (fun h2 => ?_)⟩
 rw [← h2, drop_cons l pos hl]
 conv => rhs; unfold ptL
 rw [if_pos hc, if_neg (by omega)]
theorem PInv.two {l : List UInt8} {pos : Nat} {pt : Int} (h : PInv l pos pt) (hl : pos < l.length) (hc : (l.getD pos 0).toNat = 46) (h0 : 0 ≤ pt) : High l ∨ ptL l 0 (-1) = none := by
 refine h.2.imp id (fun h2 => ?_)
 rw [← h2, drop_cons l pos hl]
 unfold ptL
 rw [if_pos hc, if_pos h0]
theorem PInv.last {l : List UInt8} {pos : Nat} {pt : Int} (h : PInv l pos pt) (hl : l.length ≤ pos) : High l ∨ ptL l 0 (-1) = some pt := by
 refine h.2.imp id (fun h2 => ?_)
 rw [← h2, List.drop_of_length_le hl]
 rfl
theorem un_high {l : List UInt8} (h : High l) : (unL l 0 0 []).2 = 8 := by
 obtain ⟨i, hi, hh⟩ := h
 rw [unL_bad l 0 0 [] ⟨l.getD i 0, by rw [List.getD_eq_getElem?_getD, List.getElem?_eq_getElem hi]; exact List.getElem_mem hi, sixV_high (by omega)⟩]
theorem high_parts {s : ByteArray} (h : High (B s)) (p : Nat) (hp : p < (B s).length) (hc : ((B s).getD p 0).toNat = 46) :
  (unL (s.extract 0 p).data.toList 0 0 []).2 = 8 ∨ (unL (s.extract (p + 1) s.size).data.toList 0 0 []).2 = 8 := by
 obtain ⟨i, hi, hh⟩ := h
 have hne : i ≠ p := fun e => by rw [e, hc] at hh; omega
 rcases Nat.lt_or_gt_of_ne hne with hl | hl
 ·refine .inl (un_high ⟨i, ?_, ?_⟩)
  ·show i < (B (s.extract 0 p)).length
   rw [B_extract, List.drop_zero, List.length_take]
   omega
  ·show 128 ≤ ((B (s.extract 0 p)).getD i 0).toNat
   rw [B_extract, List.drop_zero, List.getD_eq_getElem?_getD, List.getElem?_take, if_pos hl, ← List.getD_eq_getElem?_getD]
   exact hh
 ·refine .inr (un_high ⟨i - (p + 1), ?_, ?_⟩)
  ·show i - (p + 1) < (B (s.extract (p + 1) s.size)).length
   rw [B_extract, List.length_drop, List.length_take, kD]
   rw [kD] at hi
   omega
  ·show 128 ≤ ((B (s.extract (p + 1) s.size)).getD (i - (p + 1)) 0).toNat
   rw [B_extract, ← kD, List.take_length, getD_drop, show p + 1 + (i - (p + 1)) = i by omega]
   exact hh
end Go.Proofs.YtkkomfomjpcbfaaDoor
end
section
namespace Go.Proofs.YtkkomfomjpcbfaaDoor.PTS
open Go.RowKit Go.Proofs.YtkkomfomjpcbfaaDoorW.PrintWords Go.Proofs.YtkkomfomjpcbfaaDoorW.PrintLast Go.Proofs.YtkkomfomjpcbfaaDoorW.PrintMore
attribute [local go_sem] kQ kO kW kV kG kF kP kN
def errW : Option Int → Value
 | none => .nilIface
 | some c => .iface 0 (.int .i64 c)
theorem errW_none : errW none = .nilIface := rfl
theorem errW_some (c : Int) : errW (some c) = .iface 0 (.int .i64 c) := rfl
theorem info4 : (Tryd.prog.info? 4).map (fun i => (i.zero, i.size, i.bytes)) = some (some (.bool false), 1, 1) := by kernel_rfl
theorem info5 : (Tryd.prog.info? 5).map (fun i => (i.zero, i.size, i.bytes)) = some (some (.int .u8 0), 1, 1) := by kernel_rfl
theorem info43 : (Tryd.prog.info? 43).map (fun i => (i.zero, i.size, i.bytes)) = some (some (.agg #[(.string ⟨#[]⟩), (.int .i64 0), (.string ⟨#[]⟩)]), 3, 40) := by kernel_rfl
def rd_L3 (xs : List (List Int)) (i : Int) : (List Int) := xs.getD i.toNat ([] : List Int)
theorem at_L3 {w : World} {A : Option Addr} {n : Nat} {xs : List (List Int)} (h : Kd.C (Kd.slice 5 (Kd.int .u8)) w A n xs) (i : Int) (h0 : 0 ≤ i) (h1 : i < n) : ∃ ad A0 c0, A = some ad ∧ w.cell? (ad.add i.toNat) = some (.slice A0 (rd_L3 xs i).length c0) ∧ (rd_L3 xs i).length ≤ c0 ∧ (Kd.int .u8).C w A0 (rd_L3 xs i).length (rd_L3 xs i) := by
 obtain ⟨ad, c, e, _, hK, hc0⟩ := Kd.C_get h ([] : List Int) i h0 h1; have hc : ∀ j u, c[j]? = some u → w.cell? (ad.add (i.toNat * 1 + j)) = some u := hc0; obtain ⟨A0, c0, rfl, l0, g0⟩ := hK
 exact ⟨ad, A0, c0, e, by have hq := hc 0 _ rfl; rwa [Nat.mul_one, Nat.add_zero] at hq, l0, g0⟩
structure S23 where
 f0 : Int
 f1 : ByteArray
def z23 : S23 := ⟨(0 : Int), (⟨#[]⟩ : ByteArray)⟩
def k23 : Kd S23 := Kd.iso (Kd.pair (Kd.int .i64) Kd.string) (fun x : S23 => (x.f0, x.f1))
theorem k23_open {w : World} {x : S23} {cs : List Value} (h : k23.K w x cs) : cs = [.int .i64 x.f0, .string x.f1] := by
 obtain ⟨_, _, rfl, rfl, rfl⟩ := h
 exact rfl
theorem k23_mkM (w : World) (base : Nat) (ok : Nat → Prop) (x : S23)  : k23.M w base ok x [.int .i64 x.f0, .string x.f1] := ⟨[.int .i64 x.f0], [.string x.f1], rfl, rfl, rfl⟩
structure S43 where
 f0 : ByteArray
 f1 : S23
def z43 : S43 := ⟨(⟨#[]⟩ : ByteArray), z23⟩
def k43 : Kd S43 := Kd.iso (Kd.pair Kd.string k23) (fun x : S43 => (x.f0, x.f1))
theorem k43_open {w : World} {x : S43} {cs : List Value} (h : k43.K w x cs) : cs = [.string x.f0, .int .i64 x.f1.f0, .string x.f1.f1] := by
 obtain ⟨_, _, rfl, rfl, s1⟩ := h; obtain rfl := k23_open s1
 exact rfl
theorem k43_mkM (w : World) (base : Nat) (ok : Nat → Prop) (x : S43)  : k43.M w base ok x [.string x.f0, .int .i64 x.f1.f0, .string x.f1.f1] := ⟨[.string x.f0], [.int .i64 x.f1.f0, .string x.f1.f1], rfl, rfl, (k23_mkM w base ok x.f1 )⟩
def rd_T43 (xs : List S43) (i : Int) : S43 := xs.getD i.toNat z43
theorem at_T43 {w : World} {A : Option Addr} {n : Nat} {xs : List S43} (h : Kd.C k43 w A n xs) (i : Int) (h0 : 0 ≤ i) (h1 : i < n) : ∃ ad , A = some ad ∧ w.cell? (ad.add (i.toNat * 3)) = some (.string (rd_T43 xs i).f0) ∧ w.cell? ⟨(ad.add (i.toNat * 3)).block, (ad.add (i.toNat * 3)).off + 1, none⟩ = some (.int .i64 (rd_T43 xs i).f1.f0) ∧ w.cell? ⟨(ad.add (i.toNat * 3)).block, (ad.add (i.toNat * 3)).off + 2, none⟩ = some (.string (rd_T43 xs i).f1.f1) := by
 obtain ⟨ad, c, e, _, hK, hc0⟩ := Kd.C_get h z43 i h0 h1; have hc : ∀ j u, c[j]? = some u → w.cell? (ad.add (i.toNat * 3 + j)) = some u := hc0; obtain rfl := k43_open hK
 exact ⟨ad, e, hc 0 _ rfl, by rw [← add_field _ _ 1 (by omega)]; exact hc 1 _ rfl, by rw [← add_field _ _ 2 (by omega)]; exact hc 2 _ rfl⟩
end Go.Proofs.YtkkomfomjpcbfaaDoor.PTS
end
section
namespace Go.Proofs.YtkkomfomjpcbfaaDoor
open Go.RowKit Go.Proofs.YtkkomfomjpcbfaaDoorW.PrintWords Go.Proofs.YtkkomfomjpcbfaaDoorW.PrintMore Go.Proofs.YtkkomfomjpcbfaaDoorW.PrintLast
attribute [local go_sem ↓] Go.wp_at_zero Go.wp_at_succ
theorem bits_or_comm (k : IntKind) (x y : Int) : bits .or k x y = bits .or k y x := by simp only [bits, BitVec.or_comm]
theorem rright_calls (x : Int) (n : Nat) (w : World) (h0 : 0 < n) (h1 : n < 32) :
  Calls Tryd.prog 76 #[.int .u32 x, .int .u64 n] w fun e w' => e = .returned (.int .u32 (Sha.rot (-(n : Int)) x)) ∧ w = w' := by
 obtain ⟨m, hm⟩ : ∃ m, m = 32 - n := ⟨_, rfl⟩
 have e1 : (32 - (n : Int)).toNat = m := by omega
 have e3 : IntKind.u64.wrap (32 - (n : Int)) = 32 - (n : Int) := by rw [IntKind.wrap_u64]; omega
 have e4 : (0 : Int) ≤ 32 - (n : Int) := by omega
 have HM := Lib.hid hm
 clear hm
 go_enter Tryd.func76, Tryd.ntmps76
 go_wp2
 go_ret
 refine ⟨?_, rfl⟩
 have e : (-(-(n : Int))).toNat = n := by omega
 unfold Sha.rot
 rw [e, ← HM.out, bits_or_comm]
 rfl
section
variable {ops : Array Oper} {rest : List Oper} {o : Oper} {a : Act} {w : World} {Q : Exit → Act → World → Prop}
theorem wl_run {P : Program} (v : Value) (hgd : o.guard = none) (hr : Sem.run P (execOp a.eval o) w = .ok (.value v) w) (h : wpList P ops Q rest (a.put o.dst v) w) : wpList P ops Q (o :: rest) a w := by
 refine wpList_plain hgd fun K hK => ?_
 unfold Oper.wp
 rw [hr]
 exact hK _ _ h
end
set_option maxRecDepth 20000 in
theorem table_calls (w : World) :
  Calls Tryd.prog 74 #[] w fun e w' => e = .returned (.agg (nums .u32 Sha.K).toArray) ∧ Below w.heap.size w w' := by
 go_enter Tryd.func74, Tryd.ntmps74
 go_upto_region 1 with fail
 obtain ⟨w1, hw1⟩ : ∃ w1, w1 = w.alloc (.cells (nums .u32 (List.replicate 64 0)).toArray 99) := ⟨_, rfl⟩
 have k1 : Blk w1 w.heap.size .u32 99 (List.replicate 64 0) := by rw [hw1]; exact kC w _
 have b1 : Below w.heap.size w w1 := by rw [hw1]; exact (Below.refl _ w).alloc (Nat.le_refl _) _
 change Code.wp _ _ _ _ (w.alloc (.cells (nums .u32 (List.replicate 64 0)).toArray 99))
 rw [← hw1]
 clear hw1
 have hsz : (Tryd.prog.info? 99).map (·.size) = some (nums .u32 Sha.K).toArray.size := by kernel_rfl
 refine wp_region_lit ?_
 refine wl_run (.agg (nums .u32 Sha.K).toArray) rfl (by kernel_rfl) ?_
 refine wpList_store_mid rfl _ _ _ rfl w.heap.size 0 (nums .u32 Sha.K).toArray rfl rfl k1.there hsz (all_oneCell_toArray (nums_one .u32 Sha.K)) ?_
 rw [List.toList_toArray]
 change wpList _ _ _ _ _ (putA w1 w.heap.size .u32 Sha.K)
 simp only [Act.put, List.setIfInBounds_toArray, List.set_cons_zero, List.set_cons_succ]
 have hfin := k1.putA (k' := .u32) (ys := Sha.K) rfl
 have HF := Lib.hid hfin
 have HB := Lib.hid (putA_below (g := w.heap.size) (k := .u32) (ys := Sha.K) b1 (Nat.le_refl _))
 generalize putA w1 w.heap.size .u32 Sha.K = w2 at HF HB ⊢
 clear hfin k1 b1
 go_wp2_with fail
 exact bodyPost_ret (results_cell_row rfl _ _ w.heap.size 99 (nums .u32 Sha.K).toArray (0, 0) _ rfl HF.out Tryd.underlying99 rfl hsz) rfl ⟨rfl, HB.out⟩
end Go.Proofs.YtkkomfomjpcbfaaDoor
end
section
namespace Go.Proofs.YtkkomfomjpcbfaaDoor
open Go Go.RowKit Go.Proofs.YtkkomfomjpcbfaaDoorW.PrintWords Go.Proofs.YtkkomfomjpcbfaaDoorW.PrintMore Go.Proofs.YtkkomfomjpcbfaaDoorW.PrintLast Bq
attribute [local go_sem ↓] Go.wp_at_zero Go.wp_at_succ
def be (xs : List Int) : Nat := xs.foldl (fun a x => a * 256 + x.toNat) 0
theorem bitsOf_snoc (xs : List Int) (x : Int) : bitsOf (xs ++ [x]) (8 * xs.length + 8) = bitsOf xs (8 * xs.length) ++ nb x.toNat 8 := by
 unfold bitsOf nb
 rw [List.range_add, List.map_append, List.map_map]
 congr 1
 ·apply List.map_congr_left
  intro i hi
  have hi : i < 8 * xs.length := List.mem_range.1 hi
  unfold bitAt
  rw [List.getD_eq_getElem?_getD, List.getD_eq_getElem?_getD, List.getElem?_append_left (by omega)]
 ·apply List.map_congr_left
  intro j hj
  have hj : j < 8 := List.mem_range.1 hj
  show bitAt (xs ++ [x]) (8 * xs.length + j) = x.toNat.testBit (8 - 1 - j)
  unfold bitAt
  have e1 : (8 * xs.length + j) / 8 = xs.length := by omega
  have e2 : 7 - (8 * xs.length + j) % 8 = 8 - 1 - j := by omega
  rw [e1, e2, List.getD_eq_getElem?_getD, List.getElem?_append_right (Nat.le_refl _), Nat.sub_self]
  rfl
theorem bnum_bytes (xs : List Int) (hb : Byts xs) : bnum (bitsOf xs (8 * xs.length)) = be xs := by
 induction xs using snoc_ind with
 | h0 => rfl
 | h1 l b ih =>
  have h1 := ih (fun x hx => hb x (List.mem_append_left _ hx))
  have h2 := hb b (List.mem_append_right _ (List.mem_singleton.2 rfl))
  rw [List.length_append, List.length_singleton, Nat.mul_add, bitsOf_snoc, bnum_append, kJ, bnum_nb, h1]
  unfold be
  rw [List.foldl_append]
  simp only [List.foldl_cons, List.foldl_nil]
  have : b.toNat % 2 ^ 8 = b.toNat := by omega
  omega
theorem pack_nb (m k : Nat) : pack (nb m (8 * (k + 1))) = m / 2 ^ (8 * k) % 256 :: pack (nb m (8 * k)) := by
 have h1 : 8 * (k + 1) = 8 + 8 * k := by omega
 rw [h1, nb_add m (8 * k) 8, pack_append 1 _ _ (by rw [kJ]), pack_short _ (by intro h; have := congrArg List.length h; rw [kJ] at this; simp at this) (by rw [kJ]; omega)]
 have h2 : byte8 (nb (m / 2 ^ (8 * k)) 8) = m / 2 ^ (8 * k) % 256 := by
  unfold byte8
  rw [bnum_nb, kJ]
  omega
 rw [h2]
 rfl
theorem big8_pack (m : Nat) : packI (nb m 64) = Sha.big8 m := by
 have h : pack (nb m 64) = (List.range 8).map fun i => m / 2 ^ (56 - 8 * i) % 256 := by
  show pack (nb m (8 * 8)) = _
  rw [pack_nb m 7, pack_nb m 6, pack_nb m 5, pack_nb m 4, pack_nb m 3, pack_nb m 2, pack_nb m 1, pack_nb m 0]
  show _ :: _ :: _ :: _ :: _ :: _ :: _ :: _ :: pack (nb m 0) = _
  rw [nb_zero, pack_nil]
  rfl
 unfold packI ints Sha.big8
 rw [h, List.map_map]
 rfl
set_option maxHeartbeats 2000000 in
theorem of_calls (w : World) (A : Option Addr) (c : Nat) (xs : List Int) (hC : (Kd.int .u8).C w A xs.length xs) (hb : Byts xs) (hl : xs.length ≤ 8) :
  Calls Tryd.prog 77 #[.slice A xs.length c] w fun e w' => e = .returned (.int .u64 (be xs : Nat)) ∧ Below w.heap.size w w' := by
 have e1 : IntKind.i64.wrap (8 * (xs.length : Int)) = ((8 * xs.length : Nat) : Int) := by rw [IntWalk.i64_in _ (by omega)]; omega
 have hbn := bnum_bytes xs hb
 have HBN := Lib.hid hbn
 have HRB := Lib.hid (rbits_calls w A c xs (8 * xs.length) hC hb (Nat.le_refl _) (by omega))
 clear hbn hC hb
 go_enter Tryd.func77, Tryd.ntmps77
 go_wp2_with (first | (go_at_call 50; refine HRB.out.mono ?_; rintro e w1 ⟨v, rfl, hR, hB⟩; obtain ⟨A1, c1, hv⟩ := Kd.R_slice hR; subst hv; have hC1 := (Kd.R_reads' hR).2.2; rw [kE] at hC1; have hN := number_calls w1 A1 c1 (bitsOf xs (8 * xs.length)) (by rw [kE]; exact hC1) (by rw [kE]; omega); have HN := Lib.hid hN; have HB1 := Lib.hid hB; clear hR hB hC1 hN) | (go_at_call 51; refine HN.out.mono ?_; rintro e w' ⟨rfl, rfl⟩))
 go_ret
 rw [← HBN.out]
 exact ⟨rfl, HB1.out⟩
set_option maxHeartbeats 2000000 in
theorem big_calls (w : World) (n : Nat) (hn : n < 18446744073709551616) :
  Calls Tryd.prog 69 #[.int .u64 n] w fun e w' => ∃ v, e = .returned v ∧ (Kd.int .u8).R 5 w' w.heap.size (fun k => w.heap.size ≤ k) v (Sha.big8 n) ∧ Below w.heap.size w w' := by
 have HP := Lib.hid (rput_calls w w.heap.size (fun k => w.heap.size ≤ k) (.slice none 0 0) [] n 64 (Kd.R_nil _ _ _ _ _) (Nat.le_refl _) (Nat.le_refl _) hn (by decide))
 go_enter Tryd.func69, Tryd.ntmps69
 go_wp2_with (first | (go_at_call 60; refine HP.out.mono ?_; rintro e w1 ⟨v, rfl, hR, hM⟩; obtain ⟨A1, c1, hv⟩ := Kd.R_slice hR; subst hv; have hC1 := (Kd.R_reads' hR).2.2; have hBy := rbytes_calls w1 A1 c1 _ hC1 (by rw [List.nil_append, kJ]; decide); have HBY := Lib.hid hBy; have HM1 := Lib.hid (Mod.below hM (Nat.le_refl _) (fun k hk => hk)); clear hR hM hC1 hBy) | (go_at_call 61; refine HBY.out.mono ?_; rintro e w2 ⟨v2, rfl, hR2, hB2⟩; have HR2 := Lib.hid hR2; have HB2 := Lib.hid hB2; clear hR2 hB2))
 go_ret
 have hs := HM1.out.size
 have h2 := HR2.out
 rw [List.nil_append, big8_pack] at h2
 exact ⟨v2, rfl, Kd.R_lower (Kd.R_mono h2 (fun k hk => Nat.le_trans hs hk)) hs, HM1.out.trans (ks HB2.out hs)⟩
end Go.Proofs.YtkkomfomjpcbfaaDoor
end
section
namespace Go.Proofs.YtkkomfomjpcbfaaDoor
open Go Go.RowKit Go.Proofs.YtkkomfomjpcbfaaDoorW.PrintWords Go.Proofs.YtkkomfomjpcbfaaDoorW.PrintMore Go.Proofs.YtkkomfomjpcbfaaDoorW.PrintLast Bq
attribute [local go_sem ↓] Go.wp_at_zero Go.wp_at_succ
theorem or_u32 (a b : Nat) (k : Nat) (hb : b < 2 ^ k) (h : a * 2 ^ k + b < 4294967296) : bits .or .u32 ((a * 2 ^ k : Nat) : Int) (b : Int) = ((a * 2 ^ k + b : Nat) : Int) := by
 have h1 : a * 2 ^ k < 2 ^ 32 := by omega
 have h2 : b < 2 ^ 32 := by omega
 rw [(bits_nat .u32 32 (by decide) (fun m a b => by rw [IntKind.wrap_u32]; omega) (a * 2 ^ k) b h1 h2).2]
 congr 1
 rw [Nat.mul_comm, ← Nat.two_pow_add_eq_or_of_lt hb]
theorem or_u32' (a b k p : Nat) (hp : 2 ^ k = p) (hb : b < p) (h : a * p + b < 4294967296) : bits .or .u32 ((a * p : Nat) : Int) (b : Int) = ((a * p + b : Nat) : Int) := by
 subst hp
 exact or_u32 a b k hb h
set_option maxRecDepth 20000 in
theorem word4 (x0 x1 x2 x3 : Nat) (h0 : x0 < 256) (h1 : x1 < 256) (h2 : x2 < 256) (h3 : x3 < 256) :
  bits .or .u32 (bits .or .u32 (bits .or .u32 ((x0 : Int) * 16777216 % 4294967296) ((x1 : Int) * 65536 % 4294967296)) ((x2 : Int) * 256 % 4294967296)) (x3 : Int) = ((((x0 * 256 + x1) * 256 + x2) * 256 + x3 : Nat) : Int) := by
 have e0 : (x0 : Int) * 16777216 % 4294967296 = ((x0 * 16777216 : Nat) : Int) := by omega
 have e1 : (x1 : Int) * 65536 % 4294967296 = ((x1 * 65536 : Nat) : Int) := by omega
 have e2 : (x2 : Int) * 256 % 4294967296 = ((x2 * 256 : Nat) : Int) := by omega
 rw [e0, e1, e2]
 clear e0 e1 e2
 obtain ⟨a, ha⟩ : ∃ a, a = x0 * 256 + x1 := ⟨_, rfl⟩
 obtain ⟨b, hb⟩ : ∃ b, b = a * 256 + x2 := ⟨_, rfl⟩
 have f2 : x0 * 16777216 + x1 * 65536 = a * 65536 := by rw [ha, Nat.add_mul, Nat.mul_assoc]
 have f4 : a * 65536 + x2 * 256 = b * 256 := by rw [hb, Nat.add_mul, Nat.mul_assoc]
 have ha2 : a < 65536 := by omega
 have hb2 : b < 16777216 := by omega
 have hl : ∀ x y p q : Nat, x < q → y < p → x * p + y < q * p := fun x y p q hx hy => by
  have := Nat.mul_le_mul_right p (Nat.succ_le_of_lt hx)
  rw [Nat.succ_mul] at this
  exact Nat.lt_of_lt_of_le (Nat.add_lt_add_left hy _) this
 have g1 : x1 * 65536 < 16777216 := by omega
 have g2 : x0 * 16777216 + x1 * 65536 < 4294967296 := hl x0 _ 16777216 256 h0 g1
 have g3 : x2 * 256 < 65536 := by omega
 have g4 : a * 65536 + x2 * 256 < 4294967296 := hl a _ 65536 65536 ha2 g3
 have g5 : b * 256 + x3 < 4294967296 := hl b x3 256 16777216 hb2 h3
 have f1 := or_u32' x0 (x1 * 65536) 24 16777216 (by simp) g1 g2
 have f3 := or_u32' a (x2 * 256) 16 65536 (by simp) g3 g4
 have f5 := or_u32' b x3 8 256 (by simp) h3 g5
 rw [f1, f2, f3, f4, f5, hb, ha]
theorem word_be (xs : List Int) (hb : Byts xs) (t : Nat) (h : 4 * t + 4 ≤ xs.length) : Sha.word xs t = (be ((xs.take (4 * t + 4)).drop (4 * t)) : Nat) := by
 obtain ⟨x0, h0⟩ : ∃ x : Nat, xs.getD (4 * t) 0 = x ∧ x < 256 := by
  have := hb.get (4 * t) (by omega)
  exact ⟨(xs.getD (4 * t) 0).toNat, by omega, by omega⟩
 obtain ⟨x1, h1⟩ : ∃ x : Nat, xs.getD (4 * t + 1) 0 = x ∧ x < 256 := by
  have := hb.get (4 * t + 1) (by omega)
  exact ⟨(xs.getD (4 * t + 1) 0).toNat, by omega, by omega⟩
 obtain ⟨x2, h2⟩ : ∃ x : Nat, xs.getD (4 * t + 2) 0 = x ∧ x < 256 := by
  have := hb.get (4 * t + 2) (by omega)
  exact ⟨(xs.getD (4 * t + 2) 0).toNat, by omega, by omega⟩
 obtain ⟨x3, h3⟩ : ∃ x : Nat, xs.getD (4 * t + 3) 0 = x ∧ x < 256 := by
  have := hb.get (4 * t + 3) (by omega)
  exact ⟨(xs.getD (4 * t + 3) 0).toNat, by omega, by omega⟩
 have hd : (xs.take (4 * t + 4)).drop (4 * t) = [(x0 : Int), x1, x2, x3] := by
  have hq : 4 * t + 4 ≤ xs.length := h
  have h0 := h0.1
  have h1 := h1.1
  have h2 := h2.1
  have h3 := h3.1
  generalize 4 * t = p at hq h0 h1 h2 h3 ⊢
  have key : ∀ k, k < 4 → ((xs.take (p + 4)).drop p)[k]? = some (xs.getD (p + k) 0) := fun k hk => by
   have hlt : p + k < xs.length := by omega
   rw [List.getElem?_drop, List.getElem?_take_of_lt (by omega), List.getD_eq_getElem?_getD, List.getElem?_eq_getElem hlt]
   rfl
  apply List.ext_getElem?
  intro i
  rcases (by omega : i = 0 ∨ i = 1 ∨ i = 2 ∨ i = 3 ∨ 4 ≤ i) with rfl | rfl | rfl | rfl | hi
  ·exact (key 0 (by decide)).trans (congrArg some h0)
  ·exact (key 1 (by decide)).trans (congrArg some h1)
  ·exact (key 2 (by decide)).trans (congrArg some h2)
  ·exact (key 3 (by decide)).trans (congrArg some h3)
  ·rw [List.getElem?_eq_none (by rw [List.length_drop, List.length_take]; omega), List.getElem?_eq_none (by simp only [List.length_cons, List.length_nil]; omega)]
 rw [hd]
 unfold Sha.word be
 rw [h0.1, h1.1, h2.1, h3.1]
 rw [word4 x0 x1 x2 x3 h0.2 h1.2 h2.2 h3.2]
 simp only [List.foldl_cons, List.foldl_nil, Int.toNat_natCast, Nat.zero_mul, Nat.zero_add]
def wst (M : List Int) (t : Nat) : List Int := if t < 16 then M.take t ++ List.replicate (64 - t) 0 else Sha.sched M (t - 16)
theorem wst_16 (M : List Int) (h : M.length = 16) : M.take 16 ++ List.replicate (64 - 16) 0 = Sha.sched M 0 := by rw [List.take_of_length_le (by omega)]; rfl
theorem wst_length (M : List Int) (h : M.length = 16) (t : Nat) : (wst M t).length = 64 := by
 unfold wst
 split
 ·rw [List.length_append, List.length_take, List.length_replicate]; omega
 ·exact Sha.sched_length M h _
theorem wst_low (M : List Int) (h : M.length = 16) (t : Nat) (ht : t < 16) : (wst M t).set t (M.getD t 0) = wst M (t + 1) := by
 unfold wst
 rw [if_pos ht, take_set M t 64 (by omega) (by omega)]
 split
 ·rfl
 ·have : t = 15 := by omega
  subst this
  exact wst_16 M h
theorem wst_high (M : List Int) (t : Nat) (ht : ¬ t < 16) : (wst M t).set t (Sha.nxt (wst M t) t) = wst M (t + 1) := by
 unfold wst
 rw [if_neg ht, if_neg (by omega)]
 obtain ⟨i, rfl⟩ : ∃ i, t = 16 + i := ⟨t - 16, by omega⟩
 rw [show 16 + i - 16 = i by omega, show 16 + i + 1 - 16 = i + 1 by omega]
 rfl
end Go.Proofs.YtkkomfomjpcbfaaDoor
end
section
namespace Go.Proofs.YtkkomfomjpcbfaaDoor
open Go Go.RowKit Go.Proofs.YtkkomfomjpcbfaaDoorW.PrintWords Go.Proofs.YtkkomfomjpcbfaaDoorW.PrintMore Go.Proofs.YtkkomfomjpcbfaaDoorW.PrintLast Bq
attribute [local go_sem ↓] Go.wp_at_zero Go.wp_at_succ
theorem rrightZ_calls (x N : Int) (w : World) (hN : N ∈ ([7, 18, 17, 19, 6, 11, 25, 2, 13, 22] : List Int)) :
  Calls Tryd.prog 76 #[.int .u32 x, .int .u64 N] w fun e w' => e = .returned (.int .u32 (Sha.rot (-N) x)) ∧ w = w' := by
 have h : ∀ M ∈ ([7, 18, 17, 19, 6, 11, 25, 2, 13, 22] : List Int), 0 < M ∧ M < 32 := by decide
 obtain ⟨h0, h1⟩ := h N hN
 obtain ⟨n, rfl⟩ := Int.eq_ofNat_of_zero_le (show 0 ≤ N by omega)
 exact rright_calls x n w (by omega) (by omega)
structure Wst (w wr : World) (L : List Int) : Prop where
 r : Blk wr w.heap.size .u32 99 (List.replicate 64 0)
 o : Blk wr (w.heap.size + 1) .u32 99 L
 b : Below w.heap.size w wr
theorem Wst.size {w wr : World} {L : List Int} (h : Wst w wr L) : w.heap.size + 2 ≤ wr.heap.size := ky h.o
theorem Wst.drew {w wr : World} {L : List Int} (h : Wst w wr L) : Wst w wr.drew L := ⟨h.r, h.o, h.b.drew⟩
theorem Wst.below {w wr w1 : World} {L : List Int} (h : Wst w wr L) (hb : Below wr.heap.size wr w1) : Wst w w1 L :=
 ⟨(hb.block _ (ky h.r)).trans h.r, (hb.block _ (ky h.o)).trans h.o, h.b.trans (ks hb (by have := h.size; omega))⟩
theorem Wst.set {w wr : World} {L L' : List Int} (h : Wst w wr L) (i : Nat) (x : Int) (e : L.set i x = L') : Wst w (wr.setCell ⟨w.heap.size + 1, i, none⟩ (.int .u32 x)) L' :=
 ⟨Blk.other h.r (by omega), Blk.cast (Blk.put h.o i x) e, h.b.setCell (p := ⟨w.heap.size + 1, i, none⟩) (Nat.le_succ _) _⟩
set_option maxRecDepth 20000 in
set_option maxHeartbeats 4000000 in
theorem words_calls (w : World) (A : Option Addr) (m c : Nat) (xs : List Int) (hC : (Kd.int .u8).C w A m xs) (hm : 64 ≤ m) (hmc : m ≤ c) (hb : Byts xs) :
  Calls Tryd.prog 75 #[.slice A m c] w fun e w' => e = .returned (.agg (nums .u32 (Sha.sched (Sha.wordsOf xs) 48)).toArray) ∧ Below w.heap.size w w' := by
 have HC := Lib.hid hC
 have HB := Lib.hid hb
 have hmx : xs.length = m := hC.1
 obtain ⟨M, hM⟩ : ∃ M, M = Sha.wordsOf xs := ⟨_, rfl⟩
 have hMl : M.length = 16 := by rw [hM, Sha.wordsOf_length]
 rw [← hM]
 have HM := Lib.hid hM
 have HML := Lib.hid hMl
 clear hC hb hM hMl
 go_enter Tryd.func75, Tryd.ntmps75
 go_upto_region 2 with fail
 obtain ⟨w2, hw2⟩ : ∃ w2, w2 = ((w.alloc (.cells (nums .u32 (List.replicate 64 0)).toArray 99)).alloc (.cells (nums .u32 (List.replicate 64 0)).toArray 99)) := ⟨_, rfl⟩
 have k2 : Wst w w2 (wst M 0) := by
  rw [hw2]
  refine ⟨kd (kC w _) _, ?_, ((Below.refl _ w).alloc (Nat.le_refl _) _).alloc (by simp) _⟩
  have h := kC (w.alloc (.cells (nums .u32 (List.replicate 64 0)).toArray 99)) (.cells (nums .u32 (List.replicate 64 0)).toArray 99)
  rw [World.size_alloc] at h
  exact h
 change Code.wp _ _ _ _ ((w.alloc (.cells (nums .u32 (List.replicate 64 0)).toArray 99)).alloc (.cells (nums .u32 (List.replicate 64 0)).toArray 99))
 rw [← hw2]
 have K2 := Lib.hid k2
 clear hw2 k2
 go_wp2_with fail
 go_loopg [7] 64 (fun kq s7 wr => ∃ t : Nat, t + kq = 64 ∧ s7 = .int .i64 t ∧ Hid (Wst w wr (wst M t)))
 case atStart => exact ⟨0, by omega, rfl, K2.out⟩
 case round =>
  obtain ⟨t, ht, rfl, hK⟩ := hrel
  by_cases hlt : t < 64
  ·by_cases h16 : t < 16
   ·obtain ⟨ys, hys⟩ : ∃ ys, ys = (xs.take (4 * t + 4)).drop (4 * t) := ⟨_, rfl⟩
    have hysl : ys.length = 4 := by rw [hys, List.length_drop, List.length_take]; omega
    have hby : Byts ys := fun x hx => by
     rw [hys] at hx
     exact HB.out x (List.mem_of_mem_take (List.mem_of_mem_drop hx))
    have hCy : (Kd.int .u8).C wr (A.map (·.add (4 * t))) ys.length ys := by
     have hcx : (Kd.int .u8).C wr A xs.length xs := by rw [hmx]; exact Kd.C_below HC.out hK.out.b
     have h := Kd.C_mid (lo := 4 * t) (hi := 4 * t + 4) hcx (by omega) (by omega) (by rw [hmx]; exact hmc)
     have e1 : 4 * t * (Kd.int .u8).sz = 4 * t := Nat.mul_one _
     rw [if_neg (by omega), e1, ← hys] at h
     exact h
    have hOF := of_calls wr (A.map (·.add (4 * t))) (c - 4 * t) ys hCy hby (by omega)
    rw [hysl] at hOF
    obtain ⟨y, hy⟩ : ∃ y, y = Sha.word xs t := ⟨_, rfl⟩
    have hyb : y = (be ys : Nat) := by rw [hy, hys]; exact word_be xs HB.out t (by omega)
    have hyr : ((be ys : Nat) : Int) < 4294967296 := by
     have h4 : be ys < 2 ^ (8 * 4) := by
      rw [← bnum_bytes ys hby, hysl]
      have := bnum_lt (bitsOf ys (8 * 4))
      rw [kE] at this
      exact this
     omega
    have e0 : IntKind.u32.wrap ((be ys : Nat) : Int) = y := by rw [IntKind.wrap_u32, hyb]; omega
    rw [← hyb] at hOF e0
    have HOF := Lib.hid hOF
    have HY := Lib.hid hy
    clear hOF hy hyb hyr hby hCy hys hysl
    have f0 : IntKind.i64.wrap (4 * (t : Int)) = 4 * (t : Int) := IntWalk.i64_in _ (by omega)
    have f1 : IntKind.i64.wrap (4 * (t : Int) + 4) = 4 * (t : Int) + 4 := IntWalk.i64_in _ (by omega)
    have g0 : (4 * (t : Int)).toNat = 4 * t := by omega
    have g1 : (4 * (t : Int) + 4).toNat = 4 * t + 4 := by omega
    have i0 : (0 : Int) ≤ 4 * (t : Int) := by omega
    have i1 : (0 : Int) ≤ 4 * (t : Int) + 4 := by omega
    have i2 : 4 * (t : Int) ≤ 4 * (t : Int) + 4 := by omega
    have i3 : 4 * (t : Int) + 4 ≤ (c : Int) := by omega
    have i4 : ¬ c = 4 * t := by omega
    have l0 : (t : Int) < 64 := by omega
    have l1 : (t : Int) < 16 := by omega
    go_upto_region 6 with fail
    have i5 : 4 * t + 4 - 4 * t = 4 := by omega
    go_wp2_with (go_at_call 77; refine HOF.out.mono ?_; rintro e w5 ⟨rfl, hB5⟩; have K5 := Lib.hid (hK.out.below hB5); clear hB5; have t0 := K5.out.o.get t (by rw [wst_length M HML.out]; exact hlt); have t1 := K5.out.o.free t)
    go_roundg (gk - 1)
    case measure => omega
    case rel =>
     refine ⟨t + 1, by omega, by go_num, K5.out.set t y ?_⟩
     have hyM : y = M.getD t 0 := by
      rw [HY.out, HM.out, List.getD_eq_getElem?_getD]
      unfold Sha.wordsOf
      rw [List.getElem?_map, List.getElem?_range h16]
      rfl
     rw [hyM, wst_low M HML.out t h16]
   ·obtain ⟨L, hL⟩ : ∃ L, L = wst M t := ⟨_, rfl⟩
    have hLl : L.length = 64 := by rw [hL]; exact wst_length M HML.out t
    rw [← hL] at hK
    have HL := Lib.hid hL
    have HLL := Lib.hid hLl
    obtain ⟨q15, hq15⟩ : ∃ q, q = t - 15 := ⟨_, rfl⟩
    obtain ⟨q2, hq2⟩ : ∃ q, q = t - 2 := ⟨_, rfl⟩
    obtain ⟨q16, hq16⟩ : ∃ q, q = t - 16 := ⟨_, rfl⟩
    obtain ⟨q7, hq7⟩ : ∃ q, q = t - 7 := ⟨_, rfl⟩
    obtain ⟨y15, hy15⟩ : ∃ y, y = L.getD q15 0 := ⟨_, rfl⟩
    obtain ⟨y2, hy2⟩ : ∃ y, y = L.getD q2 0 := ⟨_, rfl⟩
    obtain ⟨y16, hy16⟩ : ∃ y, y = L.getD q16 0 := ⟨_, rfl⟩
    obtain ⟨y7, hy7⟩ : ∃ y, y = L.getD q7 0 := ⟨_, rfl⟩
    have HN : Hid (Sha.nxt L t = Sha.add (Sha.add (Sha.add y16 (Sha.x2 (Sha.x2 (Sha.rot (-7) y15) (Sha.rot (-18) y15)) (y15 / 8))) y7) (Sha.x2 (Sha.x2 (Sha.rot (-17) y2) (Sha.rot (-19) y2)) (y2 / 1024))) := by rw [hy15, hy2, hy16, hy7, hq16, hq7, hq15, hq2]; exact rfl
    have CC : Hid (∀ W L', L'.length = 64 → (∀ q, q < t → L'.getD q 0 = L.getD q 0) → Wst w W L' → W.cell? ⟨w.heap.size + 1, q15, none⟩ = some (.int .u32 y15) ∧ W.cell? ⟨w.heap.size + 1, q2, none⟩ = some (.int .u32 y2) ∧ W.cell? ⟨w.heap.size + 1, q16, none⟩ = some (.int .u32 y16) ∧ W.cell? ⟨w.heap.size + 1, q7, none⟩ = some (.int .u32 y7)) := Lib.hid (fun W L' hl he hW => by
     refine ⟨?_, ?_, ?_, ?_⟩
     ·rw [hW.o.get q15 (by omega), he q15 (by omega), ← hy15]
     ·rw [hW.o.get q2 (by omega), he q2 (by omega), ← hy2]
     ·rw [hW.o.get q16 (by omega), he q16 (by omega), ← hy16]
     ·rw [hW.o.get q7 (by omega), he q7 (by omega), ← hy7])
    have s15 : IntKind.i64.wrap ((t : Int) - 15) = (q15 : Int) := by rw [IntWalk.i64_in _ (by omega)]; omega
    have s2 : IntKind.i64.wrap ((t : Int) - 2) = (q2 : Int) := by rw [IntWalk.i64_in _ (by omega)]; omega
    have s16 : IntKind.i64.wrap ((t : Int) - 16) = (q16 : Int) := by rw [IntWalk.i64_in _ (by omega)]; omega
    have s7 : IntKind.i64.wrap ((t : Int) - 7) = (q7 : Int) := by rw [IntWalk.i64_in _ (by omega)]; omega
    have m15 : (q15 : Int) < 64 := by omega
    have m2 : (q2 : Int) < 64 := by omega
    have m16 : (q16 : Int) < 64 := by omega
    have m7 : (q7 : Int) < 64 := by omega
    have HQ : Hid (q16 ≠ t ∧ q7 ≠ t ∧ q15 ≠ t ∧ q2 ≠ t) := Lib.hid (by omega)
    have l0 : (t : Int) < 64 := by omega
    have l1 : ¬ (t : Int) < 16 := by omega
    have hw32 : ∀ x, IntKind.u32.wrap x = x % 4294967296 := IntKind.wrap_u32
    clear hy15 hy2 hy16 hy7 hq15 hq2 hq16 hq7 hL
    go_upto_region 7 with fail
    have KD := Lib.hid hK.out.drew
    have c15 := (CC.out _ L hLl (fun _ _ => rfl) KD.out).1
    go_region_held3 (fun W => W.cell? ⟨w.heap.size + 1, q15, none⟩ = some (.int .u32 y15)) (first | assumption) (first | (go_at_call 76; refine (rrightZ_calls _ _ _ (by decide)).mono ?_; rintro e w' ⟨rfl, rfl⟩))
    clear c15
    generalize wr.drew = w7 at KD ⊢
    go_upto_region 8 with fail
    have KE := Lib.hid KD.out.drew
    have c2 := (CC.out _ L hLl (fun _ _ => rfl) KE.out).2.1
    go_region_held3 (fun W => W.cell? ⟨w.heap.size + 1, q2, none⟩ = some (.int .u32 y2)) (first | assumption) (first | (go_at_call 76; refine (rrightZ_calls _ _ _ (by decide)).mono ?_; rintro e w' ⟨rfl, rfl⟩))
    clear c2
    generalize w7.drew = w8 at KE ⊢
    go_upto_region 9 with fail
    have KG := Lib.hid KE.out.drew
    have c16 := (CC.out _ L hLl (fun _ _ => rfl) KG.out).2.2
    have ct := KG.out.o.get t (by omega)
    have zt := KG.out.o.free t
    have HS9 : Hid (∀ v, ((w8.drew).setCell ⟨w.heap.size + 1, t, none⟩ v).cell? ⟨w.heap.size + 1, q16, none⟩ = some (.int .u32 y16) ∧ ((w8.drew).setCell ⟨w.heap.size + 1, t, none⟩ v).cell? ⟨w.heap.size + 1, q7, none⟩ = some (.int .u32 y7)) := Lib.hid (fun v =>
     ⟨(World.cell?_setCell_other _ _ _ _ (fun e => HQ.out.1 (by have h := congrArg Addr.off e; have h2 : t = q16 ∨ q16 = t := (by first | exact .inl h | exact .inr h); omega))).trans c16.1, (World.cell?_setCell_other _ _ _ _ (fun e => HQ.out.2.1 (by have h := congrArg Addr.off e; have h2 : t = q7 ∨ q7 = t := (by first | exact .inl h | exact .inr h); omega))).trans c16.2⟩)
    go_region_held3 (fun W => W.cell? ⟨w.heap.size + 1, q16, none⟩ = some (.int .u32 y16) ∧ W.cell? ⟨w.heap.size + 1, q7, none⟩ = some (.int .u32 y7)) (first | with_reducible assumption | exact HS9.out _) (fail)
    go_wp2_with fail
    go_roundg (gk - 1)
    case measure => omega
    case rel =>
     refine ⟨t + 1, by omega, by go_num, ?_⟩
     have hset : L.set t (Sha.nxt L t) = wst M (t + 1) := by rw [HL.out]; exact wst_high M t h16
     rw [HN.out] at hset
     refine KG.out.set t _ (Eq.trans ?_ hset)
     congr 1
     simp only [Sha.add, Sha.x2]
     omega
  ·have ht64 : t = 64 := by omega
   subst ht64
   have hW : wst M 64 = Sha.sched M 48 := rfl
   have hK6 := hK.out
   rw [hW] at hK6
   obtain ⟨S, hS⟩ : ∃ S, S = Sha.sched M 48 := ⟨_, rfl⟩
   have hSl : S.length = 64 := by rw [hS]; exact Sha.sched_length M HML.out 48
   rw [← hS] at hK6
   have HK6 := Lib.hid hK6
   have HS := Lib.hid hS
   clear hK6 hS hW hlt ht
   go_upto_region 11 with fail
   have hl9 : (nums .u32 S).length = 64 := by rw [nums_length, hSl]
   have hfin : Hid (Blk (putA wr w.heap.size .u32 S) w.heap.size .u32 99 S) := Lib.hid (HK6.out.r.putA (by rw [hSl]; rfl))
   have hbel : Hid (Below w.heap.size w (putA wr w.heap.size .u32 S)) := Lib.hid (putA_below HK6.out.b (Nat.le_refl _))
   have hth : wr.there w.heap.size 0 (nums .u32 S).toArray.size := by
    have e : (nums .u32 S).toArray.size = 64 := by rw [List.size_toArray, hl9]
    rw [e]
    exact HK6.out.r.there
   have hsz9 : (Tryd.prog.info? 99).map (·.size) = some (nums .u32 S).toArray.size := by
    have e : (nums .u32 S).toArray.size = 64 := by rw [List.size_toArray, hl9]
    have e2 : (Tryd.prog.info? 99).map (·.size) = some 64 := by kernel_rfl
    rw [e]
    exact e2
   refine wp_region_lit ?_
   refine wpList_load_mid rfl _ _ rfl (w.heap.size + 1) 0 rfl (nums .u32 S) _ HK6.out.o.range Tryd.underlying99 rfl (by rw [hl9]; kernel_rfl) ?_
   refine wpList_store_mid rfl _ _ _ rfl w.heap.size 0 (nums .u32 S).toArray rfl rfl hth hsz9 (all_oneCell_toArray (nums_one .u32 S)) ?_
   rw [List.toList_toArray]
   change wpList _ _ _ _ _ (putA wr w.heap.size .u32 S)
   go_wp2_with fail
   refine bodyPost_ret (results_cell_row rfl _ _ w.heap.size 99 (nums .u32 S).toArray (0, 0) _ rfl hfin.out Tryd.underlying99 rfl hsz9) rfl ⟨?_, hbel.out⟩
   rw [HS.out]
end Go.Proofs.YtkkomfomjpcbfaaDoor
end
