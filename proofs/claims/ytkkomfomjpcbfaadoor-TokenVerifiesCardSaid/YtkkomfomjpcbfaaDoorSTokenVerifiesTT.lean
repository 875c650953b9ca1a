import Derived.Test.YtkkomfomjpcbfaaDoorSTokenVerifiesG0
import Derived.Test.YtkkomfomjpcbfaaDoorProg
import Derived.Below
import Derived.Deep.Draws
import Derived.Deep.AppendLies
import Derived.Maps.AppendAt
import Derived.OwnWalk
import Derived.Laws.BytesArg
import Derived.Laws.MakeOwn
import Derived.Laws.OwnMore
import Derived.Deep.OwnRows
import Derived.Tactics
import Derived.Lib.ConvBytes
import Derived.Laws.Slices
import Derived.WalkKit
import Derived.KernelRfl
import Derived.RowKit3
import Derived.Deep.LoopGhost
import Derived.Deep.QuietTactic
import Derived.BigQuiet
import Derived.WideLaws
import Derived.Deep.DeepCutAuto
import Derived.Deep.CutBlock
import Derived.Deep.RegionHeld3
import Derived.Laws.Rows
import Derived.Lib.AppendStr
import Derived.ArgAppend
import Derived.Laws.IdiomCopy
import Derived.OrdersHeld
import Derived.Laws.BitsLemmas
import Derived.RowKit
import Derived.Test.YtkkomfomjpcbfaaDoorSTokenVerifiesWGuard
import Derived.Test.YtkkomfomjpcbfaaDoorSTokenVerifiesWWords
import Derived.Test.YtkkomfomjpcbfaaDoorSTokenVerifiesY
import Derived.Laws.RangeAny
import Derived.Test.YtkkomfomjpcbfaaDoorSTokenVerifiesH2r
set_option linter.unusedVariables false
set_option linter.unusedSimpArgs false
section
namespace Go.Proofs.YtkkomfomjpcbfaaDoor
open Go Go.RowKit Go.Proofs.YtkkomfomjpcbfaaDoorW.PrintWords
def fstB (c : Int) : Bool := (decide (97 ≤ c) && decide (c ≤ 122)) || (decide (65 ≤ c) && decide (c ≤ 90)) || (c == 95)
def letB (c : Int) : Bool := fstB c || (decide (48 ≤ c) && decide (c ≤ 57))
theorem letB_high {c : Int} (h : 128 ≤ c) : letB c = false := by
 unfold letB fstB
 have h1 : decide (c ≤ 122) = false := decide_eq_false (by omega)
 have h2 : decide (c ≤ 90) = false := decide_eq_false (by omega)
 have h3 : decide (c ≤ 57) = false := decide_eq_false (by omega)
 have h4 : (c == 95) = false := beq_eq_false_iff_ne.mpr (by omega)
 simp [h1, h2, h3, h4]
def namedB (l : List UInt8) : Bool := !l.isEmpty && decide (l.length ≤ 64) && l.all (fun b => letB b.toNat) && fstB (l.getD 0 0).toNat
theorem namedB_letters {l : List UInt8} (h : namedB l = true) : l ≠ [] ∧ l.length ≤ 64 ∧ (∀ b ∈ l, letB b.toNat = true) ∧ fstB (l.getD 0 0).toNat = true := by
 unfold namedB at h
 simp only [Bool.and_eq_true, List.all_eq_true, decide_eq_true_eq, Bool.not_eq_true', List.isEmpty_eq_false_iff] at h
 exact ⟨h.1.1.1, h.1.1.2, h.1.2, h.2⟩
theorem namedB_no {l : List UInt8} {i : Nat} (hi : i < l.length) (h : letB (l.getD i 0).toNat = false ∨ (i = 0 ∧ fstB (l.getD 0 0).toNat = false)) : namedB l = false := by
 cases hn : namedB l with
 | false => rfl
 | true =>
  exfalso
  obtain ⟨_, _, h1, h2⟩ := namedB_letters hn
  rcases h with h | ⟨_, h⟩
  ·have := h1 (l.getD i 0) (by rw [List.getD_eq_getElem?_getD, List.getElem?_eq_getElem hi]; exact List.getElem_mem hi)
   rw [h] at this
   cases this
  ·rw [h2] at h
   cases h
theorem namedB_yes {l : List UInt8} (h0 : 0 < l.length) (h1 : l.length ≤ 64) (h2 : ∀ i, i < l.length → letB (l.getD i 0).toNat = true) (h3 : fstB (l.getD 0 0).toNat = true) : namedB l = true := by
 unfold namedB
 simp only [Bool.and_eq_true, List.all_eq_true, decide_eq_true_eq, Bool.not_eq_true', List.isEmpty_eq_false_iff]
 refine ⟨⟨⟨List.length_pos_iff.1 h0, h1⟩, fun b hb => ?_⟩, h3⟩
 obtain ⟨i, hi, rfl⟩ := List.getElem_of_mem hb
 have := h2 i hi
 rwa [List.getD_eq_getElem?_getD, List.getElem?_eq_getElem hi] at this
theorem namedB_long {l : List UInt8} (h : 64 < l.length) : namedB l = false := by
 unfold namedB
 rw [decide_eq_false (by omega)]
 simp
theorem byte_at (s : ByteArray) (i : Nat) (h : i < s.size) : s[i] = s.data.toList.getD i 0 := by
 rw [List.getD_eq_getElem?_getD, List.getElem?_eq_getElem (by rw [kM]; exact h)]
 simp
 rfl
end Go.Proofs.YtkkomfomjpcbfaaDoor
end
section
namespace Go.Proofs.YtkkomfomjpcbfaaDoor.PLA
open Go.RowKit Go.Proofs.YtkkomfomjpcbfaaDoorW.PrintWords Go.Proofs.YtkkomfomjpcbfaaDoorW.PrintLast Go.Proofs.YtkkomfomjpcbfaaDoorW.PrintMore
attribute [local go_sem] kQ kO kW kV kG kF kP kN
def errW : Option Int → Value
 | none => .nilIface
 | some c => .iface 0 (.int .i64 c)
theorem errW_none : errW none = .nilIface := rfl
theorem errW_some (c : Int) : errW (some c) = .iface 0 (.int .i64 c) := rfl
end Go.Proofs.YtkkomfomjpcbfaaDoor.PLA
end
section
namespace Go.Proofs.YtkkomfomjpcbfaaDoor.PLA
open Go.RowKit Go.Proofs.YtkkomfomjpcbfaaDoorW.PrintWords Go.Proofs.YtkkomfomjpcbfaaDoorW.PrintLast Go.Proofs.YtkkomfomjpcbfaaDoorW.PrintMore
attribute [local go_sem] kQ kO kW kV kG kF kP kN
def labels_letter.f (a0 : Int) : Option (Bool × Bool) := if a0 ≥ 97 then (if a0 ≤ 122 then (some (true, true)) else (if a0 ≥ 65 then (if a0 ≤ 90 then (some (true, true)) else (if a0 = 95 then (some (true, (a0 == 95))) else (if a0 ≥ 48 then (some (decide (a0 ≤ 57), (a0 == 95))) else (some (false, (a0 == 95)))))) else (if a0 = 95 then (some (true, (a0 == 95))) else (if a0 ≥ 48 then (some (decide (a0 ≤ 57), (a0 == 95))) else (some (false, (a0 == 95))))))) else (if a0 ≥ 65 then (if a0 ≤ 90 then (some (true, true)) else (if a0 = 95 then (some (true, (a0 == 95))) else (if a0 ≥ 48 then (some (decide (a0 ≤ 57), (a0 == 95))) else (some (false, (a0 == 95)))))) else (if a0 = 95 then (some (true, (a0 == 95))) else (if a0 ≥ 48 then (some (decide (a0 ≤ 57), (a0 == 95))) else (some (false, (a0 == 95))))))
set_option maxHeartbeats 8000000 in
set_option maxRecDepth 100000 in
theorem labels_letter.calls (a0 : Int) (r1 : Bool) (r2 : Bool) (w : World) (h : labels_letter.f a0 = some (r1, r2)) :
  Calls Tryd.prog 54 #[.int .i32 a0] w fun e w' => e = .returned (.tuple #[.bool r1, .bool r2]) ∧ Drawn0 w w' := by
 have H : (if a0 ≥ 97 then (if a0 ≤ 122 then (some (true, true)) else (if a0 ≥ 65 then (if a0 ≤ 90 then (some (true, true)) else (if a0 = 95 then (some (true, (a0 == 95))) else (if a0 ≥ 48 then (some (decide (a0 ≤ 57), (a0 == 95))) else (some (false, (a0 == 95)))))) else (if a0 = 95 then (some (true, (a0 == 95))) else (if a0 ≥ 48 then (some (decide (a0 ≤ 57), (a0 == 95))) else (some (false, (a0 == 95))))))) else (if a0 ≥ 65 then (if a0 ≤ 90 then (some (true, true)) else (if a0 = 95 then (some (true, (a0 == 95))) else (if a0 ≥ 48 then (some (decide (a0 ≤ 57), (a0 == 95))) else (some (false, (a0 == 95)))))) else (if a0 = 95 then (some (true, (a0 == 95))) else (if a0 ≥ 48 then (some (decide (a0 ≤ 57), (a0 == 95))) else (some (false, (a0 == 95))))))) = some (r1, r2) := h; clear h
 by_cases c2 : a0 ≥ 97
 ·rw [if_pos c2] at H; have c2b0 : decide (97 ≤ a0) = true := decide_eq_true c2; clear c2
  by_cases c3 : a0 ≤ 122
  ·rw [if_pos c3] at H; have c3b0 : decide (a0 ≤ 122) = true := decide_eq_true c3; clear c3; simp only [Option.some.injEq, Prod.mk.injEq] at H; obtain ⟨rfl, rfl⟩ := H; go_enter Tryd.func54, Tryd.ntmps54
   go_wp2
   go_ret2
   exact ⟨y24_, y6_⟩
  ·rw [if_neg c3] at H; have c3b0 : decide (a0 ≤ 122) = false := decide_eq_false c3; clear c3
   by_cases c4 : a0 ≥ 65
   ·rw [if_pos c4] at H; have c4b0 : decide (65 ≤ a0) = true := decide_eq_true c4; clear c4
    by_cases c5 : a0 ≤ 90
    ·rw [if_pos c5] at H; have c5b0 : decide (a0 ≤ 90) = true := decide_eq_true c5; clear c5; simp only [Option.some.injEq, Prod.mk.injEq] at H; obtain ⟨rfl, rfl⟩ := H; go_enter Tryd.func54, Tryd.ntmps54
     go_wp2
     go_ret2
     exact ⟨y24_, y6_⟩
    ·rw [if_neg c5] at H; have c5b0 : decide (a0 ≤ 90) = false := decide_eq_false c5; clear c5
     by_cases c6 : a0 = 95
     ·rw [if_pos c6] at H; have c6b0 : (a0 == 95) = true := beq_iff_eq.mpr c6; have c6b1 : (a0 != 95) = false := bne_eq_false_iff_eq.mpr c6; clear c6; simp only [Option.some.injEq, Prod.mk.injEq] at H; obtain ⟨rfl, rfl⟩ := H; go_enter Tryd.func54, Tryd.ntmps54
      go_wp2
      go_ret2
      exact ⟨y24_, y6_⟩
     ·rw [if_neg c6] at H; have c6b0 : (a0 == 95) = false := beq_eq_false_iff_ne.mpr c6; have c6b1 : (a0 != 95) = true := bne_iff_ne.mpr c6
      by_cases c7 : a0 ≥ 48
      ·rw [if_pos c7] at H; have c7b0 : decide (48 ≤ a0) = true := decide_eq_true c7; clear c7; simp only [Option.some.injEq, Prod.mk.injEq] at H; obtain ⟨rfl, rfl⟩ := H; go_enter Tryd.func54, Tryd.ntmps54
       go_wp2
       go_ret2
       exact ⟨y24_, y6_⟩
      ·rw [if_neg c7] at H; have c7b0 : decide (48 ≤ a0) = false := decide_eq_false c7; clear c7; simp only [Option.some.injEq, Prod.mk.injEq] at H; obtain ⟨rfl, rfl⟩ := H; go_enter Tryd.func54, Tryd.ntmps54
       go_wp2
       go_ret2
       exact ⟨y24_, y6_⟩
   ·rw [if_neg c4] at H; have c4b0 : decide (65 ≤ a0) = false := decide_eq_false c4; clear c4
    by_cases c8 : a0 = 95
    ·rw [if_pos c8] at H; have c8b0 : (a0 == 95) = true := beq_iff_eq.mpr c8; have c8b1 : (a0 != 95) = false := bne_eq_false_iff_eq.mpr c8; clear c8; simp only [Option.some.injEq, Prod.mk.injEq] at H; obtain ⟨rfl, rfl⟩ := H; go_enter Tryd.func54, Tryd.ntmps54
     go_wp2
     go_ret2
     exact ⟨y24_, y6_⟩
    ·rw [if_neg c8] at H; have c8b0 : (a0 == 95) = false := beq_eq_false_iff_ne.mpr c8; have c8b1 : (a0 != 95) = true := bne_iff_ne.mpr c8
     by_cases c9 : a0 ≥ 48
     ·rw [if_pos c9] at H; have c9b0 : decide (48 ≤ a0) = true := decide_eq_true c9; clear c9; simp only [Option.some.injEq, Prod.mk.injEq] at H; obtain ⟨rfl, rfl⟩ := H; go_enter Tryd.func54, Tryd.ntmps54
      go_wp2
      go_ret2
      exact ⟨y24_, y6_⟩
     ·rw [if_neg c9] at H; have c9b0 : decide (48 ≤ a0) = false := decide_eq_false c9; clear c9; simp only [Option.some.injEq, Prod.mk.injEq] at H; obtain ⟨rfl, rfl⟩ := H; go_enter Tryd.func54, Tryd.ntmps54
      go_wp2
      go_ret2
      exact ⟨y24_, y6_⟩
 ·rw [if_neg c2] at H; have c2b0 : decide (97 ≤ a0) = false := decide_eq_false c2; clear c2
  by_cases c10 : a0 ≥ 65
  ·rw [if_pos c10] at H; have c10b0 : decide (65 ≤ a0) = true := decide_eq_true c10; clear c10
   by_cases c11 : a0 ≤ 90
   ·rw [if_pos c11] at H; have c11b0 : decide (a0 ≤ 90) = true := decide_eq_true c11; clear c11; simp only [Option.some.injEq, Prod.mk.injEq] at H; obtain ⟨rfl, rfl⟩ := H; go_enter Tryd.func54, Tryd.ntmps54
    go_wp2
    go_ret2
    exact ⟨y24_, y6_⟩
   ·rw [if_neg c11] at H; have c11b0 : decide (a0 ≤ 90) = false := decide_eq_false c11; clear c11
    by_cases c12 : a0 = 95
    ·rw [if_pos c12] at H; have c12b0 : (a0 == 95) = true := beq_iff_eq.mpr c12; have c12b1 : (a0 != 95) = false := bne_eq_false_iff_eq.mpr c12; clear c12; simp only [Option.some.injEq, Prod.mk.injEq] at H; obtain ⟨rfl, rfl⟩ := H; go_enter Tryd.func54, Tryd.ntmps54
     go_wp2
     go_ret2
     exact ⟨y24_, y6_⟩
    ·rw [if_neg c12] at H; have c12b0 : (a0 == 95) = false := beq_eq_false_iff_ne.mpr c12; have c12b1 : (a0 != 95) = true := bne_iff_ne.mpr c12
     by_cases c13 : a0 ≥ 48
     ·rw [if_pos c13] at H; have c13b0 : decide (48 ≤ a0) = true := decide_eq_true c13; clear c13; simp only [Option.some.injEq, Prod.mk.injEq] at H; obtain ⟨rfl, rfl⟩ := H; go_enter Tryd.func54, Tryd.ntmps54
      go_wp2
      go_ret2
      exact ⟨y24_, y6_⟩
     ·rw [if_neg c13] at H; have c13b0 : decide (48 ≤ a0) = false := decide_eq_false c13; clear c13; simp only [Option.some.injEq, Prod.mk.injEq] at H; obtain ⟨rfl, rfl⟩ := H; go_enter Tryd.func54, Tryd.ntmps54
      go_wp2
      go_ret2
      exact ⟨y24_, y6_⟩
  ·rw [if_neg c10] at H; have c10b0 : decide (65 ≤ a0) = false := decide_eq_false c10; clear c10
   by_cases c14 : a0 = 95
   ·rw [if_pos c14] at H; have c14b0 : (a0 == 95) = true := beq_iff_eq.mpr c14; have c14b1 : (a0 != 95) = false := bne_eq_false_iff_eq.mpr c14; clear c14; simp only [Option.some.injEq, Prod.mk.injEq] at H; obtain ⟨rfl, rfl⟩ := H; go_enter Tryd.func54, Tryd.ntmps54
    go_wp2
    go_ret2
    exact ⟨y24_, y6_⟩
   ·rw [if_neg c14] at H; have c14b0 : (a0 == 95) = false := beq_eq_false_iff_ne.mpr c14; have c14b1 : (a0 != 95) = true := bne_iff_ne.mpr c14
    by_cases c15 : a0 ≥ 48
    ·rw [if_pos c15] at H; have c15b0 : decide (48 ≤ a0) = true := decide_eq_true c15; clear c15; simp only [Option.some.injEq, Prod.mk.injEq] at H; obtain ⟨rfl, rfl⟩ := H; go_enter Tryd.func54, Tryd.ntmps54
     go_wp2
     go_ret2
     exact ⟨y24_, y6_⟩
    ·rw [if_neg c15] at H; have c15b0 : decide (48 ≤ a0) = false := decide_eq_false c15; clear c15; simp only [Option.some.injEq, Prod.mk.injEq] at H; obtain ⟨rfl, rfl⟩ := H; go_enter Tryd.func54, Tryd.ntmps54
     go_wp2
     go_ret2
     exact ⟨y24_, y6_⟩
end Go.Proofs.YtkkomfomjpcbfaaDoor.PLA
end
section
namespace Go.Proofs.YtkkomfomjpcbfaaDoor
open Go Go.RowKit Go.Proofs.YtkkomfomjpcbfaaDoorW.PrintWords Go.Proofs.YtkkomfomjpcbfaaDoorW.PrintLast Go.Proofs.YtkkomfomjpcbfaaDoorW.PrintMore
theorem letter_f (c : Int) : PLA.labels_letter.f c = some (letB c, fstB c) := by
 unfold PLA.labels_letter.f letB fstB
 repeat' split
 all_goals simp only [Option.some.injEq, Prod.mk.injEq]
 all_goals (constructor <;> (rw [Bool.eq_iff_iff]; simp; omega))
theorem letter_calls (c : Int) (w : World) : Calls Tryd.prog 54 #[.int .i32 c] w fun e w' => e = .returned (.tuple #[.bool (letB c), .bool (fstB c)]) ∧ Drawn0 w w' :=
 PLA.labels_letter.calls c _ _ w (letter_f c)
set_option maxHeartbeats 4000000 in
theorem named_calls (s : ByteArray) (w : World) (hs : s.size ≤ 9223372036854775807) :
  Calls Tryd.prog 31 #[.string s] w fun e w' => e = .returned (.bool (namedB s.data.toList)) ∧ Below w.heap.size w w' := by
 by_cases he : s.size = 0
 ·have h0 : s.data.toList = [] := List.eq_nil_of_length_eq_zero (by rw [kM]; exact he)
  have hn : namedB s.data.toList = false := by rw [h0]; rfl
  rw [hn]
  have h2 : s.toList = [] := by rw [ByteArray.toList_eq]; exact h0
  have h1 : (s.toList == ([] : List UInt8)) = true := beq_iff_eq.mpr h2
  clear h0 h2
  clear hn he
  go_enter Tryd.func31, Tryd.ntmps31
  go_wp2
  go_ret
  exact ⟨rfl, Below.refl _ _⟩
 ·by_cases hl : 64 < s.size
  ·have hn : namedB s.data.toList = false := namedB_long (by rw [kM]; exact hl)
   rw [hn]
   have h1 : s.toList.isEmpty = false := by
    cases h : s.toList.isEmpty with
    | false => rfl
    | true => exact absurd (by rw [← kM, ← ByteArray.toList_eq, List.isEmpty_iff.1 h]; rfl) he
   have h4 : (s.toList == ([] : List UInt8)) = false := beq_eq_false_iff_ne.mpr (fun h => by rw [h] at h1; cases h1)
   have h5 : (s.toList != ([] : List UInt8)) = true := bne_iff_ne.mpr (fun h => by rw [h] at h1; cases h1)
   clear h1
   have h2 : decide (64 < (s.size : Int)) = true := decide_eq_true (by omega)
   have h3 : decide (64 < s.size) = true := decide_eq_true hl
   clear hn he
   go_enter Tryd.func31, Tryd.ntmps31
   go_wp2
   go_ret
   exact ⟨rfl, Below.refl _ _⟩
  ·have h1 : s.toList.isEmpty = false := by
    cases h : s.toList.isEmpty with
    | false => rfl
    | true => exact absurd (by rw [← kM, ← ByteArray.toList_eq, List.isEmpty_iff.1 h]; rfl) he
   have h4 : (s.toList == ([] : List UInt8)) = false := beq_eq_false_iff_ne.mpr (fun h => by rw [h] at h1; cases h1)
   have h5 : (s.toList != ([] : List UInt8)) = true := bne_iff_ne.mpr (fun h => by rw [h] at h1; cases h1)
   clear h1
   have h2 : decide (64 < (s.size : Int)) = false := decide_eq_false (by omega)
   have h3 : decide (64 < s.size) = false := decide_eq_false hl
   have HE := Lib.hid he
   have HL := Lib.hid hl
   clear he hl
   obtain ⟨R, hR⟩ : ∃ R, R = namedB s.data.toList := ⟨_, rfl⟩
   rw [← hR]
   have HR := Lib.hid hR
   clear hR
   go_enter Tryd.func31, Tryd.ntmps31
   go_wp2
   go_loopg [] s.size (fun kq wr => ∃ pos m, pos + kq = s.size ∧ wr = (w.iter s pos).drewN m ∧ Hid (∀ i, i < pos → letB (s.data.toList.getD i 0).toNat = true) ∧ Hid (0 < pos → fstB (s.data.toList.getD 0 0).toNat = true))
   case atStart => exact ⟨0, 0, by omega, rfl, (fun i hi => absurd hi (Nat.not_lt_zero _) : ∀ i, i < 0 → letB (s.data.toList.getD i 0).toNat = true), (fun h => absurd h (Nat.lt_irrefl 0) : 0 < 0 → fstB (s.data.toList.getD 0 0).toNat = true)⟩
   case round =>
    obtain ⟨pos, m, hk, rfl, hA, hF⟩ := hrel
    have hbel : ∀ pos m, Below w.heap.size w ((w.iter s pos).drewN m) := fun pos m => kA ((Below.refl _ w).alloc (Nat.le_refl _) _) m
    have HBEL := Lib.hid hbel
    clear hbel
    by_cases hlt : pos < s.size
    ·have hb := byte_at s pos hlt
     by_cases hasc : (s[pos]'hlt).toNat < 128
     ·obtain ⟨c, hc⟩ : ∃ c : Int, c = (s[pos].toNat : Int) := ⟨_, rfl⟩
      have hnx : ∀ ty, (Instr.next (.pointer (some ⟨w.heap.size, 0, none⟩)) true ty).run Tryd.prog ((w.iter s pos).drewN m) = .ok (.tuple #[.bool true, .int .i64 pos, .int .i32 c]) ((w.iter s (pos + 1)).drewN m) := fun ty => by
       rw [hc]
       exact run_next_ascii (P := Tryd.prog) (w.drewN m) s pos ty hlt hasc
      have hcl : c = ((s.data.toList.getD pos 0).toNat : Int) := by rw [hc, hb]
      have HC := Lib.hid hcl
      have HLT := Lib.hid hlt
      clear hc hcl hb hasc
      cases hl1 : letB c with
      | false =>
       have hRf : R = false := by rw [HR.out]; exact namedB_no (i := pos) (by rw [kM]; exact HLT.out) (.inl (by rw [← HC.out]; exact hl1))
       subst hRf
       go_wp2_with (go_at_call 54; refine (letter_calls c _).mono ?_; rintro e w' ⟨rfl, ⟨nd, rfl⟩⟩)
       go_ret
       exact ⟨rfl, HBEL.out _ _⟩
      | true =>
       have hA2 : Hid (∀ i, i < pos + 1 → letB (s.data.toList.getD i 0).toNat = true) := Lib.hid (fun i hi => by
        rcases Nat.lt_succ_iff_lt_or_eq.1 hi with h | rfl
        ·exact hA.out i h
        ·rw [← HC.out]; exact hl1)
       cases hf1 : fstB c with
       | false =>
        by_cases hp : pos = 0
        ·have hRf : R = false := by rw [HR.out]; exact namedB_no (i := pos) (by rw [kM]; exact HLT.out) (.inr ⟨hp, by rw [← hp, ← HC.out]; exact hf1⟩)
         subst hRf
         have hp1 : ((pos : Int) == 0) = true := by simp [hp]
         clear hp
         go_wp2_with (go_at_call 54; refine (letter_calls c _).mono ?_; rintro e w' ⟨rfl, ⟨nd, rfl⟩⟩)
         go_ret
         exact ⟨rfl, HBEL.out _ _⟩
        ·have hp1 : ((pos : Int) == 0) = false := by simp; omega
         have hF2 : Hid (0 < pos + 1 → fstB (s.data.toList.getD 0 0).toNat = true) := Lib.hid (fun _ => hF.out (by omega))
         clear hp
         go_wp2_with (go_at_call 54; refine (letter_calls c _).mono ?_; rintro e w' ⟨rfl, ⟨nd, rfl⟩⟩)
         go_roundg (gk - 1)
         case measure => have := HLT.out; omega
         case rel => exact ⟨pos + 1, m + nd, by have := HLT.out; omega, by first | rfl | exact World.drewN_drewN _ _ _, hA2, hF2⟩
       | true =>
        have hF2 : Hid (0 < pos + 1 → fstB (s.data.toList.getD 0 0).toNat = true) := Lib.hid (fun _ => by
         by_cases hp : pos = 0
         ·rw [← hf1, HC.out, hp]
         ·exact hF.out (by omega))
        by_cases hp : pos = 0
        ·have hp1 : ((pos : Int) == 0) = true := by simp [hp]
         clear hp
         go_wp2_with (go_at_call 54; refine (letter_calls c _).mono ?_; rintro e w' ⟨rfl, ⟨nd, rfl⟩⟩)
         go_roundg (gk - 1)
         case measure => have := HLT.out; omega
         case rel => exact ⟨pos + 1, m + nd, by have := HLT.out; omega, by first | rfl | exact World.drewN_drewN _ _ _, hA2, hF2⟩
        ·have hp1 : ((pos : Int) == 0) = false := by simp; omega
         clear hp
         go_wp2_with (go_at_call 54; refine (letter_calls c _).mono ?_; rintro e w' ⟨rfl, ⟨nd, rfl⟩⟩)
         go_roundg (gk - 1)
         case measure => have := HLT.out; omega
         case rel => exact ⟨pos + 1, m + nd, by have := HLT.out; omega, by first | rfl | exact World.drewN_drewN _ _ _, hA2, hF2⟩
     ·have hd := (decode_high s pos hlt (by omega)).1
      have hnx : ∀ ty, (Instr.next (.pointer (some ⟨w.heap.size, 0, none⟩)) true ty).run Tryd.prog ((w.iter s pos).drewN m) = .ok (.tuple #[.bool true, .int .i64 pos, .int .i32 (Utf8.decode s pos).1]) ((w.iter s (pos + (Utf8.decode s pos).2)).drewN m) := fun ty => run_next_any (P := Tryd.prog) (w.drewN m) s pos ty hlt
      obtain ⟨c, hc⟩ : ∃ c : Int, c = ((Utf8.decode s pos).1 : Int) := ⟨_, rfl⟩
      obtain ⟨p2, hp2⟩ : ∃ p2, p2 = pos + (Utf8.decode s pos).2 := ⟨_, rfl⟩
      rw [← hc, ← hp2] at hnx
      have hl1 : letB c = false := letB_high (by omega)
      have hRf : R = false := by
       rw [HR.out]
       refine namedB_no (i := pos) (by rw [kM]; exact hlt) (.inl (letB_high ?_))
       rw [← hb]
       omega
      subst hRf
      clear hc hp2 hd hb hasc
      go_wp2_with (go_at_call 54; refine (letter_calls c _).mono ?_; rintro e w' ⟨rfl, ⟨nd, rfl⟩⟩)
      go_ret
      exact ⟨rfl, HBEL.out _ _⟩
    ·have hnx : ∀ ty, (Instr.next (.pointer (some ⟨w.heap.size, 0, none⟩)) true ty).run Tryd.prog ((w.iter s pos).drewN m) = .ok (.tuple #[.bool false]) ((w.iter s pos).drewN m) := fun ty => run_next_end (P := Tryd.prog) (w.drewN m) s pos ty hlt
     have hRt : R = true := by
      have hl := kM s
      have h0 := HE.out
      have hL := HL.out
      rw [HR.out]
      exact namedB_yes (by omega) (by omega) (fun i hi => hA.out i (by omega)) (hF.out (by omega))
     subst hRt
     clear hlt
     go_wp2
     go_ret
     exact ⟨rfl, HBEL.out _ _⟩
end Go.Proofs.YtkkomfomjpcbfaaDoor
end
section
namespace Go.Proofs.YtkkomfomjpcbfaaDoor
open Go Go.RowKit
def Tab (w : World) : Prop := ∀ i, i < 64 → w.cell? ⟨0, i, none⟩ = some (.int .u32 (Sha.K.getD i 0))
theorem kU {w w1 : World} (h : Tab w) (hb : Below w.heap.size w w1) : Tab w1 := fun i hi => (hb.cell (World.block_lt_of_cell? w _ (h i hi))).trans (h i hi)
end Go.Proofs.YtkkomfomjpcbfaaDoor
end
