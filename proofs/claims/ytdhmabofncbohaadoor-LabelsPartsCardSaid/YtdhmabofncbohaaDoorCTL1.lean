import Derived.Test.YtdhmabofncbohaaDoorCTL0
import Derived.Test.YtdhmabofncbohaaDoorCTPLAx1
import Derived.Laws.RangeAny
namespace Go.Proofs.YtdhmabofncbohaaDoor
open Go Go.RowKit Go.Proofs.YtdhmabofncbohaaDoorW.PrintWords Go.Proofs.YtdhmabofncbohaaDoorW.PrintLast Go.Proofs.YtdhmabofncbohaaDoorW.PrintMore
set_option linter.unusedVariables false
set_option linter.unusedSimpArgs false
theorem letter_f (c : Int) : PLA.labels_letter.f c = some (letB c, fstB c) := by
  unfold PLA.labels_letter.f letB fstB
  repeat' split
  all_goals simp only [Option.some.injEq, Prod.mk.injEq]
  all_goals (constructor <;> (rw [Bool.eq_iff_iff]; simp; omega))
theorem letter_calls (c : Int) (w : World) : Calls Tryd.prog 55 #[.int .i32 c] w fun e w' => e = .returned (.tuple #[.bool (letB c), .bool (fstB c)]) ∧ Drawn0 w w' :=
  PLA.labels_letter.calls c _ _ w (letter_f c)
set_option maxHeartbeats 4000000 in
theorem named_calls (s : ByteArray) (w : World) (hs : s.size ≤ 9223372036854775807) :
    Calls Tryd.prog 16 #[.string s] w fun e w' => e = .returned (.bool (namedB s.data.toList)) ∧ Below w.heap.size w w' := by
  by_cases he : s.size = 0
  · have h0 : s.data.toList = [] := List.eq_nil_of_length_eq_zero (by rw [data_length]; exact he)
    have hn : namedB s.data.toList = false := by rw [h0]; rfl
    rw [hn]
    have h2 : s.toList = [] := by rw [ByteArray.toList_eq]; exact h0
    have h1 : (s.toList == ([] : List UInt8)) = true := beq_iff_eq.mpr h2
    clear h0 h2
    clear hn he
    go_enter Tryd.func16, Tryd.ntmps16
    go_wp2
    go_ret
    exact ⟨rfl, Below.refl _ _⟩
  · by_cases hl : 64 < s.size
    · have hn : namedB s.data.toList = false := namedB_long (by rw [data_length]; exact hl)
      rw [hn]
      have h1 : s.toList.isEmpty = false := by
        cases h : s.toList.isEmpty with
        | false => rfl
        | true => exact absurd (by rw [← data_length, ← ByteArray.toList_eq, List.isEmpty_iff.1 h]; rfl) he
      have h4 : (s.toList == ([] : List UInt8)) = false := beq_eq_false_iff_ne.mpr (fun h => by rw [h] at h1; cases h1)
      have h5 : (s.toList != ([] : List UInt8)) = true := bne_iff_ne.mpr (fun h => by rw [h] at h1; cases h1)
      clear h1
      have h2 : decide (64 < (s.size : Int)) = true := decide_eq_true (by omega)
      have h3 : decide (64 < s.size) = true := decide_eq_true hl
      clear hn he
      go_enter Tryd.func16, Tryd.ntmps16
      go_wp2
      go_ret
      exact ⟨rfl, Below.refl _ _⟩
    · have h1 : s.toList.isEmpty = false := by
        cases h : s.toList.isEmpty with
        | false => rfl
        | true => exact absurd (by rw [← data_length, ← ByteArray.toList_eq, List.isEmpty_iff.1 h]; rfl) he
      have h4 : (s.toList == ([] : List UInt8)) = false := beq_eq_false_iff_ne.mpr (fun h => by rw [h] at h1; cases h1)
      have h5 : (s.toList != ([] : List UInt8)) = true := bne_iff_ne.mpr (fun h => by rw [h] at h1; cases h1)
      clear h1
      have h2 : decide (64 < (s.size : Int)) = false := decide_eq_false (by omega)
      have h3 : decide (64 < s.size) = false := decide_eq_false hl
      have HE := Lib.hid he
      have HL := Lib.hid hl
      clear he hl
      obtain ⟨R, hR⟩ : ∃ R, R = namedB s.data.toList := ⟨_, rfl⟩
      rw [← hR]
      have HR := Lib.hid hR
      clear hR
      go_enter Tryd.func16, Tryd.ntmps16
      go_wp2
      go_loopg [] s.size (fun kq wr => ∃ pos m, pos + kq = s.size ∧ wr = (w.iter s pos).drewN m ∧ Hid (∀ i, i < pos → letB (s.data.toList.getD i 0).toNat = true) ∧ Hid (0 < pos → fstB (s.data.toList.getD 0 0).toNat = true))
      case atStart => exact ⟨0, 0, by omega, rfl, (fun i hi => absurd hi (Nat.not_lt_zero _) : ∀ i, i < 0 → letB (s.data.toList.getD i 0).toNat = true), (fun h => absurd h (Nat.lt_irrefl 0) : 0 < 0 → fstB (s.data.toList.getD 0 0).toNat = true)⟩
      case round =>
        obtain ⟨pos, m, hk, rfl, hA, hF⟩ := hrel
        have hbel : ∀ pos m, Below w.heap.size w ((w.iter s pos).drewN m) := fun pos m => pw_below_drewN ((Below.refl _ w).alloc (Nat.le_refl _) _) m
        have HBEL := Lib.hid hbel
        clear hbel
        by_cases hlt : pos < s.size
        · have hb := byte_at s pos hlt
          by_cases hasc : (s[pos]'hlt).toNat < 128
          · obtain ⟨c, hc⟩ : ∃ c : Int, c = (s[pos].toNat : Int) := ⟨_, rfl⟩
            have hnx : ∀ ty, (Instr.next (.pointer (some ⟨w.heap.size, 0, none⟩)) true ty).run Tryd.prog ((w.iter s pos).drewN m) = .ok (.tuple #[.bool true, .int .i64 pos, .int .i32 c]) ((w.iter s (pos + 1)).drewN m) := fun ty => by
              rw [hc]
              exact run_next_ascii (P := Tryd.prog) (w.drewN m) s pos ty hlt hasc
            have hcl : c = ((s.data.toList.getD pos 0).toNat : Int) := by rw [hc, hb]
            have HC := Lib.hid hcl
            have HLT := Lib.hid hlt
            clear hc hcl hb hasc
            cases hl1 : letB c with
            | false =>
              have hRf : R = false := by rw [HR.out]; exact namedB_no (i := pos) (by rw [data_length]; exact HLT.out) (.inl (by rw [← HC.out]; exact hl1))
              subst hRf
              go_wp2_with (go_at_call 55; refine (letter_calls c _).mono ?_; rintro e w' ⟨rfl, ⟨nd, rfl⟩⟩)
              go_ret
              exact ⟨rfl, HBEL.out _ _⟩
            | true =>
              have hA2 : Hid (∀ i, i < pos + 1 → letB (s.data.toList.getD i 0).toNat = true) := Lib.hid (fun i hi => by
                rcases Nat.lt_succ_iff_lt_or_eq.1 hi with h | rfl
                · exact hA.out i h
                · rw [← HC.out]; exact hl1)
              cases hf1 : fstB c with
              | false =>
                by_cases hp : pos = 0
                · have hRf : R = false := by rw [HR.out]; exact namedB_no (i := pos) (by rw [data_length]; exact HLT.out) (.inr ⟨hp, by rw [← hp, ← HC.out]; exact hf1⟩)
                  subst hRf
                  have hp1 : ((pos : Int) == 0) = true := by simp [hp]
                  clear hp
                  go_wp2_with (go_at_call 55; refine (letter_calls c _).mono ?_; rintro e w' ⟨rfl, ⟨nd, rfl⟩⟩)
                  go_ret
                  exact ⟨rfl, HBEL.out _ _⟩
                · have hp1 : ((pos : Int) == 0) = false := by simp; omega
                  have hF2 : Hid (0 < pos + 1 → fstB (s.data.toList.getD 0 0).toNat = true) := Lib.hid (fun _ => hF.out (by omega))
                  clear hp
                  go_wp2_with (go_at_call 55; refine (letter_calls c _).mono ?_; rintro e w' ⟨rfl, ⟨nd, rfl⟩⟩)
                  go_roundg (gk - 1)
                  case measure => have := HLT.out; omega
                  case rel => exact ⟨pos + 1, m + nd, by have := HLT.out; omega, by first | rfl | exact World.drewN_drewN _ _ _, hA2, hF2⟩
              | true =>
                have hF2 : Hid (0 < pos + 1 → fstB (s.data.toList.getD 0 0).toNat = true) := Lib.hid (fun _ => by
                  by_cases hp : pos = 0
                  · rw [← hf1, HC.out, hp]
                  · exact hF.out (by omega))
                by_cases hp : pos = 0
                · have hp1 : ((pos : Int) == 0) = true := by simp [hp]
                  clear hp
                  go_wp2_with (go_at_call 55; refine (letter_calls c _).mono ?_; rintro e w' ⟨rfl, ⟨nd, rfl⟩⟩)
                  go_roundg (gk - 1)
                  case measure => have := HLT.out; omega
                  case rel => exact ⟨pos + 1, m + nd, by have := HLT.out; omega, by first | rfl | exact World.drewN_drewN _ _ _, hA2, hF2⟩
                · have hp1 : ((pos : Int) == 0) = false := by simp; omega
                  clear hp
                  go_wp2_with (go_at_call 55; refine (letter_calls c _).mono ?_; rintro e w' ⟨rfl, ⟨nd, rfl⟩⟩)
                  go_roundg (gk - 1)
                  case measure => have := HLT.out; omega
                  case rel => exact ⟨pos + 1, m + nd, by have := HLT.out; omega, by first | rfl | exact World.drewN_drewN _ _ _, hA2, hF2⟩
          · have hd := (decode_high s pos hlt (by omega)).1
            have hnx : ∀ ty, (Instr.next (.pointer (some ⟨w.heap.size, 0, none⟩)) true ty).run Tryd.prog ((w.iter s pos).drewN m) = .ok (.tuple #[.bool true, .int .i64 pos, .int .i32 (Utf8.decode s pos).1]) ((w.iter s (pos + (Utf8.decode s pos).2)).drewN m) := fun ty => run_next_any (P := Tryd.prog) (w.drewN m) s pos ty hlt
            obtain ⟨c, hc⟩ : ∃ c : Int, c = ((Utf8.decode s pos).1 : Int) := ⟨_, rfl⟩
            obtain ⟨p2, hp2⟩ : ∃ p2, p2 = pos + (Utf8.decode s pos).2 := ⟨_, rfl⟩
            rw [← hc, ← hp2] at hnx
            have hl1 : letB c = false := letB_high (by omega)
            have hRf : R = false := by
              rw [HR.out]
              refine namedB_no (i := pos) (by rw [data_length]; exact hlt) (.inl (letB_high ?_))
              rw [← hb]
              omega
            subst hRf
            clear hc hp2 hd hb hasc
            go_wp2_with (go_at_call 55; refine (letter_calls c _).mono ?_; rintro e w' ⟨rfl, ⟨nd, rfl⟩⟩)
            go_ret
            exact ⟨rfl, HBEL.out _ _⟩
        · have hnx : ∀ ty, (Instr.next (.pointer (some ⟨w.heap.size, 0, none⟩)) true ty).run Tryd.prog ((w.iter s pos).drewN m) = .ok (.tuple #[.bool false]) ((w.iter s pos).drewN m) := fun ty => run_next_end (P := Tryd.prog) (w.drewN m) s pos ty hlt
          have hRt : R = true := by
            have hl := data_length s
            have h0 := HE.out
            have hL := HL.out
            rw [HR.out]
            exact namedB_yes (by omega) (by omega) (fun i hi => hA.out i (by omega)) (hF.out (by omega))
          subst hRt
          clear hlt
          go_wp2
          go_ret
          exact ⟨rfl, HBEL.out _ _⟩
end Go.Proofs.YtdhmabofncbohaaDoor
