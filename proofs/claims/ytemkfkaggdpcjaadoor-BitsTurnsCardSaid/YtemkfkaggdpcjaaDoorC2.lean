/- The bits 0 ahead and behind: the program's and the document's. -/
import Derived.Test.YtemkfkaggdpcjaaDoorB12
import Derived.Test.YtemkfkaggdpcjaaDoorC1
import Derived.Lib.TrailingZeros
import Derived.Shelf.Spec.TrailingZeros
namespace Go.Proofs.YtemkfkaggdpcjaaDoor
open Go.RowKit Go.Proofs.YtemkfkaggdpcjaaDoorW.PrintWords Go.Proofs.YtemkfkaggdpcjaaDoorW.PrintMore Go.Proofs.YtemkfkaggdpcjaaDoorW.PrintLast Bq
set_option linter.unusedVariables false
set_option linter.unusedSimpArgs false
attribute [local go_sem ↓] Go.wp_at_zero Go.wp_at_succ

theorem bit_and1 (n i : Nat) (hn : n < 18446744073709551616) : bits .and .u64 ((n : Int) / 2 ^ i) 1 = (n : Int) / 2 ^ i % 2 := by
  have h : (n : Int) / 2 ^ i = ((n / 2 ^ i : Nat) : Int) := by simp
  rw [h]
  have h2 := Nat.div_le_self n (2 ^ i)
  generalize n / 2 ^ i = y at h2 ⊢
  exact and_one _ (by omega) (by omega)
theorem bit_eq1 (n i : Nat) : (((n : Int) / 2 ^ i) % 2 == 1) = n.testBit i := by
  rw [Nat.testBit_eq_decide_div_mod_eq]
  have e : ((n : Int) / 2 ^ i) % 2 = ((n / 2 ^ i % 2 : Nat) : Int) := by simp
  rw [e]
  by_cases h : n / 2 ^ i % 2 = 1
  · rw [h]; rfl
  · have : n / 2 ^ i % 2 = 0 := by omega
    rw [this]; rfl

set_option maxHeartbeats 1000000 in
theorem rlead_calls (n : Nat) (w : World) (hn : n < 18446744073709551616) :
    Calls Tryd.prog 11 #[.int .u64 n] w fun e w' => e = .returned (.int .i64 (64 - (Lib.bitLen n : Int))) ∧ w = w' := by
  have HN := Lib.hid hn
  clear hn
  go_enter Tryd.func11, Tryd.ntmps11
  go_wp2
  go_loopg [4] 64 (fun kq s4 wr => w = wr ∧ ∃ k : Nat, k + kq = 64 ∧ s4 = .int .i64 k ∧ Hid (n < 2 ^ (64 - k)))
  case atStart => exact ⟨rfl, 0, by omega, rfl, HN.out⟩
  case round =>
    obtain ⟨rfl, k, hk, rfl, hlt⟩ := hrel
    by_cases hk64 : k < 64
    · obtain ⟨i, hi⟩ : ∃ i, i = 63 - k := ⟨_, rfl⟩
      have e1 : (63 - (k : Int)).toNat = i := by omega
      have e2 : (0 : Int) ≤ 63 - (k : Int) := by omega
      have hb := half_bit n i (by rw [hi, show 63 - k + 1 = 64 - k by omega]; exact hlt.out)
      have HBB := Lib.hid hb
      have HI := Lib.hid hi
      have e3 := bit_and1 n i HN.out
      obtain ⟨b, hbb⟩ : ∃ b, b = n.testBit i := ⟨_, rfl⟩
      have e4 : ((n : Int) / 2 ^ i % 2 == 1) = b := by rw [bit_eq1, hbb]
      have HB2 := Lib.hid hbb
      clear hb hi hbb
      cases b with
      | true =>
        go_wp2_with fail
        go_ret
        have hi := HI.out
        have h1 := HBB.out.2 HB2.out.symm
        have h2 := bitLen_is n i h1 (by rw [hi, show 63 - k + 1 = 64 - k by omega]; exact hlt.out) (by omega)
        refine ⟨congrArg Ending.returned (congrArg (Value.int IntKind.i64) ?_), rfl⟩
        rw [h2]
        omega
      | false =>
        go_wp2_with fail
        go_roundg (gk - 1)
        case measure => omega
        case rel =>
          refine ⟨rfl, k + 1, by omega, by go_num, ?_⟩
          show n < 2 ^ (64 - (k + 1))
          have h := HBB.out.1 HB2.out.symm
          have hi := HI.out
          rw [hi] at h
          rwa [show 64 - (k + 1) = 63 - k by omega]
    · have hke : k = 64 := by omega
      subst hke
      go_wp2_with fail
      go_ret
      have h0 : n = 0 := by have := hlt.out; simpa using this
      refine ⟨?_, rfl⟩
      rw [h0, bitLen_zero]
      rfl

set_option maxHeartbeats 1000000 in
theorem rtrail_calls (n : Nat) (w : World) (hn : n < 18446744073709551616) :
    Calls Tryd.prog 13 #[.int .u64 n] w fun e w' => e = .returned (.int .i64 (Lib.ctz 64 n)) ∧ w = w' := by
  have HN := Lib.hid hn
  clear hn
  go_enter Tryd.func13, Tryd.ntmps13
  go_wp2
  go_loopg [4] 64 (fun kq s4 wr => w = wr ∧ ∃ k : Nat, k + kq = 64 ∧ s4 = .int .i64 k ∧ Hid (n % 2 ^ k = 0))
  case atStart => exact ⟨rfl, 0, by omega, rfl, Nat.mod_one n⟩
  case round =>
    obtain ⟨rfl, k, hk, rfl, hlt⟩ := hrel
    by_cases hk64 : k < 64
    · have e3 := bit_and1 n k HN.out
      obtain ⟨b, hbb⟩ : ∃ b, b = n.testBit k := ⟨_, rfl⟩
      have e4 : ((n : Int) / 2 ^ k % 2 == 1) = b := by rw [bit_eq1, hbb]
      have HB2 := Lib.hid hbb
      clear hbb
      cases b with
      | true =>
        go_wp2_with fail
        go_ret
        have h2 := ctz_is n k HN.out hlt.out HB2.out.symm
        exact ⟨by rw [h2]; rfl, rfl⟩
      | false =>
        go_wp2_with fail
        go_roundg (gk - 1)
        case measure => omega
        case rel => exact ⟨rfl, k + 1, by omega, by go_num, mod_next n k hlt.out HB2.out.symm⟩
    · have hke : k = 64 := by omega
      subst hke
      go_wp2_with fail
      go_ret
      have h0 : n = 0 := by
        have h1 := hlt.out
        have h2 := HN.out
        rw [Nat.mod_eq_of_lt (by simpa using h2)] at h1
        exact h1
      refine ⟨?_, rfl⟩
      rw [h0, ctz_zero]
      rfl

theorem tz_core (n c idx : Nat) (w : World) (hx0 : ((n : Int) == 0) = false)
    (key : IntKind.u64.wrap (bits BinOp.and IntKind.u64 (n : Int) (IntKind.u64.wrap (-(n : Int))) * 285870213051353865) / 288230376151711744 = (idx : Int))
    (hi : idx < 64) (hk : c < 64) (hcell : w.cell? ⟨0, idx, none⟩ = some (.int .u8 c)) :
    Calls Tryd.prog 21 #[.int .u64 n] w fun e w' => e = .returned (.int .i64 c) ∧ w' = w := by
  go_enter Tryd.func21, Tryd.ntmps21
  go_wp2_with (simp only [key])
  go_ret
  exact ⟨rfl, rfl⟩
theorem tz_zero (w : World) : Calls Tryd.prog 21 #[.int .u64 0] w fun e w' => e = .returned (.int .i64 64) ∧ w' = w := by
  go_enter Tryd.func21, Tryd.ntmps21
  go_wp2
  go_ret
  exact ⟨rfl, rfl⟩
theorem tz_calls (n : Nat) (w : World) (hn : n < 18446744073709551616) (hT : TabAt 0 Lib.deBruijn64tab w) :
    Calls Tryd.prog 21 #[.int .u64 n] w fun e w' => e = .returned (.int .i64 (Lib.ctz 64 n)) ∧ w' = w := by
  by_cases h0 : n = 0
  · subst h0
    exact tz_zero w
  · obtain ⟨hlow, hk⟩ := Lib.lowest_bit 64 n h0 hn
    obtain ⟨hi, htab⟩ := Lib.deBruijn64_at _ hk
    have hcell := hT _ hi
    rw [htab] at hcell
    exact tz_core n _ _ w (by simp; omega) (tz64_key n _ hn h0 hlow) hi hk hcell
theorem trail_calls (n : Nat) (w : World) (hn : n < 18446744073709551616) (hT : TabAt 0 Lib.deBruijn64tab w) :
    Calls Tryd.prog 12 #[.int .u64 n] w fun e w' => e = .returned (.int .i64 (Lib.ctz 64 n)) ∧ w = w' := by
  have HT := Lib.hid hT
  clear hT
  go_enter Tryd.func12, Tryd.ntmps12
  go_wp2_with (go_at_call 21; refine (tz_calls n _ hn HT.out).mono ?_; rintro e w' ⟨rfl, rfl⟩)
  go_ret
  exact ⟨rfl, rfl⟩
end Go.Proofs.YtemkfkaggdpcjaaDoor
