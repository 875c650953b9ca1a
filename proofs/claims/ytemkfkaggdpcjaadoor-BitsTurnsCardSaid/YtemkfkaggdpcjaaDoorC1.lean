/- The bits 0 ahead and behind: in plain words. -/
import Derived.Lib.BitFns
import Derived.Lib.ItoaNum
import Derived.Lib.TrailingZeros
namespace Go.Proofs.YtemkfkaggdpcjaaDoor
open Go
set_option linter.unusedVariables false

theorem bitLen_is (x k : Nat) (h1 : 2 ^ k ≤ x) (h2 : x < 2 ^ (k + 1)) (hk : k < 64) : Lib.bitLen x = k + 1 := by
  have hx : x ≠ 0 := by
    have : 0 < 2 ^ k := Nat.pow_pos (by decide)
    omega
  have hx64 : x < 2 ^ 64 := Nat.lt_of_lt_of_le h2 (Nat.pow_le_pow_right (by decide) hk)
  obtain ⟨b1, b2, b3⟩ := Lib.bitLenAux_bounds 64 x hx64 hx
  have e : Lib.bitLen x = Lib.bitLenAux 64 x := rfl
  rw [e]
  generalize Lib.bitLenAux 64 x = L at b1 b2 b3 ⊢
  have g1 : k < L := by
    apply Nat.lt_of_not_le
    intro h
    have := Nat.pow_le_pow_right (n := 2) (by decide) h
    omega
  have g2 : L - 1 < k + 1 := by
    apply Nat.lt_of_not_le
    intro h
    have := Nat.pow_le_pow_right (n := 2) (by decide) h
    omega
  omega
theorem bitLen_zero : Lib.bitLen 0 = 0 := rfl
theorem bitLen_bounds (x : Nat) (hx : x ≠ 0) (h : x < 2 ^ 64) : 1 ≤ Lib.bitLen x ∧ Lib.bitLen x ≤ 64 ∧ 2 ^ (Lib.bitLen x - 1) ≤ x ∧ x < 2 ^ Lib.bitLen x := by
  obtain ⟨b1, b2, b3⟩ := Lib.bitLenAux_bounds 64 x h hx
  exact ⟨b1, Lib.bitLen_le x 64 (Nat.le_refl _) h, b2, b3⟩
theorem half_bit (n k : Nat) (h : n < 2 ^ (k + 1)) : (n.testBit k = false → n < 2 ^ k) ∧ (n.testBit k = true → 2 ^ k ≤ n) := by
  rw [Nat.testBit_eq_decide_div_mod_eq]
  have hp : 0 < 2 ^ k := Nat.pow_pos (by decide)
  have hd : n / 2 ^ k < 2 := by
    rw [Nat.div_lt_iff_lt_mul hp, Nat.mul_comm, ← Nat.pow_succ]
    exact h
  constructor
  · intro h2
    have h3 := of_decide_eq_false h2
    have h4 : n / 2 ^ k = 0 := by
      generalize n / 2 ^ k = d at hd h3 ⊢
      omega
    rcases Nat.div_eq_zero_iff.1 h4 with h5 | h5
    · omega
    · exact h5
  · intro h2
    have h3 := of_decide_eq_true h2
    apply Nat.le_of_not_lt
    intro h4
    rw [Nat.div_eq_of_lt h4] at h3
    omega
theorem odd_mod (c m i : Nat) (hc : c < i) : (2 ^ c * (2 * m + 1)) % 2 ^ i ≠ 0 := by
  intro h
  have h1 : 2 ^ (c + 1) ∣ 2 ^ c * (2 * m + 1) := Nat.dvd_trans (Nat.pow_dvd_pow 2 hc) (Nat.dvd_of_mod_eq_zero h)
  rw [Nat.pow_succ] at h1
  have h2 := Nat.dvd_of_mul_dvd_mul_left (Nat.pow_pos (n := c) (by decide)) h1
  omega
theorem ctz_is (n i : Nat) (hn : n < 2 ^ 64) (h0 : n % 2 ^ i = 0) (h1 : n.testBit i = true) : Lib.ctz 64 n = i := by
  rw [Nat.testBit_eq_decide_div_mod_eq] at h1
  have h1 := of_decide_eq_true h1
  have hn0 : n ≠ 0 := by
    rintro rfl
    simp at h1
  unfold Lib.ctz
  rw [if_neg hn0]
  obtain ⟨m, hm, hl⟩ := Lib.ctzFrom_spec 64 n (by omega) hn
  generalize Lib.ctzFrom 64 n = c at hm hl ⊢
  rcases Nat.lt_trichotomy c i with h | h | h
  · rw [hm] at h0
    exact absurd h0 (odd_mod c m i h)
  · exact h
  · exfalso
    have e : n / 2 ^ i = 2 ^ (c - i) * (2 * m + 1) := by
      have e2 : 2 ^ c = 2 ^ i * 2 ^ (c - i) := by rw [← Nat.pow_add]; congr 1; omega
      rw [hm, e2, Nat.mul_assoc, Nat.mul_div_cancel_left _ (Nat.pow_pos (by decide))]
    have e3 : 2 ^ (c - i) = 2 * 2 ^ (c - i - 1) := by rw [← Nat.pow_succ']; congr 1; omega
    rw [e, e3, Nat.mul_assoc, Nat.mul_mod_right] at h1
    omega
theorem mod_next (n i : Nat) (h0 : n % 2 ^ i = 0) (h1 : n.testBit i = false) : n % 2 ^ (i + 1) = 0 := by
  rw [Nat.testBit_eq_decide_div_mod_eq] at h1
  have h1 := of_decide_eq_false h1
  obtain ⟨q, rfl⟩ := Nat.dvd_of_mod_eq_zero h0
  rw [Nat.mul_div_cancel_left _ (Nat.pow_pos (by decide))] at h1
  have hq : q = 2 * (q / 2) := by omega
  rw [hq, Nat.pow_succ, ← Nat.mul_assoc, Nat.mul_mod_right]
theorem ctz_zero : Lib.ctz 64 0 = 64 := rfl
theorem ctz_facts (n : Nat) (hn : n < 2 ^ 64) (h0 : n ≠ 0) : Lib.ctz 64 n < 64 ∧ n % 2 ^ Lib.ctz 64 n = 0 ∧ n / 2 ^ Lib.ctz 64 n % 2 = 1 := by
  unfold Lib.ctz
  rw [if_neg h0]
  obtain ⟨m, hm, hl⟩ := Lib.ctzFrom_spec 64 n (by omega) hn
  generalize Lib.ctzFrom 64 n = c at hm hl ⊢
  refine ⟨hl, ?_, ?_⟩
  · rw [hm]; exact Nat.mul_mod_right _ _
  · rw [hm, Nat.mul_div_cancel_left _ (Nat.pow_pos (by decide))]
    omega
end Go.Proofs.YtemkfkaggdpcjaaDoor
