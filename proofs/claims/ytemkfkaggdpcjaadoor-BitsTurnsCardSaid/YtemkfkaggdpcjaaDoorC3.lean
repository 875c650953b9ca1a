/- BitsZigs, BitsTurns: their walks. -/
import Derived.Test.YtemkfkaggdpcjaaDoorC2
import Derived.Test.YtemkfkaggdpcjaaDoorB13z
namespace Go.Proofs.YtemkfkaggdpcjaaDoor
open Go.RowKit Go.Proofs.YtemkfkaggdpcjaaDoorW.PrintWords Go.Proofs.YtemkfkaggdpcjaaDoorW.PrintMore Go.Proofs.YtemkfkaggdpcjaaDoorW.PrintLast Bq
set_option linter.unusedVariables false
set_option linter.unusedSimpArgs false
attribute [local go_sem ↓] Go.wp_at_zero Go.wp_at_succ

theorem tab_below {g : Nat} {tab : List Nat} {w w1 : World} (h : TabAt g tab w) (hb : Below w.heap.size w w1) : TabAt g tab w1 := fun j hj => (hb.cell (World.block_lt_of_cell? w _ (h j hj))).trans (h j hj)

set_option maxHeartbeats 2000000 in
theorem bitsZigs_calls (w : World) (n : Nat) (s : Int) (hn : n < 18446744073709551616) (h0 : -9223372036854775808 ≤ s) (h1 : s ≤ 9223372036854775807) (hT : TabAt 0 Lib.deBruijn64tab w) :
    Calls Tryd.prog 3 #[.int .u64 n, .int .i64 s] w fun e w' => e = .returned (.bool true) ∧ Below w.heap.size w w' := by
  have HT := Lib.hid hT
  have HN := Lib.hid hn
  have hni : (n : Int) ≤ 18446744073709551615 := by omega
  have HNI := Lib.hid hni
  obtain ⟨c, hc⟩ : ∃ c, c = Lib.ctz 64 n := ⟨_, rfl⟩
  obtain ⟨L, hL⟩ : ∃ L, L = Lib.bitLen n := ⟨_, rfl⟩
  have HCC := Lib.hid hc
  have HLL := Lib.hid hL
  clear hT hn hni hc hL
  go_enter Tryd.func3, Tryd.ntmps3
  go_wp2_with fail
  refine (live_calls _).mono ?_
  rintro e w1 ⟨rfl, hB1⟩
  have HB1 := Lib.hid hB1
  have HT1 := Lib.hid (tab_below HT.out hB1)
  clear hB1
  go_wp2_with (first | (go_at_call 6; refine (zig_calls s _ h0 h1).mono ?_; rintro e w' ⟨rfl, rfl⟩) | (go_at_call 7; refine (rzig_calls s _ h0 h1).mono ?_; rintro e w' ⟨rfl, rfl⟩) | (go_at_call 8; refine (zag_calls n _ (Int.natCast_nonneg n) (by have := HNI.out; omega)).mono ?_; rintro e w' ⟨rfl, rfl⟩) | (go_at_call 9; refine (rzag_calls n _ (Int.natCast_nonneg n) (by have := HNI.out; omega)).mono ?_; rintro e w' ⟨rfl, rfl⟩) | (go_at_call 10; refine (lead_calls n _ (Int.natCast_nonneg n) HNI.out).mono ?_; rintro e w' ⟨rfl, rfl⟩; rw [Int.toNat_natCast, ← HLL.out]) | (go_at_call 11; refine (rlead_calls n _ HN.out).mono ?_; rintro e w' ⟨rfl, rfl⟩; rw [← HLL.out]) | (go_at_call 12; refine (trail_calls n _ HN.out HT1.out).mono ?_; rintro e w' ⟨rfl, rfl⟩; rw [← HCC.out]) | (go_at_call 13; refine (rtrail_calls n _ HN.out).mono ?_; rintro e w' ⟨rfl, rfl⟩; rw [← HCC.out]))
  go_ret
  exact ⟨rfl, HB1.out⟩

theorem turn_facts (n : Nat) (hn : n < 18446744073709551616) (h0 : n ≠ 0) : ∃ a c y z : Nat, Lib.bitLen n = 64 - a ∧ Lib.ctz 64 n = c ∧ a ≤ 63 ∧ a + c ≤ 63 ∧
    IntKind.u64.wrap ((n : Int) * 2 ^ a) = (y : Int) ∧ (y : Int) / 9223372036854775808 = 1 ∧ (y : Int) / 2 ^ a = (n : Int) ∧ (n : Int) / 2 ^ c = (z : Int) ∧ bits .and .u64 (z : Int) 1 = 1 ∧ IntKind.u64.wrap ((z : Int) * 2 ^ c) = (n : Int) := by
  obtain ⟨b1, b2, b3, b4⟩ := bitLen_bounds n h0 hn
  obtain ⟨c1, c2, c3⟩ := ctz_facts n hn h0
  generalize Lib.bitLen n = L at *
  generalize Lib.ctz 64 n = c at *
  obtain ⟨z, hz⟩ := Nat.dvd_of_mod_eq_zero c2
  have hp : 0 < 2 ^ c := Nat.pow_pos (by decide)
  have hzd : n / 2 ^ c = z := by rw [hz, Nat.mul_div_cancel_left _ hp]
  have hz0 : z ≠ 0 := by rintro rfl; simp at hz; omega
  have hcn : 2 ^ c ≤ n := by rw [hz]; exact Nat.le_mul_of_pos_right _ (by omega)
  have hcL : c < L := by
    apply Nat.lt_of_not_le
    intro h
    have := Nat.pow_le_pow_right (n := 2) (by decide) h
    omega
  have hy1 : n * 2 ^ (64 - L) < 2 ^ 64 := by
    have h1 : n * 2 ^ (64 - L) < 2 ^ L * 2 ^ (64 - L) := Nat.mul_lt_mul_of_pos_right b4 (Nat.pow_pos (by decide))
    rw [← Nat.pow_add, show L + (64 - L) = 64 by omega] at h1
    exact h1
  have hy2 : 2 ^ 63 ≤ n * 2 ^ (64 - L) := by
    have h1 : 2 ^ (L - 1) * 2 ^ (64 - L) ≤ n * 2 ^ (64 - L) := Nat.mul_le_mul_right _ b3
    rw [← Nat.pow_add, show L - 1 + (64 - L) = 63 by omega] at h1
    exact h1
  have hzn : z ≤ n := by rw [hz]; exact Nat.le_mul_of_pos_left _ hp
  refine ⟨64 - L, c, n * 2 ^ (64 - L), z, by omega, rfl, by omega, by omega, ?_, ?_, ?_, ?_, ?_, ?_⟩
  · have e : (n : Int) * 2 ^ (64 - L) = ((n * 2 ^ (64 - L) : Nat) : Int) := by simp
    rw [e]
    exact wraps_u64 _ (by omega) (by simpa using Int.ofNat_lt.2 hy1)
  · generalize n * 2 ^ (64 - L) = y at hy1 hy2 ⊢
    omega
  · have e : ((n * 2 ^ (64 - L) : Nat) : Int) / 2 ^ (64 - L) = ((n * 2 ^ (64 - L) / 2 ^ (64 - L) : Nat) : Int) := by simp
    rw [e, Nat.mul_div_cancel _ (Nat.pow_pos (by decide))]
  · rw [← hzd]; simp
  · rw [hzd] at c3
    rw [and_one _ (by omega) (by omega)]
    omega
  · have e : (z : Int) * 2 ^ c = ((z * 2 ^ c : Nat) : Int) := by simp
    rw [e, Nat.mul_comm, ← hz]
    exact wraps_u64 _ (by omega) (by omega)

set_option maxHeartbeats 2000000 in
theorem bitsTurns_calls (w : World) (n : Nat) (s : Int) (hn : n < 18446744073709551616) (h0 : -9223372036854775808 ≤ s) (h1 : s ≤ 9223372036854775807) (hT : TabAt 0 Lib.deBruijn64tab w) :
    Calls Tryd.prog 4 #[.int .u64 n, .int .i64 s] w fun e w' => e = .returned (.bool true) ∧ Below w.heap.size w w' := by
  have HT := Lib.hid hT
  have HN := Lib.hid hn
  have hni : (n : Int) ≤ 18446744073709551615 := by omega
  have HNI := Lib.hid hni
  have hz : 0 ≤ zigI s ∧ zigI s < 18446744073709551616 := by unfold zigI; split <;> omega
  have hg : -9223372036854775808 ≤ zagI n ∧ zagI n ≤ 9223372036854775807 := by unfold zagI; split <;> omega
  have hzg : zagI (zigI s) = s := zag_zig s
  have hgz : zigI (zagI n) = n := zig_zag n (Int.natCast_nonneg n)
  have HZ := Lib.hid hz
  have HG := Lib.hid hg
  have HZG := Lib.hid hzg
  have HGZ := Lib.hid hgz
  obtain ⟨zs, hzs⟩ : ∃ zs, zs = zigI s := ⟨_, rfl⟩
  obtain ⟨zn, hzn⟩ : ∃ zn, zn = zagI n := ⟨_, rfl⟩
  have HZS := Lib.hid hzs
  have HZN := Lib.hid hzn
  clear hT hn hni hz hg hzg hgz hzs hzn
  by_cases hn0 : n = 0
  · subst hn0
    go_enter Tryd.func4, Tryd.ntmps4
    go_wp2_with fail
    refine (live_calls _).mono ?_
    rintro e w1 ⟨rfl, hB1⟩
    have HB1 := Lib.hid hB1
    have HT1 := Lib.hid (tab_below HT.out hB1)
    clear hB1
    go_wp2_with fail
    refine (zig_calls s _ h0 h1).mono ?_
    rintro e w' ⟨rfl, rfl⟩
    go_wp2_with fail
    refine (zag_calls _ _ HZ.out.1 HZ.out.2).mono ?_
    rintro e w' ⟨rfl, rfl⟩
    rw [HZG.out]
    go_wp2_with fail
    refine (zag_calls 0 _ (by decide) (by decide)).mono ?_
    rintro e w' ⟨rfl, rfl⟩
    rw [show zagI 0 = 0 by decide]
    go_wp2_with fail
    refine (zig_calls 0 _ (by decide) (by decide)).mono ?_
    rintro e w' ⟨rfl, rfl⟩
    rw [show zigI 0 = 0 by decide]
    go_wp2_with fail
    refine (lead_calls 0 _ (by decide) (by decide)).mono ?_
    rintro e w' ⟨rfl, rfl⟩
    rw [show (64 - (Lib.bitLen (0 : Int).toNat : Int)) = 64 by decide]
    go_wp2_with fail
    refine (trail_calls 0 _ (by decide) HT1.out).mono ?_
    rintro e w' ⟨rfl, rfl⟩
    rw [show (Lib.ctz 64 0 : Int) = 64 by decide]
    go_wp2_with fail
    go_ret
    exact ⟨rfl, HB1.out⟩
  · obtain ⟨a, c, y, z, f1, f2, f3, f4, f5, f6, f7, f8, f9, f10⟩ := turn_facts n HN.out hn0
    have HF1 := Lib.hid f1
    have HF2 := Lib.hid f2
    have hn1 : ((n : Int) == 0) = false := by simp; omega
    clear f1 f2 hn0
    have g1 : ((a : Int)).toNat = a := by omega
    have g2 : ((c : Int)).toNat = c := by omega
    go_enter Tryd.func4, Tryd.ntmps4
    go_wp2_with fail
    refine (live_calls _).mono ?_
    rintro e w1 ⟨rfl, hB1⟩
    have HB1 := Lib.hid hB1
    have HT1 := Lib.hid (tab_below HT.out hB1)
    clear hB1
    go_wp2_with fail
    refine (zig_calls s _ h0 h1).mono ?_
    rintro e w' ⟨rfl, rfl⟩
    go_wp2_with fail
    refine (zag_calls _ _ HZ.out.1 HZ.out.2).mono ?_
    rintro e w' ⟨rfl, rfl⟩
    rw [HZG.out]
    go_wp2_with fail
    refine (zag_calls n _ (Int.natCast_nonneg n) (by have := HNI.out; omega)).mono ?_
    rintro e w' ⟨rfl, rfl⟩
    go_wp2_with fail
    refine (zig_calls _ _ HG.out.1 HG.out.2).mono ?_
    rintro e w' ⟨rfl, rfl⟩
    rw [HGZ.out]
    go_wp2_with fail
    refine (lead_calls n _ (Int.natCast_nonneg n) HNI.out).mono ?_
    rintro e w' ⟨rfl, rfl⟩
    rw [Int.toNat_natCast, HF1.out, show (64 - ((64 - a : Nat) : Int)) = (a : Int) by omega]
    go_wp2_with fail
    refine (trail_calls n _ HN.out HT1.out).mono ?_
    rintro e w' ⟨rfl, rfl⟩
    rw [HF2.out]
    go_wp2_with fail
    go_ret
    exact ⟨rfl, HB1.out⟩
end Go.Proofs.YtemkfkaggdpcjaaDoor
