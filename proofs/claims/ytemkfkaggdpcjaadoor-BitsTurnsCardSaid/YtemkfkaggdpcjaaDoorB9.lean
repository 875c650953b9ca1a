/- Numbers in few bytes: Uvarint and Varint, the program's and the document's. -/
import Derived.Test.YtemkfkaggdpcjaaDoorB8
import Derived.Test.YtemkfkaggdpcjaaDoorQB
namespace Go.Proofs.YtemkfkaggdpcjaaDoor
open Go.RowKit Go.Proofs.YtemkfkaggdpcjaaDoorW.PrintWords Go.Proofs.YtemkfkaggdpcjaaDoorW.PrintMore Go.Proofs.YtemkfkaggdpcjaaDoorW.PrintLast Bq
set_option linter.unusedVariables false
set_option linter.unusedSimpArgs false
attribute [local go_sem ↓] Go.wp_at_zero Go.wp_at_succ

theorem C_at_int {k : IntKind} {w : World} {A : Option Addr} {n : Nat} {xs : List Int} (h : (Kd.int k).C w A n xs) (i : Nat) (hi : i < n) : ∃ ad, A = some ad ∧ w.cell? (ad.add i) = some (.int k (xs.getD i 0)) := by
  obtain ⟨ad, c, e, _, hK, hc⟩ := Kd.C_get h 0 (i : Int) (by omega) (by omega)
  rw [Int.toNat_natCast] at hK hc
  have hk : c = [.int k (xs.getD i 0)] := hK
  subst hk
  have h2 := hc 0 _ rfl
  refine ⟨ad, e, ?_⟩
  have e1 : i * (Kd.int k).sz + 0 = i := by show i * 1 + 0 = i; omega
  rw [e1] at h2
  exact h2
theorem Byts.get {xs : List Int} (h : Byts xs) (i : Nat) (hi : i < xs.length) : 0 ≤ xs.getD i 0 ∧ xs.getD i 0 < 256 := by
  rw [List.getD_eq_getElem?_getD, List.getElem?_eq_getElem hi]
  exact h _ (List.getElem_mem hi)
theorem drop_get (xs : List Int) (i : Nat) (hi : i < xs.length) : xs.drop i = xs.getD i 0 :: xs.drop (i + 1) := by
  rw [List.drop_eq_getElem_cons hi, List.getD_eq_getElem?_getD, List.getElem?_eq_getElem hi]
  rfl

theorem bits_comm_or (k : IntKind) (x y : Int) : bits .or k x y = bits .or k y x := by simp only [bits, BitVec.or_comm]
theorem and127 (x : Int) (h0 : 0 ≤ x) (h1 : x < 256) : bits .and .u8 x 127 = x % 128 := by
  have := bits_mask .u8 8 (by decide) wraps_u8 7 (by omega) x h0 (by omega)
  simpa using this
theorem pow128 (k : Nat) : (2 : Int) ^ (7 * k) = 128 ^ k := by rw [Int.pow_mul]; rfl
/-- One byte more. -/
theorem ug_val (k acc : Nat) (x : Int) (hk : k < 10) (hx0 : 0 ≤ x) (hx1 : x < 256) (h9 : k = 9 → x ≤ 1) (ha : acc < 128 ^ k) :
    (acc + (x % 128).toNat * 128 ^ k < 128 ^ (k + 1)) ∧ (acc + (x % 128).toNat * 128 ^ k < 18446744073709551616) := by
  have h1 : (x % 128).toNat < 128 := by omega
  constructor
  · rw [Nat.pow_succ]
    have : (x % 128).toNat * 128 ^ k ≤ 127 * 128 ^ k := Nat.mul_le_mul_right _ (by omega)
    omega
  · have hp : (128 : Nat) ^ k ≤ 128 ^ 9 := Nat.pow_le_pow_right (by decide) (by omega)
    rcases Nat.lt_or_ge k 9 with h | h
    · have hp2 : (128 : Nat) ^ k ≤ 128 ^ 8 := Nat.pow_le_pow_right (by decide) (by omega)
      have : (x % 128).toNat * 128 ^ k ≤ 127 * 128 ^ 8 := Nat.mul_le_mul (by omega) hp2
      omega
    · have hk9 : k = 9 := by omega
      subst hk9
      have := h9 rfl
      have : (x % 128).toNat ≤ 1 := by omega
      have : (x % 128).toNat * 128 ^ 9 ≤ 1 * 128 ^ 9 := Nat.mul_le_mul_right _ this
      omega

theorem or_next (k acc : Nat) (x : Int) (hk : k < 10) (hx0 : 0 ≤ x) (hx1 : x < 256) (h9 : k = 9 → x ≤ 1) (ha : acc < 128 ^ k) :
    bits .or .u64 (acc : Int) (IntKind.u64.wrap (x % 128 * 2 ^ (7 * k))) = ((acc + (x % 128).toNat * 128 ^ k : Nat) : Int) := by
  obtain ⟨h1, h2⟩ := ug_val k acc x hk hx0 hx1 h9 ha
  obtain ⟨y, hy⟩ := Int.eq_ofNat_of_zero_le (show 0 ≤ x % 128 by omega)
  rw [hy, Int.toNat_natCast] at h1 h2 ⊢
  have e1 : ((y : Int) * 2 ^ (7 * k)) = ((y * 128 ^ k : Nat) : Int) := by rw [pow128]; simp
  rw [e1, wraps_u64 _ (by omega) (by omega), bits_comm_or]
  have e3 : (2 : Nat) ^ (7 * k) = 128 ^ k := by rw [Nat.pow_mul]
  have e2 := bits_join .u64 64 (by decide) wraps_u64 (7 * k) ((y * 128 ^ k : Nat) : Int) (acc : Int) (by omega) (by
    have : y * 128 ^ k % 2 ^ (7 * k) = 0 := by rw [e3]; exact Nat.mul_mod_left _ _
    exact_mod_cast this) (by omega) (by omega) (by
    have : acc < 2 ^ (7 * k) := by rw [e3]; exact ha
    exact_mod_cast this) (by omega)
  rw [e2]
  omega
theorem ug_sum (k acc : Nat) (x : Int) (hx0 : 0 ≤ x) (hx1 : x < 128) : ((acc + (x % 128).toNat * 128 ^ k : Nat) : Int) = (acc : Int) + x * 128 ^ k := by
  obtain ⟨y, rfl⟩ := Int.eq_ofNat_of_zero_le hx0
  rw [show ((y : Int) % 128).toNat = y by omega]
  simp
theorem ug_stop9 (acc : Nat) (x : Int) (xs : List Int) (h : 1 < x) : ug 9 acc (x :: xs) = (0, 0, 9) := by rw [ug, if_neg (by decide), if_pos ⟨rfl, h⟩]
theorem ug_form (k acc : Nat) (xs : List Int) (hk : k < 10) (h0 : 0 < k) : ug k acc (0 :: xs) = (0, 0, 8) := by rw [ug, if_neg (by omega), if_neg (by omega), if_pos (by decide), if_pos ⟨h0, rfl⟩]
theorem ug_end (k acc : Nat) (x : Int) (xs : List Int) (hk : k < 10) (h9 : ¬ (k = 9 ∧ 1 < x)) (h128 : x < 128) (h0 : ¬ (0 < k ∧ x = 0)) : ug k acc (x :: xs) = ((acc : Int) + x * 128 ^ k, (k : Int) + 1, 0) := by
  rw [ug, if_neg (by omega), if_neg h9, if_pos h128, if_neg h0]
theorem ug_more (k acc : Nat) (x : Int) (xs : List Int) (hk : k < 10) (h9 : ¬ (k = 9 ∧ 1 < x)) (h128 : ¬ x < 128) : ug k acc (x :: xs) = ug (k + 1) (acc + (x.toNat - 128) * 128 ^ k) xs := by
  rw [ug, if_neg (by omega), if_neg h9, if_neg h128]

set_option maxHeartbeats 4000000 in
theorem uvarint_calls (w : World) (A : Option Addr) (c : Nat) (xs : List Int) (hC : (Kd.int .u8).C w A xs.length xs) (hb : Byts xs) (hs : xs.length ≤ 1000000000000) :
    Calls Tryd.prog 16 #[.slice A xs.length c] w fun e w' => e = .returned (.tuple #[.int .u64 (uget xs).1, .int .i64 (uget xs).2.1, .int .i64 (uget xs).2.2]) ∧ w = w' := by
  have HC := Lib.hid hC
  have HB := Lib.hid hb
  clear hC hb
  go_enter Tryd.func16, Tryd.ntmps16
  go_wp2
  go_step3
  go_wp2
  go_step3
  go_wp2
  go_loopg [5, 6] 10 (fun kq s5 s6 wr => w = wr ∧ ∃ k acc : Nat, k + kq = 10 ∧ s6 = .int .i64 k ∧ s5 = .int .u64 acc ∧ Hid (acc < 128 ^ k) ∧ Hid (ug k acc (xs.drop k) = uget xs))
  case atStart => exact ⟨rfl, 0, 0, rfl, rfl, rfl, by unfold Hid; decide, rfl⟩
  case round =>
    obtain ⟨rfl, k, acc, hk, rfl, rfl, ha, hu⟩ := hrel
    by_cases hk10 : k < 10
    · by_cases hlt : k < xs.length
      · obtain ⟨ad, hA, hcell⟩ := C_at_int HC.out k hlt
        subst hA
        obtain ⟨hx0, hx1⟩ := HB.out.get k hlt
        have hdrop := drop_get xs k hlt
        have HD := Lib.hid hdrop
        clear hdrop
        obtain ⟨x, hx⟩ : ∃ x, x = xs.getD k 0 := ⟨_, rfl⟩
        rw [← hx] at hx0 hx1 hcell
        have HX := Lib.hid hx
        clear hx
        have hb0 : decide ((xs.length : Int) ≤ (k : Int)) = false := decide_eq_false (by omega)
        have hand := and127 x hx0 hx1
        by_cases h9 : k = 9 ∧ 1 < x
        · obtain ⟨h9a, h9b⟩ := h9
          have hb1 : ((k : Int) == 9) = true := by simp [h9a]
          have hb2 : decide (1 < x) = true := decide_eq_true h9b
          have H9 := Lib.hid h9a
          clear h9a
          go_wp2
          rw [Exit.noGoto_ret]
          go_ret3
          have h := hu.out
          rw [HD.out, ← HX.out, H9.out, ug_stop9 _ _ _ h9b] at h
          rw [← h]
          exact ⟨rfl, rfl⟩
        · by_cases h128 : x < 128
          · have h9c : (((k : Int) == 9) && decide (1 < x)) = false := by
              rw [Bool.and_eq_false_iff]
              rcases Decidable.not_and_iff_or_not.1 h9 with h | h
              · left; simp; omega
              · right; exact decide_eq_false h
            have hb2 : decide (x < 128) = true := decide_eq_true h128
            have H9 := Lib.hid h9
            clear h9
            have HV := Lib.hid (or_next k acc x hk10 hx0 hx1 (fun h => by have := H9.out; omega) ha.out)
            by_cases hk9 : k = 9
            · have hkb : ((k : Int) == 9) = true := by simp [hk9]
              have hxb : decide (1 < x) = false := decide_eq_false (by have := H9.out; omega)
              have hk0 : decide (0 < (k : Int)) = true := decide_eq_true (by omega)
              have hkp : 0 < k := by omega
              clear hk9 h9c
              by_cases hx00 : x = 0
              · have hxz : (x == 0) = true := by simp [hx00]
                have HXZ := Lib.hid hx00
                clear hx00
                go_wp2
                rw [Exit.noGoto_ret]
                go_ret3
                have h := hu.out
                rw [HD.out, ← HX.out, HXZ.out, ug_form k acc _ hk10 (by omega)] at h
                rw [← h]
                exact ⟨rfl, rfl⟩
              · have hxz : (x == 0) = false := by simp [hx00]
                have H0 := Lib.hid (show ¬ (0 < k ∧ x = 0) from fun h => hx00 h.2)
                clear hx00
                go_wp2
                rw [Exit.noGoto_ret]
                go_ret3
                have h := hu.out
                rw [HD.out, ← HX.out, ug_end k acc x _ hk10 H9.out h128 H0.out] at h
                rw [← h, ← ug_sum k acc x hx0 h128, ← HV.out]
                exact ⟨rfl, rfl⟩
            · have hkb : ((k : Int) == 9) = false := by simp; omega
              clear hk9 h9c
              by_cases hkz : k = 0
              · have hk0 : decide (0 < (k : Int)) = false := decide_eq_false (by omega)
                have hk0n : decide (0 < k) = false := decide_eq_false (by omega)
                have hk0m : ¬ 0 < k := by omega
                have H0 := Lib.hid (show ¬ (0 < k ∧ x = 0) from fun h => by omega)
                clear hkz
                go_wp2
                rw [Exit.noGoto_ret]
                go_ret3
                have h := hu.out
                rw [HD.out, ← HX.out, ug_end k acc x _ hk10 H9.out h128 H0.out] at h
                rw [← h, ← ug_sum k acc x hx0 h128, ← HV.out]
                exact ⟨rfl, rfl⟩
              · have hk0 : decide (0 < (k : Int)) = true := decide_eq_true (by omega)
                have hkp : 0 < k := by omega
                clear hkz
                by_cases hx00 : x = 0
                · have hxz : (x == 0) = true := by simp [hx00]
                  have HXZ := Lib.hid hx00
                  clear hx00
                  go_wp2
                  rw [Exit.noGoto_ret]
                  go_ret3
                  have h := hu.out
                  rw [HD.out, ← HX.out, HXZ.out, ug_form k acc _ hk10 (by omega)] at h
                  rw [← h]
                  exact ⟨rfl, rfl⟩
                · have hxz : (x == 0) = false := by simp [hx00]
                  have H0 := Lib.hid (show ¬ (0 < k ∧ x = 0) from fun h => hx00 h.2)
                  clear hx00
                  go_wp2
                  rw [Exit.noGoto_ret]
                  go_ret3
                  have h := hu.out
                  rw [HD.out, ← HX.out, ug_end k acc x _ hk10 H9.out h128 H0.out] at h
                  rw [← h, ← ug_sum k acc x hx0 h128, ← HV.out]
                  exact ⟨rfl, rfl⟩
          · have h9c : ((k : Int) == 9) = false := by
              have : k ≠ 9 := fun h => h9 ⟨h, by omega⟩
              simp; omega
            have hb2 : decide (x < 128) = false := decide_eq_false h128
            have H9 := Lib.hid h9
            clear h9
            go_wp2
            go_roundg (gk - 1)
            case measure => omega
            case rel =>
              have hv := or_next k acc x hk10 hx0 hx1 (fun h => by have := H9.out; omega) ha.out
              have hx3 : (x % 128).toNat = x.toNat - 128 := by omega
              have hb3 := (ug_val k acc x hk10 hx0 hx1 (fun h => by have := H9.out; omega) ha.out).1
              rw [hv, hx3]
              rw [hx3] at hb3
              refine ⟨rfl, k + 1, _, by omega, by go_num, rfl, hb3, ?_⟩
              have h := hu.out
              rw [HD.out, ← HX.out, ug_more k acc x _ hk10 H9.out (by omega)] at h
              exact h
      · have hge : (xs.length : Int) ≤ (k : Int) := by omega
        have hb1 : decide ((xs.length : Int) ≤ (k : Int)) = true := decide_eq_true hge
        go_wp2
        rw [Exit.noGoto_ret]
        go_ret3
        have h := hu.out
        rw [List.drop_of_length_le (by omega), ug, if_pos hk10] at h
        rw [← h]
        exact ⟨rfl, rfl⟩
    · go_wp2
      rw [Exit.noGoto_ret]
      go_ret3
      have h := hu.out
      have h2 : ug k acc (xs.drop k) = (0, 0, 9) := by
        cases xs.drop k with
        | nil => rw [ug, if_neg hk10]
        | cons y ys => rw [ug, if_pos (by omega)]
      rw [h2] at h
      rw [← h]
      exact ⟨rfl, rfl⟩
end Go.Proofs.YtemkfkaggdpcjaaDoor
