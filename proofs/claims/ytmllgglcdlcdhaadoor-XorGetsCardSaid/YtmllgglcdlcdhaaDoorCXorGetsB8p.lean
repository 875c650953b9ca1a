import Derived.Test.YtmllgglcdlcdhaaDoorCXorGetsB9
namespace Go.Proofs.YtmllgglcdlcdhaaDoor.Bq
end Go.Proofs.YtmllgglcdlcdhaaDoor.Bq
section
namespace Go.Proofs.YtmllgglcdlcdhaaDoor
open Go.RowKit Go.Proofs.YtmllgglcdlcdhaaDoorW.PrintWords Go.Proofs.YtmllgglcdlcdhaaDoorW.PrintMore Go.Proofs.YtmllgglcdlcdhaaDoorW.PrintLast Bq
set_option linter.unusedVariables false
set_option maxRecDepth 100000
set_option linter.unusedSimpArgs false
attribute [local go_sem ↓] Go.wp_at_zero Go.wp_at_succ
theorem add_next (k acc : Nat) (x : Int) (hk : k < 10) (hx0 : 0 ≤ x) (hx1 : x < 256) (h9 : k = 9 → x ≤ 1) (ha : acc < 128 ^ k) :
    IntKind.u64.wrap ((acc : Int) + IntKind.u64.wrap (x % 128 * 2 ^ (7 * k))) = ((acc + (x % 128).toNat * 128 ^ k : Nat) : Int) := by
  obtain ⟨h1, h2⟩ := ug_val k acc x hk hx0 hx1 h9 ha
  obtain ⟨y, hy⟩ := Int.eq_ofNat_of_zero_le (show 0 ≤ x % 128 by omega)
  rw [hy, Int.toNat_natCast] at h1 h2 ⊢
  have e1 : ((y : Int) * 2 ^ (7 * k)) = ((y * 128 ^ k : Nat) : Int) := by rw [pow128]; simp
  rw [e1]
  generalize y * 128 ^ k = m at h1 h2 ⊢
  rw [wraps_u64 (m : Int) (by omega) (by omega), wraps_u64 _ (by omega) (by omega)]
  omega
set_option maxHeartbeats 4000000 in
theorem ruvarint_calls (w : World) (A : Option Addr) (c : Nat) (xs : List Int) (hC : (Kd.int .u8).C w A xs.length xs) (hb : Byts xs) (hs : xs.length ≤ 1000000000000) :
    Calls Tryd.prog 58 #[.slice A xs.length c] w fun e w' => e = .returned (.tuple #[.int .u64 (uget xs).1, .int .i64 (uget xs).2.1, .int .i64 (uget xs).2.2]) ∧ w = w' := by
  have HC := Lib.hid hC
  have HB := Lib.hid hb
  clear hC hb
  go_enter Tryd.func58, Tryd.ntmps58
  go_wp2
  go_loopg [5, 7] 10 (fun kq s5 s6 wr => w = wr ∧ ∃ k acc : Nat, k + kq = 10 ∧ s6 = .int .i64 k ∧ s5 = .int .u64 acc ∧ Hid (acc < 128 ^ k) ∧ Hid (ug k acc (xs.drop k) = uget xs) ∧ Hid (k ≤ xs.length))
  case atStart => exact ⟨rfl, 0, 0, rfl, rfl, rfl, by unfold Hid; decide, rfl, Nat.zero_le _⟩
  case round =>
    obtain ⟨rfl, k, acc, hk, rfl, rfl, ha, hu, HLE⟩ := hrel
    by_cases hk10 : k < 10
    · by_cases hlt : k < xs.length
      · obtain ⟨ad, hA, hcell⟩ := C_at_int HC.out k hlt
        subst hA
        obtain ⟨hx0, hx1⟩ := HB.out.get k hlt
        have hdrop := drop_get xs k hlt
        have HD := Lib.hid hdrop
        clear hdrop
        obtain ⟨x, hx⟩ : ∃ x, x = xs.getD k 0 := ⟨_, rfl⟩
        rw [← hx] at hx0 hx1 hcell
        have HX := Lib.hid hx
        clear hx
        have hb0 : ((k : Int) == (xs.length : Int)) = false := by simp; omega
        by_cases h9 : k = 9 ∧ 1 < x
        · obtain ⟨h9a, h9b⟩ := h9
          have hb1 : ((k : Int) == 9) = true := by simp [h9a]
          have hb2 : decide (1 < x) = true := decide_eq_true h9b
          have H9 := Lib.hid h9a
          clear h9a
          go_wp2
          go_ret3
          have h := hu.out
          rw [HD.out, ← HX.out, H9.out, ug_stop9 _ _ _ h9b] at h
          rw [← h]
          exact ⟨rfl, rfl⟩
        · by_cases h128 : x < 128
          · have h9c : (((k : Int) == 9) && decide (1 < x)) = false := by
              rw [Bool.and_eq_false_iff]
              rcases Decidable.not_and_iff_or_not.1 h9 with h | h
              · left; simp; omega
              · right; exact decide_eq_false h
            have hb2 : decide (x < 128) = true := decide_eq_true h128
            have H9 := Lib.hid h9
            clear h9
            have HV := Lib.hid (add_next k acc x hk10 hx0 hx1 (fun h => by have := H9.out; omega) ha.out)
            by_cases hk9 : k = 9
            · have hkb : ((k : Int) == 9) = true := by simp [hk9]
              have hxb : decide (1 < x) = false := decide_eq_false (by have := H9.out; omega)
              have hk0 : decide (0 < (k : Int)) = true := decide_eq_true (by omega)
              have hkp : 0 < k := by omega
              clear hk9 h9c
              by_cases hx00 : x = 0
              · have hxz : (x == 0) = true := by simp [hx00]
                have HXZ := Lib.hid hx00
                clear hx00
                go_wp2
                go_ret3
                have h := hu.out
                rw [HD.out, ← HX.out, HXZ.out, ug_form k acc _ hk10 (by omega)] at h
                rw [← h]
                exact ⟨rfl, rfl⟩
              · have hxz : (x == 0) = false := by simp [hx00]
                have H0 := Lib.hid (show ¬ (0 < k ∧ x = 0) from fun h => hx00 h.2)
                clear hx00
                go_wp2
                go_ret3
                have h := hu.out
                rw [HD.out, ← HX.out, ug_end k acc x _ hk10 H9.out h128 H0.out] at h
                rw [← h, ← ug_sum k acc x hx0 h128, ← HV.out]
                exact ⟨rfl, rfl⟩
            · have hkb : ((k : Int) == 9) = false := by simp; omega
              clear hk9 h9c
              by_cases hkz : k = 0
              · have hk0 : decide (0 < (k : Int)) = false := decide_eq_false (by omega)
                have hk0n : decide (0 < k) = false := decide_eq_false (by omega)
                have hk0m : ¬ 0 < k := by omega
                have H0 := Lib.hid (show ¬ (0 < k ∧ x = 0) from fun h => by omega)
                clear hkz
                go_wp2
                go_ret3
                have h := hu.out
                rw [HD.out, ← HX.out, ug_end k acc x _ hk10 H9.out h128 H0.out] at h
                rw [← h, ← ug_sum k acc x hx0 h128, ← HV.out]
                exact ⟨rfl, rfl⟩
              · have hk0 : decide (0 < (k : Int)) = true := decide_eq_true (by omega)
                have hkp : 0 < k := by omega
                clear hkz
                by_cases hx00 : x = 0
                · have hxz : (x == 0) = true := by simp [hx00]
                  have HXZ := Lib.hid hx00
                  clear hx00
                  go_wp2
                  go_ret3
                  have h := hu.out
                  rw [HD.out, ← HX.out, HXZ.out, ug_form k acc _ hk10 (by omega)] at h
                  rw [← h]
                  exact ⟨rfl, rfl⟩
                · have hxz : (x == 0) = false := by simp [hx00]
                  have H0 := Lib.hid (show ¬ (0 < k ∧ x = 0) from fun h => hx00 h.2)
                  clear hx00
                  go_wp2
                  go_ret3
                  have h := hu.out
                  rw [HD.out, ← HX.out, ug_end k acc x _ hk10 H9.out h128 H0.out] at h
                  rw [← h, ← ug_sum k acc x hx0 h128, ← HV.out]
                  exact ⟨rfl, rfl⟩
          · have h9c : ((k : Int) == 9) = false := by
              have : k ≠ 9 := fun h => h9 ⟨h, by omega⟩
              simp; omega
            have hb2 : decide (x < 128) = false := decide_eq_false h128
            have H9 := Lib.hid h9
            clear h9
            go_wp2
            go_roundg (gk - 1)
            case measure => omega
            case rel =>
              have hv := add_next k acc x hk10 hx0 hx1 (fun h => by have := H9.out; omega) ha.out
              have hx3 : (x % 128).toNat = x.toNat - 128 := by omega
              have hb3 := (ug_val k acc x hk10 hx0 hx1 (fun h => by have := H9.out; omega) ha.out).1
              rw [hv, hx3]
              rw [hx3] at hb3
              refine ⟨rfl, k + 1, _, by omega, by go_num, rfl, hb3, ?_⟩
              have h := hu.out
              rw [HD.out, ← HX.out, ug_more k acc x _ hk10 H9.out (by omega)] at h
              exact ⟨h, hlt⟩
      · have hge : (xs.length : Int) ≤ (k : Int) := by omega
        have hle := HLE.out
        have hb1 : ((k : Int) == (xs.length : Int)) = true := by simp; omega
        go_wp2
        go_ret3
        have h := hu.out
        rw [List.drop_of_length_le (by omega), ug, if_pos hk10] at h
        rw [← h]
        exact ⟨rfl, rfl⟩
    · go_wp2
      go_ret3
      have h := hu.out
      have h2 : ug k acc (xs.drop k) = (0, 0, 9) := by
        cases xs.drop k with
        | nil => rw [ug, if_neg hk10]
        | cons y ys => rw [ug, if_pos (by omega)]
      rw [h2] at h
      rw [← h]
      exact ⟨rfl, rfl⟩
end Go.Proofs.YtmllgglcdlcdhaaDoor
end
section
namespace Go.Proofs.YtmllgglcdlcdhaaDoor
open Go.RowKit Go.Proofs.YtmllgglcdlcdhaaDoorW.PrintWords Go.Proofs.YtmllgglcdlcdhaaDoorW.PrintMore Go.Proofs.YtmllgglcdlcdhaaDoorW.PrintLast Bq
set_option linter.unusedVariables false
set_option maxRecDepth 100000
set_option linter.unusedSimpArgs false
attribute [local go_sem ↓] Go.wp_at_zero Go.wp_at_succ
theorem or128 (n : Nat) : bits .or .u8 (((n : Int)) % 256) 128 = ((n % 128 + 128 : Nat) : Int) := by
  have e : ((n : Int)) % 256 = ((n % 256 : Nat) : Int) := by omega
  rw [e, show (128 : Int) = ((128 : Nat) : Int) from rfl, (bits_nat .u8 8 (by decide) wraps_u8 (n % 256) 128 (by omega) (by omega)).2]
  congr 1
  have h : n % 256 = n / 128 % 2 * 128 + n % 128 := by omega
  rcases (show n / 128 % 2 = 0 ∨ n / 128 % 2 = 1 by omega) with h2 | h2
  · rw [h, h2, Nat.zero_mul, Nat.zero_add]
    have := Nat.two_pow_add_eq_or_of_lt (b := n % 128) (i := 7) (by omega) 1
    simp only [Nat.reducePow, Nat.mul_one] at this
    rw [Nat.or_comm]
    omega
  · rw [h, h2, Nat.one_mul]
    have := Nat.two_pow_add_eq_or_of_lt (b := n % 128) (i := 7) (by omega) 1
    simp only [Nat.reducePow, Nat.mul_one] at this
    rw [this, Nat.or_assoc, Nat.or_comm (n % 128) 128, ← Nat.or_assoc, Nat.or_self, ← this]
    omega
set_option maxHeartbeats 1000000 in
theorem putUvarint_calls (w : World) (n : Nat) (hn : n < 18446744073709551616) :
    Calls Tryd.prog 64 #[.int .u64 n] w fun e w' => ∃ v, e = .returned v ∧ (Kd.int .u8).R 5 w' w.heap.size (fun _ => True) v (ints (uv n)) ∧ Below w.heap.size w w' := by
  obtain ⟨i0, hi, hz0, hz1, hz2⟩ := info_parts info_u8
  have hlen := uv_len10 n hn
  have HLEN := Lib.hid hlen
  clear hlen
  go_enter Tryd.func64, Tryd.ntmps64
  go_wp2_with (at_make; refine wpList_make_own _ rfl _ _ 24 rfl w.heap.size 5 i0 (.int .u8 0) 1 Tryd.underlying24 hi hz0 hz1 .i64 .i64 10 10 rfl rfl rfl (by rw [hz2]; decide) (by unfold maxLen; decide) (Nat.le_refl _) ?_; intro w1 hown hgrow)
  have hR : (Kd.int .u8).R 5 w1 w.heap.size (fun _ => True) (.slice (some ⟨w.heap.size, 0, none⟩) 0 10) [] := (plain_int .u8).R_of (fun _ _ => trivial) hown
  have hB : Below w.heap.size w w1 := (Below.refl _ w).grown hgrow (Nat.le_refl _) (fun k h => by cases h)
  have HR := Lib.hid hR
  have HB := Lib.hid hB
  clear hR hB hown hgrow
  go_loopg [0, 3] n (fun m s0 s3 wr => s0 = .int .u64 m ∧ m < 18446744073709551616 ∧ ∃ pre, Hid (pre ++ uv m = uv n) ∧ Hid ((Kd.int .u8).R 5 wr w.heap.size (fun _ => True) s3 (ints pre)) ∧ Hid (Below w.heap.size w wr))
  case atStart => exact ⟨rfl, hn, [], rfl, HR.out, HB.out⟩
  case round =>
    obtain ⟨rfl, hgk, pre, hpre, hRr, hBr⟩ := hrel
    obtain ⟨A, c, hs3⟩ := Kd.R_slice hRr.out
    subst hs3
    have hpl : pre.length ≤ 9 := by
      have h1 := congrArg List.length hpre.out
      have h2 := uv_pos gk
      have h3 := HLEN.out
      rw [List.length_append] at h1
      omega
    have hBs := hBr.out.size
    by_cases hlt : 127 < gk
    · go_wp2_with (at_builtin; refine Kd.R_append (Kd.int .u8) (w0 := wr) (W := wr) w.heap.size rfl (.tmp 7) (.tmp 11) 24 5 (.int .u8 0) 1 rfl Tryd.underlying24 info_u8 rfl (by decide) (by decide) _ (ints pre) (bits .or .u8 ((gk : Int) % 256) 128) [.int .u8 (bits .or .u8 ((gk : Int) % 256) 128)] (fun _ => True) (fun _ => False) rfl rfl rfl (fun _ h => h.elim) (fun _ _ => trivial) hRr.out (Below.refl _ _) hBs (by rw [ints_length]; omega) ?_; intro v1 w2 hR2 _ hg2 _; have HR2 := Lib.hid hR2; have HG2 := Lib.hid hg2; clear hR2 hg2)
      go_roundg (gk / 128)
      case measure => omega
      case rel =>
        refine ⟨by go_num, by omega, pre ++ [gk % 128 + 128], ?_, ?_, hBr.out.trans (Mod.below (S := fun k => w.heap.size ≤ k) ((Mod.refl _ _).grown HG2.out (fun k hk => .inl (Kd.R_base hRr.out k hk))) hBs (fun k hk => hk))⟩
        · show pre ++ [gk % 128 + 128] ++ uv (gk / 128) = uv n
          rw [← hpre.out, uv_big gk (by omega), List.append_assoc]
          rfl
        · rw [or128] at HR2
          rw [ints_append]
          exact HR2.out
    · go_wp2_with (at_builtin; refine Kd.R_append (Kd.int .u8) (w0 := wr) (W := wr) w.heap.size rfl (.tmp 15) (.tmp 18) 24 5 (.int .u8 0) 1 rfl Tryd.underlying24 info_u8 rfl (by decide) (by decide) _ (ints pre) (gk : Int) [.int .u8 (gk : Int)] (fun _ => True) (fun _ => False) rfl rfl rfl (fun _ h => h.elim) (fun _ _ => trivial) hRr.out (Below.refl _ _) hBs (by rw [ints_length]; omega) ?_; intro v1 w2 hR2 _ hg2 _; have HR2 := Lib.hid hR2; have HG2 := Lib.hid hg2; clear hR2 hg2)
      go_ret
      have hp : ints pre ++ [(gk : Int)] = ints (uv n) := by
        rw [← hpre.out, uv_small gk (by omega), ints_append]
        rfl
      have h2 := HR2.out
      rw [hp] at h2
      exact ⟨v1, rfl, h2, hBr.out.trans (Mod.below (S := fun k => w.heap.size ≤ k) ((Mod.refl _ _).grown HG2.out (fun k hk => .inl (Kd.R_base hRr.out k hk))) hBs (fun k hk => hk))⟩
theorem putVarint_calls (w : World) (n : Int) (h0 : -9223372036854775808 ≤ n) (h1 : n ≤ 9223372036854775807) :
    Calls Tryd.prog 63 #[.int .i64 n] w fun e w' => ∃ v, e = .returned v ∧ (Kd.int .u8).R 5 w' w.heap.size (fun _ => True) v (ints (uv (zigI n).toNat)) ∧ Below w.heap.size w w' := by
  have hz : 0 ≤ zigI n ∧ zigI n < 18446744073709551616 := by unfold zigI; split <;> omega
  obtain ⟨z, hz2⟩ := Int.eq_ofNat_of_zero_le hz.1
  have hz3 : z < 18446744073709551616 := by omega
  have HZ := Lib.hid hz2
  clear hz hz2
  go_enter Tryd.func63, Tryd.ntmps63
  go_wp2_with fail
  refine (zig_calls _ _ h0 h1).mono ?_
  rintro e w' ⟨rfl, rfl⟩
  rw [HZ.out]
  go_wp2_with fail
  refine (putUvarint_calls _ z hz3).mono ?_
  rintro e w' ⟨v, rfl, hR, hB⟩
  have HR := Lib.hid hR
  have HB := Lib.hid hB
  clear hR hB
  go_wp2_with fail
  go_ret
  exact ⟨v, rfl, by rw [HZ.out, Int.toNat_natCast]; exact HR.out, HB.out⟩
end Go.Proofs.YtmllgglcdlcdhaaDoor
end
