import Derived.Test.YtmllgglcdlcdhaaDoorCXorCutB10
namespace Go.Proofs.YtmllgglcdlcdhaaDoor.Bq
end Go.Proofs.YtmllgglcdlcdhaaDoor.Bq
namespace Go.Proofs.YtmllgglcdlcdhaaDoor
open Go.RowKit Go.Proofs.YtmllgglcdlcdhaaDoorW.PrintWords Go.Proofs.YtmllgglcdlcdhaaDoorW.PrintMore Go.Proofs.YtmllgglcdlcdhaaDoorW.PrintLast Bq
set_option linter.unusedVariables false
set_option maxRecDepth 100000
set_option linter.unusedSimpArgs false
attribute [local go_sem ↓] Go.wp_at_zero Go.wp_at_succ
theorem or128 (n : Nat) : bits .or .u8 (((n : Int)) % 256) 128 = ((n % 128 + 128 : Nat) : Int) := by
  have e : ((n : Int)) % 256 = ((n % 256 : Nat) : Int) := by omega
  rw [e, show (128 : Int) = ((128 : Nat) : Int) from rfl, (bits_nat .u8 8 (by decide) wraps_u8 (n % 256) 128 (by omega) (by omega)).2]
  congr 1
  have h : n % 256 = n / 128 % 2 * 128 + n % 128 := by omega
  rcases (show n / 128 % 2 = 0 ∨ n / 128 % 2 = 1 by omega) with h2 | h2
  · rw [h, h2, Nat.zero_mul, Nat.zero_add]
    have := Nat.two_pow_add_eq_or_of_lt (b := n % 128) (i := 7) (by omega) 1
    simp only [Nat.reducePow, Nat.mul_one] at this
    rw [Nat.or_comm]
    omega
  · rw [h, h2, Nat.one_mul]
    have := Nat.two_pow_add_eq_or_of_lt (b := n % 128) (i := 7) (by omega) 1
    simp only [Nat.reducePow, Nat.mul_one] at this
    rw [this, Nat.or_assoc, Nat.or_comm (n % 128) 128, ← Nat.or_assoc, Nat.or_self, ← this]
    omega
set_option maxHeartbeats 1000000 in
theorem putUvarint_calls (w : World) (n : Nat) (hn : n < 18446744073709551616) :
    Calls Tryd.prog 64 #[.int .u64 n] w fun e w' => ∃ v, e = .returned v ∧ (Kd.int .u8).R 5 w' w.heap.size (fun _ => True) v (ints (uv n)) ∧ Below w.heap.size w w' := by
  obtain ⟨i0, hi, hz0, hz1, hz2⟩ := info_parts info_u8
  have hlen := uv_len10 n hn
  have HLEN := Lib.hid hlen
  clear hlen
  go_enter Tryd.func64, Tryd.ntmps64
  go_wp2_with (at_make; refine wpList_make_own _ rfl _ _ 24 rfl w.heap.size 5 i0 (.int .u8 0) 1 Tryd.underlying24 hi hz0 hz1 .i64 .i64 10 10 rfl rfl rfl (by rw [hz2]; decide) (by unfold maxLen; decide) (Nat.le_refl _) ?_; intro w1 hown hgrow)
  have hR : (Kd.int .u8).R 5 w1 w.heap.size (fun _ => True) (.slice (some ⟨w.heap.size, 0, none⟩) 0 10) [] := (plain_int .u8).R_of (fun _ _ => trivial) hown
  have hB : Below w.heap.size w w1 := (Below.refl _ w).grown hgrow (Nat.le_refl _) (fun k h => by cases h)
  have HR := Lib.hid hR
  have HB := Lib.hid hB
  clear hR hB hown hgrow
  go_loopg [0, 3] n (fun m s0 s3 wr => s0 = .int .u64 m ∧ m < 18446744073709551616 ∧ ∃ pre, Hid (pre ++ uv m = uv n) ∧ Hid ((Kd.int .u8).R 5 wr w.heap.size (fun _ => True) s3 (ints pre)) ∧ Hid (Below w.heap.size w wr))
  case atStart => exact ⟨rfl, hn, [], rfl, HR.out, HB.out⟩
  case round =>
    obtain ⟨rfl, hgk, pre, hpre, hRr, hBr⟩ := hrel
    obtain ⟨A, c, hs3⟩ := Kd.R_slice hRr.out
    subst hs3
    have hpl : pre.length ≤ 9 := by
      have h1 := congrArg List.length hpre.out
      have h2 := uv_pos gk
      have h3 := HLEN.out
      rw [List.length_append] at h1
      omega
    have hBs := hBr.out.size
    by_cases hlt : 127 < gk
    · go_wp2_with (at_builtin; refine Kd.R_append (Kd.int .u8) (w0 := wr) (W := wr) w.heap.size rfl (.tmp 7) (.tmp 11) 24 5 (.int .u8 0) 1 rfl Tryd.underlying24 info_u8 rfl (by decide) (by decide) _ (ints pre) (bits .or .u8 ((gk : Int) % 256) 128) [.int .u8 (bits .or .u8 ((gk : Int) % 256) 128)] (fun _ => True) (fun _ => False) rfl rfl rfl (fun _ h => h.elim) (fun _ _ => trivial) hRr.out (Below.refl _ _) hBs (by rw [ints_length]; omega) ?_; intro v1 w2 hR2 _ hg2 _; have HR2 := Lib.hid hR2; have HG2 := Lib.hid hg2; clear hR2 hg2)
      go_roundg (gk / 128)
      case measure => omega
      case rel =>
        refine ⟨by go_num, by omega, pre ++ [gk % 128 + 128], ?_, ?_, hBr.out.trans (Mod.below (S := fun k => w.heap.size ≤ k) ((Mod.refl _ _).grown HG2.out (fun k hk => .inl (Kd.R_base hRr.out k hk))) hBs (fun k hk => hk))⟩
        · show pre ++ [gk % 128 + 128] ++ uv (gk / 128) = uv n
          rw [← hpre.out, uv_big gk (by omega), List.append_assoc]
          rfl
        · rw [or128] at HR2
          rw [ints_append]
          exact HR2.out
    · go_wp2_with (at_builtin; refine Kd.R_append (Kd.int .u8) (w0 := wr) (W := wr) w.heap.size rfl (.tmp 15) (.tmp 18) 24 5 (.int .u8 0) 1 rfl Tryd.underlying24 info_u8 rfl (by decide) (by decide) _ (ints pre) (gk : Int) [.int .u8 (gk : Int)] (fun _ => True) (fun _ => False) rfl rfl rfl (fun _ h => h.elim) (fun _ _ => trivial) hRr.out (Below.refl _ _) hBs (by rw [ints_length]; omega) ?_; intro v1 w2 hR2 _ hg2 _; have HR2 := Lib.hid hR2; have HG2 := Lib.hid hg2; clear hR2 hg2)
      go_ret
      have hp : ints pre ++ [(gk : Int)] = ints (uv n) := by
        rw [← hpre.out, uv_small gk (by omega), ints_append]
        rfl
      have h2 := HR2.out
      rw [hp] at h2
      exact ⟨v1, rfl, h2, hBr.out.trans (Mod.below (S := fun k => w.heap.size ≤ k) ((Mod.refl _ _).grown HG2.out (fun k hk => .inl (Kd.R_base hRr.out k hk))) hBs (fun k hk => hk))⟩
theorem putVarint_calls (w : World) (n : Int) (h0 : -9223372036854775808 ≤ n) (h1 : n ≤ 9223372036854775807) :
    Calls Tryd.prog 63 #[.int .i64 n] w fun e w' => ∃ v, e = .returned v ∧ (Kd.int .u8).R 5 w' w.heap.size (fun _ => True) v (ints (uv (zigI n).toNat)) ∧ Below w.heap.size w w' := by
  have hz : 0 ≤ zigI n ∧ zigI n < 18446744073709551616 := by unfold zigI; split <;> omega
  obtain ⟨z, hz2⟩ := Int.eq_ofNat_of_zero_le hz.1
  have hz3 : z < 18446744073709551616 := by omega
  have HZ := Lib.hid hz2
  clear hz hz2
  go_enter Tryd.func63, Tryd.ntmps63
  go_wp2_with fail
  refine (zig_calls _ _ h0 h1).mono ?_
  rintro e w' ⟨rfl, rfl⟩
  rw [HZ.out]
  go_wp2_with fail
  refine (putUvarint_calls _ z hz3).mono ?_
  rintro e w' ⟨v, rfl, hR, hB⟩
  have HR := Lib.hid hR
  have HB := Lib.hid hB
  clear hR hB
  go_wp2_with fail
  go_ret
  exact ⟨v, rfl, by rw [HZ.out, Int.toNat_natCast]; exact HR.out, HB.out⟩
end Go.Proofs.YtmllgglcdlcdhaaDoor
