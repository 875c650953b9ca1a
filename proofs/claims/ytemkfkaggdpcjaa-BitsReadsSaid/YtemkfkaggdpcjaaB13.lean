/- Numbers with a sign in few bytes, the program's and the document's. -/
import Derived.Test.YtemkfkaggdpcjaaB12
namespace Go.Proofs.Ytemkfkaggdpcjaa
open Go.RowKit Go.Proofs.YtemkfkaggdpcjaaW.PrintWords Go.Proofs.YtemkfkaggdpcjaaW.PrintMore Go.Proofs.YtemkfkaggdpcjaaW.PrintLast Bq
set_option linter.unusedVariables false
set_option linter.unusedSimpArgs false
attribute [local go_sem ↓] Go.wp_at_zero Go.wp_at_succ

theorem ug_bad : ∀ (xs : List Int) (k acc : Nat), (ug k acc xs).2.2 ≠ 0 → (ug k acc xs).1 = 0 ∧ (ug k acc xs).2.1 = 0
  | [], k, acc => by
    unfold ug
    split <;> intro _ <;> exact ⟨rfl, rfl⟩
  | x :: xs, k, acc => by
    rw [ug]
    split
    · intro _; exact ⟨rfl, rfl⟩
    · split
      · intro _; exact ⟨rfl, rfl⟩
      · split
        · split
          · intro _; exact ⟨rfl, rfl⟩
          · intro h; exact absurd rfl h
        · exact ug_bad xs _ _
theorem uget_bad (xs : List Int) (h : (uget xs).2.2 ≠ 0) : (uget xs).1 = 0 ∧ (uget xs).2.1 = 0 := ug_bad xs 0 0 h
theorem ug_rng : ∀ (xs : List Int) (k acc : Nat), Byts xs → acc < 128 ^ k → 0 ≤ (ug k acc xs).1 ∧ (ug k acc xs).1 < 18446744073709551616
  | [], k, acc, _, _ => by
    unfold ug
    split <;> decide
  | x :: xs, k, acc, hb, ha => by
    obtain ⟨hx0, hx1⟩ := hb x (by simp)
    rw [ug]
    split
    · decide
    · rename_i h10
      split
      · decide
      · rename_i h9
        have h9' : k = 9 → x ≤ 1 := fun h => by omega
        split
        · rename_i h128
          split
          · decide
          · obtain ⟨h1, h2⟩ := ug_val k acc x (by omega) hx0 hx1 h9' ha
            rw [← ug_sum k acc x hx0 h128]
            omega
        · rename_i h128
          have h3 := (ug_val k acc x (by omega) hx0 hx1 h9' ha).1
          have e : (x % 128).toNat = x.toNat - 128 := by omega
          rw [e] at h3
          exact ug_rng xs _ _ (fun y hy => hb y (by simp [hy])) h3
theorem uget_rng (xs : List Int) (hb : Byts xs) : 0 ≤ (uget xs).1 ∧ (uget xs).1 < 18446744073709551616 := ug_rng xs 0 0 hb (by decide)

theorem varint_calls (w : World) (A : Option Addr) (c : Nat) (xs : List Int) (hC : (Kd.int .u8).C w A xs.length xs) (hb : Byts xs) (hs : xs.length ≤ 1000000000000) :
    Calls Try.prog 22 #[.slice A xs.length c] w fun e w' => e = .returned (.tuple #[.int .i64 (zagI (uget xs).1), .int .i64 (uget xs).2.1, .int .i64 (uget xs).2.2]) ∧ w = w' := by
  obtain ⟨h0, h1⟩ := uget_rng xs hb
  have H0 := Lib.hid h0
  have H1 := Lib.hid h1
  clear h0 h1
  go_enter Try.func22, Try.ntmps22
  go_wp2_with (first | (go_at_call 20; refine (uvarint_calls _ A c xs hC hb hs).mono ?_; rintro e w' ⟨rfl, rfl⟩) | (go_at_call 40; refine (zag_calls _ _ H0.out H1.out).mono ?_; rintro e w' ⟨rfl, rfl⟩))
  go_ret3
  exact ⟨rfl, rfl⟩

theorem rzig_calls (n : Int) (w : World) (h0 : -9223372036854775808 ≤ n) (h1 : n ≤ 9223372036854775807) :
    Calls Try.prog 42 #[.int .i64 n] w fun e w' => e = .returned (.int .u64 (zigI n)) ∧ w = w' := by
  by_cases hn : n < 0
  · go_enter Try.func42, Try.ntmps42
    go_wp2
    go_ret
    refine ⟨congrArg Ending.returned (congrArg (Value.int IntKind.u64) ?_), rfl⟩
    unfold zigI
    rw [if_pos hn]
    omega
  · go_enter Try.func42, Try.ntmps42
    go_wp2
    go_ret
    refine ⟨congrArg Ending.returned (congrArg (Value.int IntKind.u64) ?_), rfl⟩
    unfold zigI
    rw [if_neg (by omega)]
    try omega
theorem rzag_calls (n : Int) (w : World) (h0 : 0 ≤ n) (h1 : n < 18446744073709551616) :
    Calls Try.prog 41 #[.int .u64 n] w fun e w' => e = .returned (.int .i64 (zagI n)) ∧ w = w' := by
  by_cases hn : n % 2 = 1
  · have hq : (n % 2 == 1) = true := by simp [hn]
    have HN := Lib.hid hn
    clear hn
    go_enter Try.func41, Try.ntmps41
    go_wp2
    go_ret
    refine ⟨congrArg Ending.returned (congrArg (Value.int IntKind.i64) ?_), rfl⟩
    unfold zagI
    rw [if_pos HN.out]
    have := HN.out
    omega
  · have hq : (n % 2 == 1) = false := by simp [hn]
    have HN := Lib.hid hn
    clear hn
    go_enter Try.func41, Try.ntmps41
    go_wp2
    go_ret
    refine ⟨congrArg Ending.returned (congrArg (Value.int IntKind.i64) ?_), rfl⟩
    unfold zagI
    rw [if_neg HN.out]
    try omega
theorem zag_zero : zagI 0 = 0 := by decide

theorem rvarint_calls (w : World) (A : Option Addr) (c : Nat) (xs : List Int) (hC : (Kd.int .u8).C w A xs.length xs) (hb : Byts xs) (hs : xs.length ≤ 1000000000000) :
    Calls Try.prog 23 #[.slice A xs.length c] w fun e w' => e = .returned (.tuple #[.int .i64 (zagI (uget xs).1), .int .i64 (uget xs).2.1, .int .i64 (uget xs).2.2]) ∧ w = w' := by
  obtain ⟨h0, h1⟩ := uget_rng xs hb
  have H0 := Lib.hid h0
  have H1 := Lib.hid h1
  clear h0 h1
  by_cases he : (uget xs).2.2 = 0
  · have hq : ((uget xs).2.2 != 0) = false := by simp [he]
    have HE := Lib.hid he
    clear he
    go_enter Try.func23, Try.ntmps23
    go_wp2_with (first | (go_at_call 21; refine (ruvarint_calls _ A c xs hC hb hs).mono ?_; rintro e w' ⟨rfl, rfl⟩) | (go_at_call 41; refine (rzag_calls _ _ H0.out H1.out).mono ?_; rintro e w' ⟨rfl, rfl⟩))
    go_ret3
    exact ⟨by rw [HE.out]; rfl, rfl⟩
  · have hq : ((uget xs).2.2 != 0) = true := by simp [he]
    obtain ⟨h2, h3⟩ := uget_bad xs he
    have HE := Lib.hid h2
    have HF := Lib.hid h3
    clear he h2 h3
    go_enter Try.func23, Try.ntmps23
    go_wp2_with (first | (go_at_call 21; refine (ruvarint_calls _ A c xs hC hb hs).mono ?_; rintro e w' ⟨rfl, rfl⟩) | (go_at_call 41; refine (rzag_calls _ _ H0.out H1.out).mono ?_; rintro e w' ⟨rfl, rfl⟩))
    go_ret3
    exact ⟨by rw [HE.out, HF.out, zag_zero]; rfl, rfl⟩

set_option maxHeartbeats 1000000 in
theorem rputUvarint_calls (w : World) (n : Nat) (hn : n < 18446744073709551616) :
    Calls Try.prog 25 #[.int .u64 n] w fun e w' => ∃ v, e = .returned v ∧ (Kd.int .u8).R 5 w' w.heap.size (fun _ => True) v (ints (uv n)) ∧ Below w.heap.size w w' := by
  have hlen := uv_len10 n hn
  have HLEN := Lib.hid hlen
  clear hlen
  go_enter Try.func25, Try.ntmps25
  go_wp2
  have HR := Lib.hid (R_empty (Kd.int .u8) 5 w w.heap.size (fun _ => True) (Nat.le_refl _) trivial)
  have HB := Lib.hid (below_alloc (Below.refl w.heap.size w) (.cells #[] 5))
  generalize w.alloc (.cells #[] 5) = w1 at HR HB ⊢
  go_loopg [0, 3] n (fun m s0 s3 wr => s0 = .int .u64 m ∧ m < 18446744073709551616 ∧ ∃ pre, Hid (pre ++ uv m = uv n) ∧ Hid ((Kd.int .u8).R 5 wr w.heap.size (fun _ => True) s3 (ints pre)) ∧ Hid (Below w.heap.size w wr))
  case atStart => exact ⟨rfl, hn, [], rfl, HR.out, HB.out⟩
  case round =>
    obtain ⟨rfl, hgk, pre, hpre, hRr, hBr⟩ := hrel
    obtain ⟨A, c, hs3⟩ := Kd.R_slice hRr.out
    subst hs3
    have hpl : pre.length ≤ 9 := by
      have h1 := congrArg List.length hpre.out
      have h2 := uv_pos gk
      have h3 := HLEN.out
      rw [List.length_append] at h1
      omega
    have hBs := hBr.out.size
    by_cases hlt : 128 ≤ gk
    · have hb2 : decide ((128 : Int) ≤ (gk : Int)) = true := decide_eq_true (by omega)
      have HLT := Lib.hid hlt
      clear hlt
      have hmod : ((gk : Int) % 128 + 128) = ((gk % 128 + 128 : Nat) : Int) := by omega
      have HMOD := Lib.hid hmod
      clear hmod
      go_wp2_with (at_builtin; refine Kd.R_append (Kd.int .u8) (w0 := wr) (W := wr) w.heap.size rfl (.tmp 7) (.tmp 12) 37 5 (.int .u8 0) 1 rfl Try.underlying37 info_u8 rfl (by decide) (by decide) _ (ints pre) ((gk : Int) % 128 + 128) [.int .u8 ((gk : Int) % 128 + 128)] (fun _ => True) (fun _ => False) rfl rfl rfl (fun _ h => h.elim) (fun _ _ => trivial) hRr.out (Below.refl _ _) hBs (by rw [ints_length]; omega) ?_; intro v1 w2 hR2 _ hg2 _; have HR2 := Lib.hid hR2; have HG2 := Lib.hid hg2; clear hR2 hg2)
      go_roundg (gk / 128)
      case measure => have := HLT.out; omega
      case rel =>
        refine ⟨by go_num, by omega, pre ++ [gk % 128 + 128], ?_, ?_, hBr.out.trans (Mod.below (S := fun k => w.heap.size ≤ k) ((Mod.refl _ _).grown HG2.out (fun k hk => .inl (Kd.R_base hRr.out k hk))) hBs (fun k hk => hk))⟩
        · show pre ++ [gk % 128 + 128] ++ uv (gk / 128) = uv n
          rw [← hpre.out, uv_big gk HLT.out, List.append_assoc]
          rfl
        · rw [HMOD.out] at HR2
          rw [ints_append]
          exact HR2.out
    · have hb2 : decide ((128 : Int) ≤ (gk : Int)) = false := decide_eq_false (by omega)
      have hm256 : (gk : Int) % 256 = gk := by omega
      have HLT := Lib.hid hlt
      clear hlt
      go_wp2_with (at_builtin; refine Kd.R_append (Kd.int .u8) (w0 := wr) (W := wr) w.heap.size rfl (.tmp 16) (.tmp 19) 37 5 (.int .u8 0) 1 rfl Try.underlying37 info_u8 rfl (by decide) (by decide) _ (ints pre) (gk : Int) [.int .u8 (gk : Int)] (fun _ => True) (fun _ => False) rfl rfl rfl (fun _ h => h.elim) (fun _ _ => trivial) hRr.out (Below.refl _ _) hBs (by rw [ints_length]; omega) ?_; intro v1 w2 hR2 _ hg2 _; have HR2 := Lib.hid hR2; have HG2 := Lib.hid hg2; clear hR2 hg2)
      go_ret
      have hp : ints pre ++ [(gk : Int)] = ints (uv n) := by
        rw [← hpre.out, uv_small gk (by have := HLT.out; omega), ints_append]
        rfl
      have h2 := HR2.out
      rw [hp] at h2
      exact ⟨v1, rfl, h2, hBr.out.trans (Mod.below (S := fun k => w.heap.size ≤ k) ((Mod.refl _ _).grown HG2.out (fun k hk => .inl (Kd.R_base hRr.out k hk))) hBs (fun k hk => hk))⟩
theorem rputVarint_calls (w : World) (n : Int) (h0 : -9223372036854775808 ≤ n) (h1 : n ≤ 9223372036854775807) :
    Calls Try.prog 27 #[.int .i64 n] w fun e w' => ∃ v, e = .returned v ∧ (Kd.int .u8).R 5 w' w.heap.size (fun _ => True) v (ints (uv (zigI n).toNat)) ∧ Below w.heap.size w w' := by
  have hz : 0 ≤ zigI n ∧ zigI n < 18446744073709551616 := by unfold zigI; split <;> omega
  obtain ⟨z, hz2⟩ := Int.eq_ofNat_of_zero_le hz.1
  have hz3 : z < 18446744073709551616 := by omega
  have HZ := Lib.hid hz2
  clear hz hz2
  go_enter Try.func27, Try.ntmps27
  go_wp2_with fail
  refine (rzig_calls _ _ h0 h1).mono ?_
  rintro e w' ⟨rfl, rfl⟩
  rw [HZ.out]
  go_wp2_with fail
  refine (rputUvarint_calls _ z hz3).mono ?_
  rintro e w' ⟨v, rfl, hR, hB⟩
  have HR := Lib.hid hR
  have HB := Lib.hid hB
  clear hR hB
  go_wp2_with fail
  go_ret
  exact ⟨v, rfl, by rw [HZ.out, Int.toNat_natCast]; exact HR.out, HB.out⟩
end Go.Proofs.Ytemkfkaggdpcjaa
