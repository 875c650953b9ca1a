/- The program's Armor. -/
import Derived.Test.YtclndenmmhdokaaDoorHM
import Derived.Test.YtclndenmmhdokaaDoorH17
namespace Go.Proofs.YtclndenmmhdokaaDoor
open Go Go.RowKit Go.Proofs.YtclndenmmhdokaaDoorW.PrintWords Go.Proofs.YtclndenmmhdokaaDoorW.PrintMore Go.Proofs.YtclndenmmhdokaaDoorW.PrintLast Bq
set_option linter.unusedVariables false
set_option linter.unusedSimpArgs false
attribute [local go_sem ↓] Go.wp_at_zero Go.wp_at_succ
theorem bitsOf_next (xs : List Int) (i : Nat) (hi : i < xs.length) : bitsOf xs (8 * (i + 1)) = bitsOf xs (8 * i) ++ nb (xs.getD i 0).toNat 8 := by
  unfold bitsOf nb
  rw [Nat.mul_add, List.range_add, List.map_append, List.map_map]
  congr 1
  apply List.map_congr_left
  intro j hj
  have hj : j < 8 := List.mem_range.1 hj
  show bitAt xs (8 * i + j) = _
  unfold bitAt
  rw [show (8 * i + j) / 8 = i by omega, show 7 - (8 * i + j) % 8 = 8 - 1 - j by omega]
theorem arm_step (d r : List Bool) (m : Nat) (hd : d.length = 6 * m) (hr : 6 ≤ r.length) : arm (d ++ r.take 6) = arm d ++ [lett.getD (bnum (r.take 6)) 0] := by
  have ht : (r.take 6).length = 6 := by rw [List.length_take]; omega
  rw [arm_append m d _ hd, arm_short (r.take 6) (by intro e; rw [e] at ht; simp at ht) (by omega), six1_full _ ht]
theorem low_bits (X n : Nat) (h : n < 6) : X % 64 % 2 ^ n = X % 2 ^ n := by
  have : ∀ k : Fin 6, 2 ^ k.val ∣ 64 := by decide
  exact Nat.mod_mod_of_dvd X (this ⟨n, h⟩)
theorem eight_more (X c n : Nat) (r : List Bool) (hl : r.length = n) (hx : X % 2 ^ n = bnum r) (hc : c < 256) : (X * 256 + c) % 2 ^ (n + 8) = bnum (r ++ nb c 8) := by
  rw [bnum_append, nb_length, bnum_nb, ← hx]
  have hp : 2 ^ (n + 8) = 2 ^ n * 256 := by rw [Nat.pow_add]
  have hp0 : 0 < 2 ^ n := Nat.pow_pos (by decide)
  rw [hp]
  have h1 := Nat.div_add_mod X (2 ^ n)
  obtain ⟨q, hq⟩ : ∃ q, q = X / 2 ^ n := ⟨_, rfl⟩
  obtain ⟨m, hm⟩ : ∃ m, m = X % 2 ^ n := ⟨_, rfl⟩
  have hmlt : m < 2 ^ n := by rw [hm]; exact Nat.mod_lt _ hp0
  rw [← hq, ← hm] at h1
  rw [← hm]
  have e : X * 256 + c = q * (2 ^ n * 256) + (m * 256 + c) := by
    rw [← h1, Nat.add_mul, Nat.mul_comm (2 ^ n) q, Nat.mul_assoc, Nat.add_assoc]
  rw [e, Nat.add_comm, Nat.add_mul_mod_self_right, Nat.mod_eq_of_lt]
  · have : c % 2 ^ 8 = c := Nat.mod_eq_of_lt hc
    rw [this]
  · have := Nat.mul_le_mul_right 256 (Nat.succ_le_of_lt hmlt)
    rw [Nat.succ_mul] at this
    omega
set_option maxRecDepth 20000 in
set_option maxHeartbeats 4000000 in
theorem armor_calls (w : World) (A : Option Addr) (c : Nat) (xs : List Int) (hC : (Kd.int .u8).C w A xs.length xs) (hb : Byts xs) (hl : xs.length ≤ 1000000) :
    Calls Tryd.prog 32 #[.slice A xs.length c] w fun e w' => e = .returned (.string (strOfNums (armor xs))) ∧ Below w.heap.size w w' := by
  have HC := Lib.hid hC
  have HB := Lib.hid hb
  clear hC hb
  obtain ⟨m0, hm0⟩ : ∃ m0 : Nat, (4 * (xs.length : Int) + 2) / 3 = m0 := ⟨((4 * (xs.length : Int) + 2) / 3).toNat, by omega⟩
  have hm0b : m0 ≤ 10000000 := by omega
  have HM0 := Lib.hid hm0
  clear hm0
  have q0 : IntKind.i64.wrap (4 * (xs.length : Int)) = 4 * (xs.length : Int) := IntWalk.i64_in _ (by omega)
  have q1 : IntKind.i64.wrap (4 * (xs.length : Int) + 2) = 4 * (xs.length : Int) + 2 := IntWalk.i64_in _ (by omega)
  go_enter Tryd.func32, Tryd.ntmps32
  go_wp2_with (show wpList _ _ _ ({ dst := _, op := .makeSlice _ _ _, type := _, pos := _, after := _, guard := _ } :: _) _ _; refine wl_make0 0 m0 (fun k => w.heap.size ≤ k) rfl _ _ rfl rfl (congrArg (Value.int .i64) HM0.out) (Nat.zero_le _) (Nat.le_refl _) (by omega) ?_; intro v1 w1 hR1 hB1; have HR1 := Lib.hid hR1; have HB1 := Lib.hid hB1; clear hR1 hB1)
  go_loopg [3, 4, 5, 16] xs.length (fun kq s3 s4 s5 s16 wr => ∃ (i m X : Nat) (d r : List Bool), i + kq = xs.length ∧ s16 = .int .i64 i ∧ s4 = .int .u64 X ∧ s5 = .int .i64 r.length ∧ X < 64 ∧ r.length < 6 ∧ X % 2 ^ r.length = bnum r ∧ d.length ≤ 8 * i ∧ Hid (d.length = 6 * m) ∧ Hid (d ++ r = bitsOf xs (8 * i)) ∧ Hid ((Kd.int .u8).R 5 wr 0 (fun k => w.heap.size ≤ k) s3 (arm d)) ∧ Hid (Below w.heap.size w wr))
  case atStart => exact ⟨0, 0, 0, [], [], by omega, rfl, rfl, rfl, by decide, by decide, rfl, Nat.le_refl _, rfl, rfl, by rw [arm_nil]; exact HR1.out, HB1.out⟩
  case round =>
    obtain ⟨i, m, X, d, r, hi, rfl, rfl, rfl, hX, hr6, hXr, hdl, hd6, hdr, hR, hBr⟩ := hrel
    have hbs := hBr.out.size
    by_cases hlt : i < xs.length
    · obtain ⟨ad, hA, c0⟩ := C_at_int HC.out i hlt
      subst hA
      have hbx := HB.out.get i hlt
      obtain ⟨x, hx⟩ : ∃ x : Nat, xs.getD i 0 = x := ⟨(xs.getD i 0).toNat, by omega⟩
      rw [hx] at c0 hbx
      rw [← hBr.out.cell (World.block_lt_of_cell? w _ c0)] at c0
      have hx256 : x < 256 := by omega
      obtain ⟨X1, hX1⟩ : ∃ X1, X1 = X * 256 + x := ⟨_, rfl⟩
      have hor : bits .or .u64 ((X : Int) * 256) (x : Int) = (X1 : Int) := by
        have h := or_u64 X x hx256 (by omega)
        have e : ((X * 256 : Nat) : Int) = (X : Int) * 256 := by omega
        rw [← e, hX1]
        exact h
      have hX1l : X1 < 16384 := by omega
      have e1 : IntKind.u64.wrap ((X : Int) * 256) = (X : Int) * 256 := by rw [IntKind.wrap_u64]; omega
      have e2 : IntKind.u64.wrap (x : Int) = (x : Int) := by rw [IntKind.wrap_u64]; omega
      obtain ⟨r1, hr1⟩ : ∃ r1, r1 = r ++ nb x 8 := ⟨_, rfl⟩
      have hr1l : r1.length = r.length + 8 := by rw [hr1, List.length_append, nb_length]
      have hX1r : X1 % 2 ^ r1.length = bnum r1 := by rw [hr1l, hr1, hX1]; exact eight_more X x r.length r rfl hXr hx256
      have hdr1 : d ++ r1 = bitsOf xs (8 * (i + 1)) := by rw [hr1, ← List.append_assoc, hdr.out, bitsOf_next xs i hlt, hx]; rfl
      have e3 : IntKind.i64.wrap ((r.length : Int) + 8) = (r1.length : Int) := by rw [IntWalk.i64_in _ (by omega)]; omega
      have HDR1 := Lib.hid hdr1
      have HX1R := Lib.hid hX1r
      have HR1L := Lib.hid hr1l
      have li : (i : Int) < (xs.length : Int) := by omega
      clear hr1 hdr1 hX1r hX1 hXr hx hbx hx256 hr1l
      generalize gk = GK at *
      go_wp2_with fail
      clear hor e1 e2 c0
      generalize wr = wq at hR hBr ⊢
      obtain ⟨J, hJ⟩ : ∃ J, J = r1.length / 6 := ⟨_, rfl⟩
      have hr1b : r1.length ≤ 13 := by have := HR1L.out; omega
      have hJ1 : 6 * J ≤ r1.length := by omega
      have hJ2 : r1.length < 6 * J + 6 := by omega
      clear hJ
      go_loopg [3, 5] J (fun kq s3 s5 wr => ∃ (m' : Nat) (d' r' : List Bool), s5 = .int .i64 r'.length ∧ 6 * kq ≤ r'.length ∧ r'.length < 6 * kq + 6 ∧ d'.length + r'.length ≤ 8 * i + 14 ∧ r'.length ≤ 13 ∧ Hid (X1 % 2 ^ r'.length = bnum r') ∧ Hid (d'.length = 6 * m') ∧ Hid (d' ++ r' = bitsOf xs (8 * (i + 1))) ∧ Hid ((Kd.int .u8).R 5 wr 0 (fun k => w.heap.size ≤ k) s3 (arm d')) ∧ Hid (Below w.heap.size w wr))
      case atStart => exact ⟨m, d, r1, rfl, hJ1, hJ2, by omega, hr1b, HX1R.out, hd6.out, HDR1.out, hR.out, hBr.out⟩
      case round =>
        obtain ⟨m', d', r', rfl, ha1, ha2, ha3, ha4, hX', hd', hdr', hR', hB'⟩ := hrel
        obtain ⟨A4, c4, hs3⟩ := Kd.R_slice hR'.out
        subst hs3
        have hbs' := hB'.out.size
        have hal : (arm d').length ≤ 10000000 := by rw [arm_length]; omega
        by_cases hg : 0 < gk
        · obtain ⟨n2, hn2⟩ : ∃ n2, r'.length = n2 + 6 := ⟨r'.length - 6, by omega⟩
          have hpk := six_pick X1 n2 r' hn2 (by rw [← hn2]; exact hX'.out)
          obtain ⟨b6, hb6⟩ : ∃ b6, b6 = bnum (r'.take 6) := ⟨_, rfl⟩
          have ht6 : (r'.take 6).length = 6 := by rw [List.length_take]; omega
          have hb64 : b6 < 64 := by
            rw [hb6]
            have := bnum_lt (r'.take 6)
            rw [ht6] at this
            exact this
          rw [← hb6] at hpk
          have e1 : IntKind.i64.wrap ((r'.length : Int) - 6) = (n2 : Int) := by rw [IntWalk.i64_in _ (by omega)]; omega
          have e2 : IntKind.u64.wrap (n2 : Int) = (n2 : Int) := by rw [IntKind.wrap_u64]; omega
          have e3 : bits .and .u64 ((X1 : Int) / 2 ^ n2) 63 = (b6 : Int) := by
            have hdv : X1 / 2 ^ n2 < 2 ^ 64 := by
              have := Nat.div_le_self X1 (2 ^ n2)
              omega
            have h := (bits_nat .u64 64 (by decide) (fun m a b => by rw [IntKind.wrap_u64]; omega) (X1 / 2 ^ n2) 63 hdv (by decide)).1
            have e : ((X1 / 2 ^ n2 : Nat) : Int) = (X1 : Int) / 2 ^ n2 := by simp
            rw [← e]
            refine h.trans ?_
            have h63 : X1 / 2 ^ n2 &&& 63 = X1 / 2 ^ n2 % 64 := Nat.and_two_pow_sub_one_eq_mod (X1 / 2 ^ n2) 6
            rw [h63, hpk.1]
          have hS : (⟨#[65, 66, 67, 68, 69, 70, 71, 72, 73, 74, 75, 76, 77, 78, 79, 80, 81, 82, 83, 84, 85, 86, 87, 88, 89, 90, 97, 98, 99, 100, 101, 102, 103, 104, 105, 106, 107, 108, 109, 110, 111, 112, 113, 114, 115, 116, 117, 118, 119, 120, 121, 122, 48, 49, 50, 51, 52, 53, 54, 55, 56, 57, 45, 95]⟩ : ByteArray) = lettS := rfl
          have hlg := lettS_get b6 hb64
          have HLG := Lib.hid hlg
          have hn64 : n2 < 64 := by omega
          have hss : lettS.size = 64 := rfl
          have HB6 := Lib.hid hb6
          have HPK := Lib.hid hpk.2
          have HN2 := Lib.hid hn2
          have g6 : (6 : Int) ≤ (r'.length : Int) := by omega
          clear hlg hb6 hpk hn2 ht6
          go_wp2_with (at_builtin; refine Kd.R_append (Kd.int .u8) (w0 := wr) (W := wr) 0 rfl (.tmp 31) (.tmp 38) 28 5 (.int .u8 0) 1 rfl Tryd.underlying28 info_u8' rfl (by decide) (by decide) _ (arm d') ((lettS[b6]'hb64).toNat : Int) [.int .u8 ((lettS[b6]'hb64).toNat : Int)] (fun k => w.heap.size ≤ k) (fun _ => False) rfl rfl rfl (fun _ h => h.elim) (fun k hk => by omega) hR'.out (Below.refl _ _) (Nat.zero_le _) (by omega) ?_; intro v2 w2 hR2 _ hg2 _; have HR2 := Lib.hid hR2; have HG2 := Lib.hid hg2; clear hR2 hg2)
          go_roundg (gk - 1)
          case measure => omega
          case rel =>
            have hn2 := HN2.out
            have hr6' : 6 ≤ r'.length := by omega
            have hdl6 : (r'.drop 6).length = n2 := by rw [List.length_drop]; omega
            have htl6 : (r'.take 6).length = 6 := by rw [List.length_take]; omega
            have harm := arm_step d' r' m' hd'.out hr6'
            refine ⟨m' + 1, d' ++ r'.take 6, r'.drop 6, by rw [hdl6], by omega, by omega, by rw [List.length_append]; omega, by omega, by rw [hdl6]; exact HPK.out, by rw [List.length_append, htl6, hd'.out]; rfl, by rw [List.append_assoc, List.take_append_drop]; exact hdr'.out, ?_, hB'.out.grown HG2.out hbs' (fun k hk => hR'.out.1 k hk)⟩
            rw [harm, ← HB6.out, ← HLG.out]
            exact HR2.out
        · have hlt6 : r'.length < 6 := by omega
          have hng : ¬ (6 : Int) ≤ (r'.length : Int) := by omega
          have e3 : bits .and .u64 (X1 : Int) 63 = ((X1 % 64 : Nat) : Int) := by
            have h := (bits_nat .u64 64 (by decide) (fun m a b => by rw [IntKind.wrap_u64]; omega) X1 63 (by omega) (by decide)).1
            refine h.trans ?_
            have h63 : X1 &&& 63 = X1 % 64 := Nat.and_two_pow_sub_one_eq_mod X1 6
            rw [h63]
          obtain ⟨X2, hX2⟩ : ∃ X2, X2 = X1 % 64 := ⟨_, rfl⟩
          rw [← hX2] at e3
          have HX2 := Lib.hid hX2
          have hX2l : X2 < 64 := by omega
          clear hX2
          go_wp2_with fail
          go_roundg (GK - 1)
          case measure => omega
          case rel =>
            have hlen := congrArg List.length hdr'.out
            rw [List.length_append, bitsOf_length] at hlen
            refine ⟨i + 1, m', X2, d', r', by omega, by go_num, rfl, rfl, hX2l, hlt6, ?_, by omega, hd'.out, hdr'.out, hR'.out, hB'.out⟩
            rw [HX2.out, low_bits X1 _ hlt6]
            exact hX'.out
    · have hil : i = xs.length := by omega
      have hdrl : d ++ r = bitsOf xs (8 * xs.length) := by rw [← hil]; exact hdr.out
      have HDR := Lib.hid hdrl
      have HIL := Lib.hid hil
      have hal : (arm d).length ≤ 10000000 := by rw [arm_length]; omega
      obtain ⟨A4, c4, hs3⟩ := Kd.R_slice hR.out
      subst hs3
      clear hil hdrl hdr
      have li : ¬ (i : Int) < (xs.length : Int) := by omega
      by_cases hr0 : r.length = 0
      · have hr00 : ¬ (0 : Int) < (r.length : Int) := by omega
        have hconv := Kd.C_string (P := Tryd.prog) (src := 28) (dst := 9) (c := c4) Tryd.underlying28 Tryd.underlying5 Tryd.underlying9 (Kd.R_reads' hR.out).2.2
        have HR0 := Lib.hid hr0
        clear hr0
        go_wp2_with fail
        go_ret
        refine ⟨?_, hBr.out⟩
        have hr : r = [] := List.eq_nil_of_length_eq_zero HR0.out
        have e : armor xs = arm d := by rw [armor, ← HDR.out, hr, List.append_nil]
        rw [e]
        rfl
      · have hr00 : (0 : Int) < (r.length : Int) := by omega
        obtain ⟨k, hk⟩ : ∃ k, r.length + k = 6 := ⟨6 - r.length, by omega⟩
        have e1 : IntKind.i64.wrap (6 - (r.length : Int)) = (k : Int) := by rw [IntWalk.i64_in _ (by omega)]; omega
        have e2 : IntKind.u64.wrap (k : Int) = (k : Int) := by rw [IntKind.wrap_u64]; omega
        have hk6 : k < 6 := by omega
        have hpw : 2 ^ k ≤ 32 := by
          have : ∀ j : Fin 6, 2 ^ j.val ≤ 32 := by decide
          exact this ⟨k, hk6⟩
        have hXk : X * 2 ^ k < 2048 := Nat.lt_of_le_of_lt (Nat.mul_le_mul_left X hpw) (by omega)
        have hmod : X * 2 ^ k % 64 = bnum r * 2 ^ k := by
          have h64 : 64 = 2 ^ r.length * 2 ^ k := by rw [← Nat.pow_add, hk]
          rw [h64, Nat.mul_mod_mul_right, hXr]
        obtain ⟨Y, hY⟩ : ∃ Y, Y = X * 2 ^ k := ⟨_, rfl⟩
        obtain ⟨b6, hb6⟩ : ∃ b6, b6 = Y % 64 := ⟨_, rfl⟩
        have hb64 : b6 < 64 := by omega
        have e4 : (X : Int) * 2 ^ k = (Y : Int) := by
          rw [hY]
          simp
        have e5 : (Y : Int) % 18446744073709551616 = (Y : Int) := by omega
        have e5' : IntKind.u64.wrap (Y : Int) = (Y : Int) := by rw [IntKind.wrap_u64]; exact e5
        have e6 : bits .and .u64 (Y : Int) 63 = (b6 : Int) := by
          have h := (bits_nat .u64 64 (by decide) (fun m a b => by rw [IntKind.wrap_u64]; omega) Y 63 (by omega) (by decide)).1
          refine h.trans ?_
          have h63 : Y &&& 63 = Y % 64 := Nat.and_two_pow_sub_one_eq_mod Y 6
          rw [h63, ← hb6]
        have hS : (⟨#[65, 66, 67, 68, 69, 70, 71, 72, 73, 74, 75, 76, 77, 78, 79, 80, 81, 82, 83, 84, 85, 86, 87, 88, 89, 90, 97, 98, 99, 100, 101, 102, 103, 104, 105, 106, 107, 108, 109, 110, 111, 112, 113, 114, 115, 116, 117, 118, 119, 120, 121, 122, 48, 49, 50, 51, 52, 53, 54, 55, 56, 57, 45, 95]⟩ : ByteArray) = lettS := rfl
        have HLG := Lib.hid (lettS_get b6 hb64)
        have hss : lettS.size = 64 := rfl
        have hk64 : k < 64 := by omega
        have HB6 : Hid (b6 = bnum r * 2 ^ (6 - r.length)) := Lib.hid (by
          have e : 6 - r.length = k := by omega
          rw [hb6, hY, hmod, e])
        have HRN := Lib.hid hr0
        clear hY hb6 hmod hXk hpw hk
        obtain ⟨Zs, hZs⟩ : ∃ Zs, Zs = arm d ++ [((lettS[b6]'hb64).toNat : Int)] := ⟨_, rfl⟩
        have HZ := Lib.hid hZs
        clear hZs
        go_wp2_with (at_builtin; refine Kd.R_append (Kd.int .u8) (w0 := wr) (W := wr) 0 rfl (.tmp 45) (.tmp 53) 28 5 (.int .u8 0) 1 rfl Tryd.underlying28 info_u8' rfl (by decide) (by decide) _ (arm d) ((lettS[b6]'hb64).toNat : Int) [.int .u8 ((lettS[b6]'hb64).toNat : Int)] (fun k => w.heap.size ≤ k) (fun _ => False) rfl rfl rfl (fun _ h => h.elim) (fun k hk => by omega) hR.out (Below.refl _ _) (Nat.zero_le _) (by omega) ?_; intro v2 w2 hR2 _ hg2 _; rw [← HZ.out] at hR2; obtain ⟨A5, c5, hv2⟩ := Kd.R_slice hR2; subst hv2; have hconv := Kd.C_string (P := Tryd.prog) (src := 28) (dst := 9) (c := c5) Tryd.underlying28 Tryd.underlying5 Tryd.underlying9 (Kd.R_reads' hR2).2.2; have HR2 := Lib.hid hR2; have HG2 := Lib.hid hg2; clear hR2 hg2)
        go_ret
        refine ⟨?_, hBr.out.grown HG2.out hbs (fun k hk => hR.out.1 k hk)⟩
        have hrne : r ≠ [] := by
          intro e
          exact HRN.out (by rw [e]; rfl)
        have e : armor xs = Zs := by
          rw [HZ.out, armor, ← HDR.out, arm_append m d r hd6.out, arm_short r hrne (by omega), HLG.out, HB6.out]
          rfl
        rw [e]
        rfl
end Go.Proofs.YtclndenmmhdokaaDoor
