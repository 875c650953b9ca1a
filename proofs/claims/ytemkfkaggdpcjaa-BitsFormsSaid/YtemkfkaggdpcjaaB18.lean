/- BitsForms: its walk. -/
import Derived.Test.YtemkfkaggdpcjaaB17
import Derived.Test.YtemkfkaggdpcjaaB14
import Derived.Test.YtemkfkaggdpcjaaQ3
namespace Go.Proofs.Ytemkfkaggdpcjaa
open Go.RowKit Go.Proofs.YtemkfkaggdpcjaaW.PrintWords Go.Proofs.YtemkfkaggdpcjaaW.PrintMore Go.Proofs.YtemkfkaggdpcjaaW.PrintLast Bq
set_option linter.unusedVariables false
set_option linter.unusedSimpArgs false
attribute [local go_sem ↓] Go.wp_at_zero Go.wp_at_succ

theorem byts_ints (l : List Nat) (h : ∀ x ∈ l, x < 256) : Byts (ints l) := by
  intro x hx
  obtain ⟨y, hy, rfl⟩ := List.mem_map.1 hx
  have := h y hy
  omega
theorem byts_uv (n : Nat) : Byts (ints (uv n)) := byts_ints _ (uv_lt n)
theorem byts_append {a b : List Int} (ha : Byts a) (hb : Byts b) : Byts (a ++ b) := by
  intro x hx
  rcases List.mem_append.1 hx with h | h
  · exact ha x h
  · exact hb x h
theorem flat2 (a b : List Int) : [a, b].flatten = a ++ b := by simp

theorem uvarint_len (w : World) (A : Option Addr) (c : Nat) (xs : List Int) (m : Nat) (hm : m = xs.length) (hC : (Kd.int .u8).C w A xs.length xs) (hb : Byts xs) (hs : xs.length ≤ 1000000000000) :
    Calls Try.prog 20 #[.slice A m c] w fun e w' => e = .returned (.tuple #[.int .u64 (uget xs).1, .int .i64 (uget xs).2.1, .int .i64 (uget xs).2.2]) ∧ w = w' := by
  subst hm
  exact uvarint_calls w A c xs hC hb hs
theorem putUvarint_as (w : World) (n : Nat) (P : List Int) (hn : n < 18446744073709551616) (hP : P = ints (uv n)) :
    Calls Try.prog 24 #[.int .u64 n] w fun e w' => ∃ A c, e = .returned (.slice A P.length c) ∧ P.length ≤ c ∧ (Kd.int .u8).C w' A P.length P ∧ Below w.heap.size w w' := by
  subst hP
  refine (putUvarint_calls w n hn).mono ?_
  rintro e w' ⟨v, rfl, hR, hB⟩
  obtain ⟨A, c, rfl, hc, hC⟩ := Kd.R_reads hR
  exact ⟨A, c, rfl, hc, hC, hB⟩
theorem putVarint_as (w : World) (s : Int) (P : List Int) (h0 : -9223372036854775808 ≤ s) (h1 : s ≤ 9223372036854775807) (hP : P = ints (uv (zigI s).toNat)) :
    Calls Try.prog 26 #[.int .i64 s] w fun e w' => ∃ A c, e = .returned (.slice A P.length c) ∧ P.length ≤ c ∧ (Kd.int .u8).C w' A P.length P ∧ Below w.heap.size w w' := by
  subst hP
  refine (putVarint_calls w s h0 h1).mono ?_
  rintro e w' ⟨v, rfl, hR, hB⟩
  obtain ⟨A, c, rfl, hc, hC⟩ := Kd.R_reads hR
  exact ⟨A, c, rfl, hc, hC, hB⟩
/-- Two texts joined. -/
theorem join2_as (w : World) (A B : Option Addr) (ca cb : Nat) (xs ys zs : List Int) (hA : (Kd.int .u8).C w A xs.length xs) (hB : (Kd.int .u8).C w B ys.length ys) (ha : xs.length ≤ ca) (hb : ys.length ≤ cb) (hz : zs = xs ++ ys) (hs : zs.length ≤ 1000000000000) :
    Calls Try.prog 28 #[.slice (some ⟨w.heap.size, 0, none⟩) 2 2] (w.alloc (.cells #[.slice A xs.length ca, .slice B ys.length cb] 37)) fun e w' => ∃ A' c', e = .returned (.slice A' zs.length c') ∧ zs.length ≤ c' ∧ (Kd.int .u8).C w' A' zs.length zs ∧ Below w.heap.size w w' := by
  subst hz
  refine (join_calls _ (some ⟨w.heap.size, 0, none⟩) 2 [xs, ys] (lit2_C w 37 A B ca cb xs ys hA hB ha hb) (by rw [flat2]; exact hs)).mono ?_
  rintro e w' ⟨v, rfl, hR, hB⟩
  rw [flat2] at hR
  obtain ⟨A', c', rfl, hc, hC⟩ := Kd.R_reads hR
  exact ⟨A', c', rfl, hc, hC, (below_alloc (Below.refl w.heap.size w) _).trans (hB.mono (by simp))⟩

set_option maxHeartbeats 4000000 in
theorem bitsForms_calls (w : World) (n o : Nat) (s : Int) (A : Option Addr) (c : Nat) (xs : List Int) (hn : n < 18446744073709551616) (ho : o < 18446744073709551616) (h0 : -9223372036854775808 ≤ s) (h1 : s ≤ 9223372036854775807) (hC : (Kd.int .u8).C w A xs.length xs) (hcap : xs.length ≤ c) (hb : Byts xs) :
    Calls Try.prog 5 #[.int .u64 n, .int .u64 o, .int .i64 s, .slice A xs.length c] w fun e w' => e = .returned (.bool true) ∧ Below w.heap.size w w' := by
  have hz : 0 ≤ zigI s ∧ zigI s < 18446744073709551616 := by unfold zigI; split <;> omega
  obtain ⟨z, hz2⟩ := Int.eq_ofNat_of_zero_le hz.1
  have hz3 : z < 18446744073709551616 := by omega
  have hzag : zagI (z : Int) = s := by rw [← hz2, zag_zig]
  obtain ⟨P, hP⟩ : ∃ P, P = ints (uv n) := ⟨_, rfl⟩
  obtain ⟨Z, hZ⟩ : ∃ Z, Z = ints (uv z) := ⟨_, rfl⟩
  obtain ⟨O, hO⟩ : ∃ O, O = ints (uv o) := ⟨_, rfl⟩
  have HBP : Hid (Byts P) := by rw [hP]; exact byts_uv n
  have HBZ : Hid (Byts Z) := by rw [hZ]; exact byts_uv z
  have HLP : Hid (P.length ≤ 10) := by rw [hP, ints_length]; exact uv_len10 n hn
  have HLZ : Hid (Z.length ≤ 10) := by rw [hZ, ints_length]; exact uv_len10 z hz3
  have HPX : Hid (uget (P ++ xs) = ((n : Int), (P.length : Int), 0)) := by rw [hP, ints_length]; exact uget_uv n hn xs
  have HZX : Hid (uget (Z ++ xs) = ((z : Int), (Z.length : Int), 0)) := by rw [hZ, ints_length]; exact uget_uv z hz3 xs
  have HCUT : Hid (∀ i, i < P.length → (uget (P.take i)).2.2 = 6) := by intro i hi; rw [hP] at hi ⊢; rw [ints_length] at hi; exact uget_cut n hn i hi
  have HMON : Hid (o ≤ n → O.length ≤ P.length) := by intro h; rw [hP, hO, ints_length, ints_length]; exact uv_mono n n o (Nat.le_refl _) h
  have HP := Lib.hid hP
  have HO := Lib.hid hO
  have HZ : Hid (Z = ints (uv (zigI s).toNat)) := by rw [hz2, Int.toNat_natCast]; exact hZ
  have HZG := Lib.hid hzag
  have HN := Lib.hid hn
  have HOO := Lib.hid ho
  have HC := Lib.hid hC
  have HB := Lib.hid hb
  have HCAP := Lib.hid hcap
  clear hz hz2 hz3 hn hC hb hzag ho hcap hP hZ hO
  by_cases hl : xs.length ≤ 1000
  · have hq : decide ((1000 : Int) < (xs.length : Int)) = false := decide_eq_false (by omega)
    have HL := Lib.hid hl
    clear hl
    obtain ⟨PX, hPX⟩ : ∃ PX, PX = P ++ xs := ⟨_, rfl⟩
    obtain ⟨ZX, hZX⟩ : ∃ ZX, ZX = Z ++ xs := ⟨_, rfl⟩
    have HlP : Hid (PX.length ≤ 1000000000000) := by rw [hPX]; show (P ++ xs).length ≤ _; rw [List.length_append]; have := HL.out; have := HLP.out; omega
    have HlZ : Hid (ZX.length ≤ 1000000000000) := by rw [hZX]; show (Z ++ xs).length ≤ _; rw [List.length_append]; have := HL.out; have := HLZ.out; omega
    have HbP : Hid (Byts PX) := by rw [hPX]; exact byts_append HBP.out HB.out
    have HbZ : Hid (Byts ZX) := by rw [hZX]; exact byts_append HBZ.out HB.out
    rw [← hPX] at HPX
    rw [← hZX] at HZX
    have HePX := Lib.hid hPX
    have HeZX := Lib.hid hZX
    clear hPX hZX
    go_enter Try.func5, Try.ntmps5
    go_wp2_with fail
    refine (live_calls _).mono ?_
    rintro e w1 ⟨rfl, hB1⟩
    have HB1 := Lib.hid hB1
    clear hB1
    go_wp2_with fail
    refine (putUvarint_as w1 n P HN.out HP.out).mono ?_
    rintro e w2 ⟨A2, c2, rfl, hc2, hC2, hB⟩
    have HC2 := Lib.hid hC2
    have Hc2 := Lib.hid hc2
    have HB2 := Lib.hid (HB1.out.trans (hB.mono HB1.out.size))
    clear hB hC2 hc2
    go_wp2_with fail
    refine (putVarint_as w2 s Z h0 h1 HZ.out).mono ?_
    rintro e w3 ⟨A3, c3, rfl, hc3, hC3, hB⟩
    have HC3 := Lib.hid hC3
    have Hc3 := Lib.hid hc3
    have HC23 := Lib.hid (Kd.C_below HC2.out hB)
    have HB3 := Lib.hid (HB2.out.trans (hB.mono HB2.out.size))
    have HC13 := Lib.hid (Kd.C_below HC.out HB3.out)
    clear hB hC3 hc3 HC2
    go_wp2_with fail
    refine (join2_as w3 A2 A c2 c P xs PX HC23.out HC13.out Hc2.out HCAP.out HePX.out HlP.out).mono ?_
    rintro e w4 ⟨A4, c4, rfl, hc4, hC4, hB⟩
    have HC4 := Lib.hid hC4
    have HB4 := Lib.hid (HB3.out.trans (hB.mono HB3.out.size))
    have HC24 := Lib.hid (Kd.C_below HC23.out hB)
    have HC34 := Lib.hid (Kd.C_below HC3.out hB)
    have HC14 := Lib.hid (Kd.C_below HC.out HB4.out)
    clear hB hC4 hc4 HC23 HC13 HC3
    go_wp2_with fail
    refine (uvarint_calls w4 A4 c4 PX HC4.out HbP.out HlP.out).mono ?_
    rintro e w' ⟨rfl, rfl⟩
    rw [HPX.out]
    go_wp2_with fail
    refine (join2_as w4 A3 A c3 c Z xs ZX HC34.out HC14.out Hc3.out HCAP.out HeZX.out HlZ.out).mono ?_
    rintro e w5 ⟨A5, c5, rfl, hc5, hC5, hB⟩
    have HC5 := Lib.hid hC5
    have HB5 := Lib.hid (HB4.out.trans (hB.mono HB4.out.size))
    have HC25 := Lib.hid (Kd.C_below HC24.out hB)
    have HC15 := Lib.hid (Kd.C_below HC.out HB5.out)
    clear hB hC5 hc5 HC24 HC34 HC14
    go_wp2_with fail
    refine (varint_calls w5 A5 c5 ZX HC5.out HbZ.out HlZ.out).mono ?_
    rintro e w' ⟨rfl, rfl⟩
    rw [HZX.out]
    dsimp only
    rw [HZG.out]
    clear HPX HZX HlP HlZ HbP HbZ HePX HeZX HC5 HBZ HLZ HZ HZG Hc3
    have hP10 := HLP.out
    go_wp2_with fail
    go_loopg [82] P.length (fun kq s82 wr => wr = w5 ∧ ∃ k, k + kq = P.length ∧ s82 = .int .i64 k)
    case atStart => exact ⟨rfl, 0, by omega, rfl⟩
    case round =>
      obtain ⟨rfl, k, hk, rfl⟩ := hrel
      by_cases hlt : k < P.length
      · have h6 := HCUT.out k hlt
        have HH6 := Lib.hid h6
        have hkc : k ≤ c2 := by have := Hc2.out; omega
        clear h6
        go_wp2_with (go_at_call 20; refine (uvarint_len wr A2 c2 (P.take k) k (by rw [List.length_take]; omega) (Kd.C_take HC25.out (Nat.le_of_lt hlt)) (fun x hx => HBP.out x (List.mem_of_mem_take hx)) (by rw [List.length_take]; have := HLP.out; omega)).mono ?_; rintro e w' ⟨rfl, rfl⟩; rw [HH6.out])
        go_roundg (gk - 1)
        case measure => omega
        case rel => exact ⟨rfl, k + 1, by omega, by go_num⟩
      · have hge : (P.length : Int) ≤ (k : Int) := by omega
        have hl2 : xs.length ≤ 1000000000000 := by have := HL.out; omega
        have HL2 := Lib.hid hl2
        clear hl2
        have hk9 : (k : Int) = (P.length : Int) := by omega
        clear HCUT HBP
        go_wp2_with (go_at_call 20; refine (uvarint_calls wr A c xs HC15.out HB.out HL2.out).mono ?_; rintro e w' ⟨rfl, rfl⟩)
        obtain ⟨r, hr⟩ : ∃ r, r = uget xs := ⟨_, rfl⟩
        rw [← hr]
        have HRR := Lib.hid hr
        clear hr
        by_cases he : r.2.2 = 0
        · obtain ⟨m, m1, m2, m3, m4⟩ := uget_back xs HB.out (by rw [← HRR.out]; exact he)
          rw [← HRR.out] at m1 m2
          obtain ⟨M, hM⟩ : ∃ M, M = ints (uv m) := ⟨_, rfl⟩
          have hMl : M.length = (uv m).length := by rw [hM, ints_length]
          have hm64 : m < 18446744073709551616 := by
            have := (uget_rng xs HB.out).2
            rw [← HRR.out, m1] at this
            omega
          have hMp : 1 ≤ M.length := by rw [hMl]; exact uv_pos m
          rw [← hMl] at m2 m3 m4
          rw [← hM] at m4
          rw [m1, m2, he]
          have HM := Lib.hid hM
          have HM4 := Lib.hid m4
          have Hm64 := Lib.hid hm64
          have Hm3 := Lib.hid m3
          clear hM m4 hm64 m1 m2 he HRR hMl
          have HCT : Hid ((Kd.int .u8).C wr A M.length M) := by
            have h2 := Kd.C_take HC15.out Hm3.out
            rw [← HM4.out] at h2
            exact h2
          have q0 : decide ((M.length : Int) < 1) = false := decide_eq_false (by omega)
          have q1 : decide ((xs.length : Int) < (M.length : Int)) = false := decide_eq_false (by omega)
          have q1n : decide (xs.length < M.length) = false := decide_eq_false (by omega)
          have q1p : ¬ xs.length < M.length := by omega
          have q2 : M.length ≤ c := by have := HCAP.out; omega
          go_region_held3 (fun _ => True) (first | go_keep | trivial) (first | (go_at_call 24; refine (putUvarint_as _ m M Hm64.out HM.out).mono ?_; rintro e w6 ⟨A6, c6, rfl, hc6, hC6, hB6⟩; have HC6 := Lib.hid hC6; have HB6 : Hid (Below wr.heap.size wr w6) := ⟨hB6.os, hB6.tape, hB6.output, hB6.size, hB6.block⟩; have HC16 := Lib.hid (Kd.C_below HCT.out HB6.out); clear hC6 hB6) | (go_at_call 17; refine (requal_true _ A6 A c6 c M HC6.out HC16.out (by have := Hm3.out; have := HL.out; omega)).mono ?_; rintro e w7 ⟨rfl, nq, rfl⟩))
          have HBz := Lib.hid (pw_below_drewN (HB5.out.trans (HB6.out.mono HB5.out.size)) nq)
          generalize w6.drewN nq = w8 at HBz ⊢
          by_cases hno : n < o
          · have q9 : decide ((n : Int) < (o : Int)) = true := decide_eq_true (by omega)
            go_wp2_with fail
            go_ret
            exact ⟨rfl, HBz.out⟩
          · have q9 : decide ((n : Int) < (o : Int)) = false := decide_eq_false (by omega)
            have q9n : decide (n < o) = false := decide_eq_false hno
            have hmon := HMON.out (by omega)
            have q8 : decide ((O.length : Int) ≤ (P.length : Int)) = true := decide_eq_true (by omega)
            have q8n : decide (O.length ≤ P.length) = true := decide_eq_true hmon
            go_wp2_with fail
            refine (putUvarint_as _ o O HOO.out HO.out).mono ?_
            rintro e w9 ⟨A9, c9, rfl, hc9, hC9, hB9⟩
            have HB9 := Lib.hid (HBz.out.trans (hB9.mono HBz.out.size))
            clear hB9 hC9 hc9
            go_wp2_with fail
            go_ret
            exact ⟨rfl, HB9.out⟩
        · have q0 : (r.2.2 == 0) = false := by simp [he]
          clear he
          go_quiet (fail)
          have HBz := Lib.hid (pw_below_drewN HB5.out nq)
          generalize wr.drewN nq = w8 at HBz ⊢
          by_cases hno : n < o
          · have q9 : decide ((n : Int) < (o : Int)) = true := decide_eq_true (by omega)
            go_wp2_with fail
            go_ret
            exact ⟨rfl, HBz.out⟩
          · have q9 : decide ((n : Int) < (o : Int)) = false := decide_eq_false (by omega)
            have q9n : decide (n < o) = false := decide_eq_false hno
            have hmon := HMON.out (by omega)
            have q8 : decide ((O.length : Int) ≤ (P.length : Int)) = true := decide_eq_true (by omega)
            have q8n : decide (O.length ≤ P.length) = true := decide_eq_true hmon
            go_wp2_with fail
            refine (putUvarint_as _ o O HOO.out HO.out).mono ?_
            rintro e w9 ⟨A9, c9, rfl, hc9, hC9, hB9⟩
            have HB9 := Lib.hid (HBz.out.trans (hB9.mono HBz.out.size))
            clear hB9 hC9 hc9
            go_wp2_with fail
            go_ret
            exact ⟨rfl, HB9.out⟩
  · have hq : decide ((1000 : Int) < (xs.length : Int)) = true := decide_eq_true (by omega)
    have HL := Lib.hid hl
    clear hl
    go_enter Try.func5, Try.ntmps5
    go_wp2_with fail
    refine (live_calls _).mono ?_
    rintro e w1 ⟨rfl, hB1⟩
    have HB1 := Lib.hid hB1
    clear hB1
    go_wp2_with fail
    refine (live_calls _).mono ?_
    rintro e w2 ⟨rfl, hB2⟩
    have HB2 := Lib.hid (HB1.out.trans (hB2.mono HB1.out.size))
    clear hB2
    go_wp2_with fail
    go_ret
    exact ⟨rfl, HB2.out⟩
end Go.Proofs.Ytemkfkaggdpcjaa
