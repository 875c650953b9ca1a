/- BitsVarints: its walk. -/
import Derived.Test.YtemkfkaggdpcjaaB13
namespace Go.Proofs.Ytemkfkaggdpcjaa
open Go.RowKit Go.Proofs.YtemkfkaggdpcjaaW.PrintWords Go.Proofs.YtemkfkaggdpcjaaW.PrintMore Go.Proofs.YtemkfkaggdpcjaaW.PrintLast Bq
set_option linter.unusedVariables false
set_option linter.unusedSimpArgs false
attribute [local go_sem ↓] Go.wp_at_zero Go.wp_at_succ

theorem requal_true (w : World) (A B : Option Addr) (ca cb : Nat) (xs : List Int) (hA : (Kd.int .u8).C w A xs.length xs) (hB : (Kd.int .u8).C w B xs.length xs) (hs : xs.length ≤ 1000000000000) :
    Calls Try.prog 17 #[.slice A xs.length ca, .slice B xs.length cb] w fun e w' => e = .returned (.bool true) ∧ ∃ n, w' = w.drewN n :=
  (requal_calls w A B ca cb xs xs hA hB hs hs).mono (fun e w' h => ⟨by rw [h.1, decide_eq_true rfl], h.2⟩)

set_option maxHeartbeats 2000000 in
theorem bitsVarints_calls (w : World) (n : Nat) (s : Int) (A : Option Addr) (c : Nat) (xs : List Int) (hn : n < 18446744073709551616) (h0 : -9223372036854775808 ≤ s) (h1 : s ≤ 9223372036854775807) (hC : (Kd.int .u8).C w A xs.length xs) (hb : Byts xs) :
    Calls Try.prog 4 #[.int .u64 n, .int .i64 s, .slice A xs.length c] w fun e w' => e = .returned (.bool true) ∧ Below w.heap.size w w' := by
  have hz : 0 ≤ zigI s ∧ zigI s < 18446744073709551616 := by unfold zigI; split <;> omega
  obtain ⟨z, hz2⟩ := Int.eq_ofNat_of_zero_le hz.1
  have hz3 : z < 18446744073709551616 := by omega
  have hlz : (ints (uv (zigI s).toNat)).length ≤ 10 := by
    rw [hz2, Int.toNat_natCast, ints_length]
    exact uv_len10 z hz3
  have hln : (ints (uv n)).length ≤ 10 := by
    rw [ints_length]
    exact uv_len10 n hn
  have HLZ := Lib.hid hlz
  have HLN := Lib.hid hln
  have HN := Lib.hid hn
  have HC := Lib.hid hC
  have HB := Lib.hid hb
  clear hz hz2 hz3 hlz hln hn hC hb
  by_cases hl : xs.length ≤ 1000
  · have hq : decide ((1000 : Int) < (xs.length : Int)) = false := decide_eq_false (by omega)
    have HL := Lib.hid hl
    clear hl
    go_enter Try.func4, Try.ntmps4
    go_wp2_with fail
    refine (live_calls _).mono ?_
    rintro e w1 ⟨rfl, hB1⟩
    have HC1 := Lib.hid (Kd.C_below HC.out hB1)
    have HB1 := Lib.hid hB1
    clear hB1
    have hl2 : xs.length ≤ 1000000000000 := by have := HL.out; omega
    have HL2 := Lib.hid hl2
    clear hl2
    go_wp2_with (first | (go_at_call 20; refine (uvarint_calls _ A c xs HC1.out HB.out HL2.out).mono ?_; rintro e w' ⟨rfl, rfl⟩) | (go_at_call 21; refine (ruvarint_calls _ A c xs HC1.out HB.out HL2.out).mono ?_; rintro e w' ⟨rfl, rfl⟩) | (go_at_call 22; refine (varint_calls _ A c xs HC1.out HB.out HL2.out).mono ?_; rintro e w' ⟨rfl, rfl⟩) | (go_at_call 23; refine (rvarint_calls _ A c xs HC1.out HB.out HL2.out).mono ?_; rintro e w' ⟨rfl, rfl⟩))
    refine (putUvarint_calls w1 n HN.out).mono ?_
    rintro e w2 ⟨v2, rfl, hR, hB⟩
    obtain ⟨A2, c2, rfl, _, hC2⟩ := Kd.R_reads hR
    have HC2 := Lib.hid hC2
    have HB2 := Lib.hid (HB1.out.trans (hB.mono HB1.out.size))
    clear hR hB hC2
    go_wp2_with fail
    refine (rputUvarint_calls w2 n HN.out).mono ?_
    rintro e w3 ⟨v3, rfl, hR, hB⟩
    obtain ⟨A3, c3, rfl, _, hC3⟩ := Kd.R_reads hR
    have HE := Lib.hid (requal_true w3 A2 A3 c2 c3 _ (Kd.C_below HC2.out hB) hC3 (by have := HLN.out; omega))
    have HB3 := Lib.hid (HB2.out.trans (hB.mono HB2.out.size))
    clear hR hB hC3 HC2
    go_wp2_with fail
    refine HE.out.mono ?_
    rintro e w' ⟨rfl, m, rfl⟩
    have HB3' := Lib.hid (pw_below_drewN HB3.out m)
    clear HE HB3
    generalize w3.drewN m = w4 at HB3' ⊢
    go_wp2_with fail
    refine (putVarint_calls w4 s h0 h1).mono ?_
    rintro e w5 ⟨v5, rfl, hR, hB⟩
    obtain ⟨A5, c5, rfl, _, hC5⟩ := Kd.R_reads hR
    have HC5 := Lib.hid hC5
    have HB5 := Lib.hid (HB3'.out.trans (hB.mono HB3'.out.size))
    clear hR hB hC5
    go_wp2_with fail
    refine (rputVarint_calls w5 s h0 h1).mono ?_
    rintro e w6 ⟨v6, rfl, hR, hB⟩
    obtain ⟨A6, c6, rfl, _, hC6⟩ := Kd.R_reads hR
    have HE := Lib.hid (requal_true w6 A5 A6 c5 c6 _ (Kd.C_below HC5.out hB) hC6 (by have := HLZ.out; omega))
    have HB6 := Lib.hid (HB5.out.trans (hB.mono HB5.out.size))
    clear hR hB hC6 HC5
    go_wp2_with fail
    refine HE.out.mono ?_
    rintro e w' ⟨rfl, m, rfl⟩
    have HB7 := Lib.hid (pw_below_drewN HB6.out m)
    clear HE HB6
    generalize w6.drewN m = w7 at HB7 ⊢
    have q1 : ∀ x : Int, (x == x) = true := fun x => by simp
    go_wp2_with fail
    go_ret
    exact ⟨rfl, HB7.out⟩
  · have hq : decide ((1000 : Int) < (xs.length : Int)) = true := decide_eq_true (by omega)
    have HL := Lib.hid hl
    clear hl
    go_enter Try.func4, Try.ntmps4
    go_wp2_with fail
    refine (live_calls _).mono ?_
    rintro e w1 ⟨rfl, hB1⟩
    have HB1 := Lib.hid hB1
    clear hB1
    go_wp2_with fail
    refine (live_calls _).mono ?_
    rintro e w2 ⟨rfl, hB2⟩
    have HB2 := Lib.hid (HB1.out.trans (hB2.mono HB1.out.size))
    clear hB2
    go_wp2_with fail
    go_ret
    exact ⟨rfl, HB2.out⟩
end Go.Proofs.Ytemkfkaggdpcjaa
