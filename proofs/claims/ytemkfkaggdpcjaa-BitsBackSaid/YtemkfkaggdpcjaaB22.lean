/- BitsWrites: its walk. -/
import Derived.Test.YtemkfkaggdpcjaaB21
namespace Go.Proofs.Ytemkfkaggdpcjaa
open Go.RowKit Go.Proofs.YtemkfkaggdpcjaaW.PrintWords Go.Proofs.YtemkfkaggdpcjaaW.PrintMore Go.Proofs.YtemkfkaggdpcjaaW.PrintLast Bq
set_option linter.unusedVariables false
set_option linter.unusedSimpArgs false
attribute [local go_sem ↓] Go.wp_at_zero Go.wp_at_succ

theorem add_next_cell (ad : Addr) (n : Nat) : (⟨(ad.add n).block, (ad.add n).off + 1, none⟩ : Addr) = ad.add (n + 1) := by
  unfold Addr.add
  rw [if_neg (show ¬ n + 1 = 0 by omega)]
  split
  · subst_vars
    rfl
  · rfl
theorem WSt.blk {w wr : World} {g : Nat} {bs : List Bool} {vr : Value} {rs : List Bool} {h8 : Nat} {o : Obj} (h : WSt w wr g bs vr rs h8 o) : wr.heap[h8]? = some o := by
  obtain ⟨a, b, _, h, _⟩ := h
  exact h
theorem WS0.row {w wr : World} {g : Nat} {bs : List Bool} {vr : Value} {rs : List Bool} (h : WS0 w wr g bs vr rs) : ∃ A c, vr = .slice A rs.length c := by
  obtain ⟨a, b, h⟩ := h
  exact Kd.R_slice h.row
theorem WS0.len {w wr : World} {g : Nat} {bs : List Bool} {vr : Value} {rs : List Bool} (h : WS0 w wr g bs vr rs) :
    Calls Try.prog 16 #[.pointer (some ⟨g, 0, none⟩)] wr fun e w' => e = .returned (.int .i64 bs.length) ∧ wr = w' := by
  obtain ⟨a, b, h⟩ := h
  exact wlen_calls wr a g bs h.wr_
theorem WS0.bytes {w wr : World} {g : Nat} {bs : List Bool} {vr : Value} {rs : List Bool} (h : WS0 w wr g bs vr rs) (hN : bs.length ≤ 8388608) (P : List Int) (hP : P = packI bs) :
    Calls Try.prog 18 #[.pointer (some ⟨g, 0, none⟩)] wr fun e w' => ∃ A c, e = .returned (.slice A P.length c) ∧ (Kd.int .u8).C w' A P.length P ∧ WS0 w w' g bs vr rs := by
  subst hP
  have h0 := h
  obtain ⟨a, b, h⟩ := h
  refine (wbytes_calls wr a g bs h.wr_ hN).mono ?_
  rintro e w' ⟨v, rfl, hR, hB⟩
  obtain ⟨A, c, rfl, _, hC⟩ := Kd.R_reads hR
  exact ⟨A, c, rfl, hC, h0.step hB⟩
theorem WS0.rbytes {w wr : World} {g : Nat} {bs : List Bool} {A : Option Addr} {c : Nat} {rs : List Bool} (h : WS0 w wr g bs (.slice A rs.length c) rs) (hN : rs.length ≤ 100000000) (P : List Int) (hP : P = packI rs) :
    Calls Try.prog 19 #[.slice A rs.length c] wr fun e w' => ∃ A' c', e = .returned (.slice A' P.length c') ∧ (Kd.int .u8).C w' A' P.length P ∧ Below wr.heap.size wr w' ∧ WS0 w w' g bs (.slice A rs.length c) rs := by
  subst hP
  have h0 := h
  obtain ⟨a, b, h⟩ := h
  refine (rbytes_calls wr A c rs (Kd.R_reads' h.row).2.2 hN).mono ?_
  rintro e w' ⟨v, rfl, hR, hB⟩
  obtain ⟨A', c', rfl, _, hC⟩ := Kd.R_reads hR
  exact ⟨A', c', rfl, hC, hB, h0.step hB⟩
/-- The kind of an Op. -/
def kOp : Kd (Int × Int) := Kd.pair (Kd.int .u64) (Kd.int .i64)
theorem ops_get {w : World} {A : Option Addr} {n : Nat} {ops : List (Int × Int)} (h : kOp.C w A n ops) (i : Nat) (hi : i < n) :
    ∃ ad, A = some ad ∧ w.cell? (ad.add (i * 2)) = some (.int .u64 (ops.getD i (0, 0)).1) ∧ w.cell? (ad.add (i * 2 + 1)) = some (.int .i64 (ops.getD i (0, 0)).2) := by
  obtain ⟨ad, c, e, _, hK, hc⟩ := Kd.C_get h (0, 0) (i : Int) (by omega) (by omega)
  rw [Int.toNat_natCast] at hK hc
  obtain ⟨c1, c2, rfl, h1, h2⟩ := hK
  have e1 : c1 = [.int .u64 (ops.getD i (0, 0)).1] := h1
  have e2 : c2 = [.int .i64 (ops.getD i (0, 0)).2] := h2
  subst e1
  subst e2
  exact ⟨ad, e, hc 0 _ rfl, hc 1 _ rfl⟩
theorem few_calls (w : World) (A : Option Addr) (n c : Nat) :
    Calls Try.prog 11 #[.slice A n c] w fun e w' => e = .returned (.bool (decide ((n : Int) ≤ 200))) ∧ w = w' := by
  go_enter Try.func11, Try.ntmps11
  go_wp2
  go_ret
  exact ⟨rfl, rfl⟩

set_option maxHeartbeats 4000000 in
theorem bitsWrites_calls (w : World) (A : Option Addr) (c : Nat) (ops : List (Int × Int)) (B : Option Addr) (cb : Nat) (cls : List Bool) (hO : kOp.C w A ops.length ops) (hC : Kd.bool.C w B cls.length cls)
    (hw : ∀ o ∈ ops, (0 ≤ o.1 ∧ o.1 < 18446744073709551616) ∧ -9223372036854775808 ≤ o.2 ∧ o.2 ≤ 9223372036854775807) :
    Calls Try.prog 3 #[.slice A ops.length c, .slice B cls.length cb] w fun e w' => e = .returned (.bool true) ∧ Below w.heap.size w w' := by
  have HO := Lib.hid hO
  have HC := Lib.hid hC
  have HW := Lib.hid hw
  clear hO hC hw
  by_cases hf : ops.length ≤ 200
  · by_cases hcl : cls.length ≤ 300
    · have q1 : decide ((ops.length : Int) ≤ 200) = true := decide_eq_true (by omega)
      have q2 : decide ((300 : Int) < (cls.length : Int)) = false := decide_eq_false (by omega)
      have HF := Lib.hid hf
      have HCL := Lib.hid hcl
      clear hf hcl
      go_enter Try.func3, Try.ntmps3
      go_wp2_with fail
      refine (newWriter_calls _).mono ?_
      rintro e w1 ⟨rfl, hW, hB⟩
      have HW1 := Lib.hid hW
      have HB1 := Lib.hid hB
      clear hW hB
      obtain ⟨g, hg⟩ : ∃ g, g = w.heap.size := ⟨_, rfl⟩
      have hbase : w.heap.size = g := hg.symm
      rw [← hg] at HW1 ⊢
      clear hg
      have HG := Lib.hid hbase
      clear hbase
      go_wp2_with fail
      refine (live_calls _).mono ?_
      rintro e w2 ⟨rfl, hB2⟩
      have HB2 := Lib.hid hB2
      clear hB2
      go_wp2_with (go_at_call 11; refine (few_calls _ _ _ _).mono ?_; rintro e w' ⟨rfl, rfl⟩; rw [q1])
      have HS0 := Lib.hid (WS0.start (by rw [HG.out]; exact HW1.out) HB1.out HB2.out)
      obtain ⟨w3, h3⟩ : ∃ w3, w3 = w2.alloc (.cells #[] 4) := ⟨_, rfl⟩
      rw [← h3] at HS0 ⊢
      clear h3
      generalize Value.slice (some ⟨w2.heap.size, 0, none⟩) 0 0 = v0 at HS0 ⊢
      go_loopg [32, 5, 6] ops.length (fun kq s32 s5 s6 wr => ∃ (k g' : Nat) (bs : List Bool), k + kq = ops.length ∧ s32 = .int .i64 k ∧ s5 = .pointer (some ⟨g', 0, none⟩) ∧ Hid (bs.length ≤ 64 * k) ∧ Hid (WS0 w wr g' bs s6 bs))
      case atStart => exact ⟨0, g, [], by omega, rfl, rfl, by unfold Hid; decide, HS0.out⟩
      case round =>
        obtain ⟨k, g', bs, hk, rfl, rfl, hlen, hS⟩ := hrel
        have hol := HF.out
        by_cases hlt : k < ops.length
        · obtain ⟨ad, hA, hc1, hc2⟩ := ops_get HO.out k hlt
          subst hA
          obtain ⟨o, ho⟩ : ∃ o, o = ops.getD k (0, 0) := ⟨_, rfl⟩
          rw [← ho] at hc1 hc2
          have hmem : o ∈ ops := by
            rw [ho, List.getD_eq_getElem?_getD, List.getElem?_eq_getElem hlt]
            exact List.getElem_mem hlt
          clear ho
          obtain ⟨N, wd⟩ := o
          obtain ⟨⟨hn0, hn1⟩, hwd1, hwd2⟩ := HW.out _ hmem
          obtain ⟨n, rfl⟩ := Int.eq_ofNat_of_zero_le hn0
          have hn : n < 18446744073709551616 := by omega
          have hbw := hS.out.below
          have hd1 : wr.cell? (ad.add (k * 2)) = some (.int .u64 n) := by
            rw [hbw.cell (World.block_lt_of_cell? w _ hc1)]
            exact hc1
          have hd2 : wr.cell? (ad.add (k * 2 + 1)) = some (.int .i64 wd) := by
            rw [hbw.cell (World.block_lt_of_cell? w _ hc2)]
            exact hc2
          have hd3 : wr.cell? ⟨(ad.add (k * 2)).block, (ad.add (k * 2)).off + 1, none⟩ = some (.int .i64 wd) := by
            rw [add_next_cell]
            exact hd2
          clear hc1 hc2 hn0 hn1 hmem
          go_upto_region 8 with fail
          have HST := Lib.hid (hS.out.alloc #[.int .u64 n, .int .i64 wd] 30)
          obtain ⟨wa, hwa⟩ : ∃ wa, wa = wr.alloc (.cells #[.int .u64 n, .int .i64 wd] 30) := ⟨_, rfl⟩
          obtain ⟨h8, hh8⟩ : ∃ h8, h8 = wr.heap.size := ⟨_, rfl⟩
          rw [← hwa, ← hh8] at HST
          rw [← hwa, ← hh8]
          clear hwa hh8 hd1 hd2 hd3 hS
          have hN : bs.length ≤ 8388608 := by have := hlen.out; have := HF.out; omega
          have hN2 : bs.length ≤ 100000000 := by omega
          have HN := Lib.hid hN
          have HN2 := Lib.hid hN2
          clear hN hN2
          go_cut [46] (fun s46 wx => wx = wa ∧ ∃ b, s46 = .bool b)
          case first =>
            by_cases hkc : k < cls.length
            · obtain ⟨bd, hBd, hcb⟩ := C_at_bool HC.out k hkc
              subst hBd
              have hcb2 : wa.cell? (bd.add k) = some (.bool (cls.getD k false)) := by
                rw [HST.out.forget.below.cell (World.block_lt_of_cell? w _ hcb)]
                exact hcb
              clear hcb
              obtain ⟨b, hb⟩ : ∃ b, b = cls.getD k false := ⟨_, rfl⟩
              rw [← hb] at hcb2
              clear hb
              go_wp2_with fail
              go_meet
              exact ⟨rfl, b, rfl⟩
            · go_wp2_with fail
              go_meet
              exact ⟨rfl, false, rfl⟩
          case rest =>
            obtain ⟨rfl, b, rfl⟩ := hcut
            go_upto_if 46 with fail
            go_cut [5] (fun s5 wx => ∃ g2 : Nat, s5 = .pointer (some ⟨g2, 0, none⟩) ∧ Hid (WSt w wx g2 bs u6 bs h8 (.cells #[.int .u64 n, .int .i64 wd] 30 (0, 0))))
            case first =>
              cases b with
              | false =>
                go_wp2_with fail
                go_meet
                exact ⟨g', rfl, HST.out⟩
              | true =>
                go_wp2_with fail
                refine (HST.out.clone HN.out).mono ?_
                rintro e w4 ⟨g2, rfl, hC4⟩
                have HC4 := Lib.hid hC4
                clear hC4
                go_wp2_with fail
                refine (HC4.out.put 1 1 HN.out (by decide) (by decide) (by decide)).mono ?_
                rintro e w5 ⟨rfl, hS5⟩
                have HS5 := Lib.hid hS5
                clear hS5
                go_wp2_with fail
                go_meet
                exact ⟨g2, rfl, HS5.out⟩
            case rest =>
              obtain ⟨g2, rfl, HS⟩ := hcut
              have hb8 := HS.out.blk
              have c0 : wc.cell? ⟨h8, 0, none⟩ = some (.int .u64 n) := (blk_cell hb8 0).trans rfl
              have c1 : wc.cell? ⟨h8, 1, none⟩ = some (.int .i64 wd) := (blk_cell hb8 1).trans rfl
              clear hb8
              obtain ⟨Ar, cr, hu6⟩ := HS.out.forget.row
              subst hu6
              obtain ⟨E, hE⟩ : ∃ E, E = putE bs.length wd n := ⟨_, rfl⟩
              have HE := Lib.hid hE
              clear hE
              go_wp2_with (go_at_call 14; refine (may_calls _ bs.length n wd HN.out hwd1 hwd2).mono ?_; rintro e w' ⟨rfl, rfl⟩; rw [← HE.out])
              refine (HS.out.put n wd HN.out hn hwd1 hwd2).mono ?_
              rintro e w6 ⟨rfl, hS6⟩
              rw [← HE.out]
              have HS6 := Lib.hid hS6
              clear hS6
              have hb8 := HS6.out.blk
              have d0 : w6.cell? ⟨h8, 0, none⟩ = some (.int .u64 n) := (blk_cell hb8 0).trans rfl
              have d1 : w6.cell? ⟨h8, 1, none⟩ = some (.int .i64 wd) := (blk_cell hb8 1).trans rfl
              clear hb8
              by_cases hE0 : E = 0
              · have hq0 : (E == 0) = true := by simp [hE0]
                have hbad : badW wd n = false := by
                  have h := HE.out
                  rw [hE0] at h
                  unfold putE at h
                  cases hb : badW wd n with
                  | false => rfl
                  | true => rw [hb, if_pos rfl] at h; exact absurd h (by decide)
                obtain ⟨b0, b1, _⟩ := badW_false hbad
                obtain ⟨m, rfl⟩ := Int.eq_ofNat_of_zero_le b0
                have hput : putBits bs (m : Int) n = bs ++ nb n m := by
                  unfold putBits
                  rw [← HE.out, if_pos hE0, Int.toNat_natCast]
                obtain ⟨bs2, hbs2⟩ : ∃ bs2, bs2 = bs ++ nb n m := ⟨_, rfl⟩
                rw [hput, ← hbs2] at HS6
                have HBS2 := Lib.hid hbs2
                have HE0 := Lib.hid hE0
                clear hE0 hbad hput b0 hbs2
                have hm64 : m ≤ 64 := by omega
                clear b1
                go_wp2_with fail
                refine (HS6.out.rput n m hm64 hn HN2.out).mono ?_
                rintro e w7 ⟨v7, rfl, hS7⟩
                rw [← HBS2.out] at hS7
                have HS7 := Lib.hid hS7
                clear hS7
                obtain ⟨A7, c7, hv7⟩ := HS7.out.forget.row
                subst hv7
                go_wp2_with fail
                refine (HS7.out.forget.len).mono ?_
                rintro e w' ⟨rfl, rfl⟩
                go_wp2_with fail
                go_roundg (gk - 1)
                case measure => omega
                case rel => exact ⟨k + 1, g2, _, by omega, by go_num, rfl, by show bs2.length ≤ _; rw [HBS2.out, List.length_append, nb_length]; have := hlen.out; omega, HS7.out.forget⟩
              · have hq0 : (E == 0) = false := by simp [hE0]
                have hput : putBits bs wd n = bs := by
                  unfold putBits
                  rw [← HE.out, if_neg hE0]
                rw [hput] at HS6
                have HE0 := Lib.hid hE0
                clear hE0 hput
                go_wp2_with fail
                refine (HS6.out.forget.len).mono ?_
                rintro e w' ⟨rfl, rfl⟩
                go_wp2_with fail
                go_roundg (gk - 1)
                case measure => omega
                case rel => exact ⟨k + 1, g2, _, by omega, by go_num, rfl, by show bs.length ≤ _; have := hlen.out; omega, HS6.out.forget⟩
        · have hN : bs.length ≤ 8388608 := by have := hlen.out; omega
          have HN := Lib.hid hN
          have HN2 : Hid (bs.length ≤ 100000000) := by show bs.length ≤ _; omega
          clear hN
          obtain ⟨P, hP⟩ : ∃ P, P = packI bs := ⟨_, rfl⟩
          have HP := Lib.hid hP
          have HPL : Hid (P.length ≤ 1000000000000) := by
            show P.length ≤ _
            have := HN.out
            rw [hP, packI_length]
            omega
          clear hP
          obtain ⟨Ar, cr, hu6⟩ := hS.out.row
          subst hu6
          go_wp2_with fail
          refine (hS.out.bytes HN.out P HP.out).mono ?_
          rintro e w4 ⟨A4, c4, rfl, hC4, hS4⟩
          have HC4 := Lib.hid hC4
          have HS4 := Lib.hid hS4
          clear hC4 hS4
          go_wp2_with fail
          refine (HS4.out.rbytes HN2.out P HP.out).mono ?_
          rintro e w5 ⟨A5, c5, rfl, hC5, hB5, hS5⟩
          have HE5 := Lib.hid (requal_true w5 A4 A5 c4 c5 P (Kd.C_below HC4.out hB5) hC5 HPL.out)
          have HS5 := Lib.hid hS5
          clear hC5 hS5 hB5 HC4
          go_wp2_with fail
          refine HE5.out.mono ?_
          rintro e w' ⟨rfl, m, rfl⟩
          have HS6 := Lib.hid (HS5.out.step (pw_below_drewN (Below.refl _ _) m))
          clear HE5
          generalize w5.drewN m = w6 at HS6 ⊢
          go_wp2_with fail
          refine (HS6.out.bytes HN.out P HP.out).mono ?_
          rintro e w7 ⟨A7, c7, rfl, hC7, hS7⟩
          have HC7 := Lib.hid hC7
          have HS7 := Lib.hid hS7
          clear hC7 hS7
          go_wp2_with fail
          refine (HS7.out.rbytes HN2.out P HP.out).mono ?_
          rintro e w8 ⟨A8, c8, rfl, hC8, hB8, hS8⟩
          have HE8 := Lib.hid (requal_true w8 A7 A8 c7 c8 P (Kd.C_below HC7.out hB8) hC8 HPL.out)
          have HS8 := Lib.hid hS8
          clear hC8 hS8 hB8 HC7
          go_wp2_with fail
          refine HE8.out.mono ?_
          rintro e w' ⟨rfl, m2, rfl⟩
          have HB9 := Lib.hid (pw_below_drewN HS8.out.below m2)
          clear HE8
          go_wp2_with fail
          go_ret
          exact ⟨rfl, HB9.out⟩
    · have q1 : decide ((ops.length : Int) ≤ 200) = true := decide_eq_true (by omega)
      have q2 : decide ((300 : Int) < (cls.length : Int)) = true := decide_eq_true (by omega)
      clear hf hcl
      go_enter Try.func3, Try.ntmps3
      go_wp2_with fail
      refine (newWriter_calls _).mono ?_
      rintro e w1 ⟨rfl, hW, hB⟩
      have HB1 := Lib.hid hB
      clear hW hB
      obtain ⟨g, hg⟩ : ∃ g, g = w.heap.size := ⟨_, rfl⟩
      have hbase : w.heap.size = g := hg.symm
      rw [← hg]
      clear hg
      have HG := Lib.hid hbase
      clear hbase
      go_wp2_with fail
      refine (live_calls _).mono ?_
      rintro e w2 ⟨rfl, hB2⟩
      have HB2 := Lib.hid (HB1.out.trans (hB2.mono HB1.out.size))
      clear hB2
      go_wp2_with (go_at_call 11; refine (few_calls _ _ _ _).mono ?_; rintro e w' ⟨rfl, rfl⟩; rw [q1])
      refine (live_calls _).mono ?_
      rintro e w3 ⟨rfl, hB3⟩
      have HB3 := Lib.hid (HB2.out.trans (hB3.mono HB2.out.size))
      clear hB3
      go_wp2_with fail
      go_ret
      exact ⟨rfl, HB3.out⟩
  · have q1 : decide ((ops.length : Int) ≤ 200) = false := decide_eq_false (by omega)
    clear hf
    go_enter Try.func3, Try.ntmps3
    go_wp2_with fail
    refine (newWriter_calls _).mono ?_
    rintro e w1 ⟨rfl, hW, hB⟩
    have HB1 := Lib.hid hB
    clear hW hB
    obtain ⟨g, hg⟩ : ∃ g, g = w.heap.size := ⟨_, rfl⟩
    have hbase : w.heap.size = g := hg.symm
    rw [← hg]
    clear hg
    have HG := Lib.hid hbase
    clear hbase
    go_wp2_with fail
    refine (live_calls _).mono ?_
    rintro e w2 ⟨rfl, hB2⟩
    have HB2 := Lib.hid (HB1.out.trans (hB2.mono HB1.out.size))
    clear hB2
    go_wp2_with (go_at_call 11; refine (few_calls _ _ _ _).mono ?_; rintro e w' ⟨rfl, rfl⟩; rw [q1])
    refine (live_calls _).mono ?_
    rintro e w3 ⟨rfl, hB3⟩
    have HB3 := Lib.hid (HB2.out.trans (hB3.mono HB2.out.size))
    clear hB3
    go_wp2_with fail
    go_ret
    exact ⟨rfl, HB3.out⟩
end Go.Proofs.Ytemkfkaggdpcjaa
