/- BitsReads: its walk. -/
import Derived.Test.YtemkfkaggdpcjaaB26
namespace Go.Proofs.Ytemkfkaggdpcjaa
open Go.RowKit Go.Proofs.YtemkfkaggdpcjaaW.PrintWords Go.Proofs.YtemkfkaggdpcjaaW.PrintMore Go.Proofs.YtemkfkaggdpcjaaW.PrintLast Bq
set_option linter.unusedVariables false
set_option linter.unusedSimpArgs false
attribute [local go_sem ↓] Go.wp_at_zero Go.wp_at_succ

theorem join1_as (w : World) (A : Option Addr) (ca : Nat) (xs : List Int) (hA : (Kd.int .u8).C w A xs.length xs) (ha : xs.length ≤ ca) (hs : xs.length ≤ 1000000000000) :
    Calls Try.prog 28 #[.slice (some ⟨w.heap.size, 0, none⟩) 1 1] (w.alloc (.cells #[.slice A xs.length ca] 37)) fun e w' => ∃ A' c', e = .returned (.slice A' xs.length c') ∧ (Kd.int .u8).R 5 w' w.heap.size (fun k => w.heap.size ≤ k) (.slice A' xs.length c') xs ∧ Below w.heap.size w w' := by
  refine (join_calls _ (some ⟨w.heap.size, 0, none⟩) 1 [xs] (lit1_C w 37 A ca xs hA ha) (by simpa using hs)).mono ?_
  rintro e w' ⟨v, rfl, hR, hB⟩
  have e1 : [xs].flatten = xs := by simp
  rw [e1] at hR
  obtain ⟨A', c', rfl⟩ := Kd.R_slice hR
  exact ⟨A', c', rfl, Kd.R_lower (Kd.R_mono hR (fun k hk => by simp at hk; omega)) (by simp), (below_alloc (Below.refl w.heap.size w) _).trans (hB.mono (by simp))⟩

set_option maxHeartbeats 4000000 in
set_option maxRecDepth 20000 in
theorem bitsReads_calls (w : World) (A : Option Addr) (c : Nat) (xs : List Int) (n : Int) (B : Option Addr) (cb : Nat) (ws : List Int) (cl : Int) (hA : (Kd.int .u8).C w A xs.length xs) (hc : xs.length ≤ c) (hb : Byts xs) (hn1 : -9223372036854775808 ≤ n) (hn2 : n ≤ 9223372036854775807)
    (hB : (Kd.int .i64).C w B ws.length ws) (hw : ∀ x ∈ ws, -9223372036854775808 ≤ x ∧ x ≤ 9223372036854775807) :
    Calls Try.prog 7 #[.slice A xs.length c, .int .i64 n, .slice B ws.length cb, .int .i64 cl] w fun e w' => e = .returned (.bool true) ∧ Below w.heap.size w w' := by
  have HA := Lib.hid hA
  have HC := Lib.hid hc
  have HBY := Lib.hid hb
  have HB := Lib.hid hB
  have HW := Lib.hid hw
  clear hA hc hb hB hw
  by_cases hl : xs.length ≤ 2000
  · by_cases hwl : ws.length ≤ 200
    · have q1 : decide ((2000 : Int) < (xs.length : Int)) = false := decide_eq_false (by omega)
      have q2 : decide ((200 : Int) < (ws.length : Int)) = false := decide_eq_false (by omega)
      have HL := Lib.hid hl
      have HWL := Lib.hid hwl
      clear hl hwl
      go_enter Try.func7, Try.ntmps7
      go_wp2_with fail
      refine (live_calls _).mono ?_
      rintro e w1 ⟨rfl, hB1⟩
      have HB1 := Lib.hid hB1
      have HA1 := Lib.hid (Kd.C_below HA.out hB1)
      clear hB1
      go_wp2_with fail
      refine (join1_as w1 A c xs HA1.out HC.out (by have := HL.out; omega)).mono ?_
      rintro e w2 ⟨A2, c2, rfl, hR2, hB2⟩
      have HR2 := Lib.hid hR2
      have HB2 := Lib.hid (HB1.out.trans (hB2.mono HB1.out.size))
      clear hR2 hB2
      by_cases hn : n < 0 ∨ 8 * (xs.length : Int) < n
      · have HNN := Lib.hid hn
        go_wp2_with fail
        refine (newReader_bad w2 A2 c2 xs n (by have := HL.out; omega) HNN.out).mono ?_
        rintro e w' ⟨rfl, rfl⟩
        rcases hn with hn | hn
        · go_wp2_with fail
          go_ret
          exact ⟨rfl, HB2.out⟩
        · have hn0 : ¬ n < 0 := by omega
          go_wp2_with fail
          go_ret
          exact ⟨rfl, HB2.out⟩
      · obtain ⟨m, rfl⟩ := Int.eq_ofNat_of_zero_le (show 0 ≤ n by omega)
        have hm : m ≤ 8 * xs.length := by omega
        have HM := Lib.hid hm
        clear hn hm
        go_wp2_with fail
        refine (newReader_ok w2 A2 c2 xs m (Kd.R_reads' HR2.out).2.2 (by have := HL.out; omega) HM.out HBY.out).mono ?_
        rintro e w3 ⟨gr, rfl, hQ, hB3⟩
        have hbl : (bitsOf xs m).length = m := bitsOf_length xs m
        obtain ⟨bits, hbits⟩ : ∃ bits, bits = bitsOf xs m := ⟨_, rfl⟩
        rw [← hbits] at hbl
        have HBITS := Lib.hid hbits
        have HBL := Lib.hid hbl
        rw [← hbits] at hQ
        have HO := Lib.hid (QOwn.start (Kd.R_lower (Kd.R_mono HR2.out (fun k hk => Nat.le_trans HB1.out.size hk)) HB1.out.size) HB2.out hQ hB3)
        have hm8 : (m : Int) ≤ 8 * (xs.length : Int) := by have := HM.out; omega
        clear hQ hB3 hbits hbl
        have hl2 := HL.out
        go_wp2_with fail
        go_loopg [66] xs.length (fun kq s66 wr => ∃ (k : Nat) (ys : List Int), k + kq = xs.length ∧ s66 = .int .i64 k ∧ ys.length = xs.length ∧ Hid (QOwn w wr gr bits (.slice A2 xs.length c2) ys))
        case atStart => exact ⟨0, xs, by omega, rfl, rfl, HO.out⟩
        case round =>
          obtain ⟨k, ys, hk, rfl, hyl, hO⟩ := hrel
          by_cases hlt : k < xs.length
          · obtain ⟨okQ, okO, hq, hr, hne⟩ := hO.out.ex
            obtain ⟨g, cap, hs, hgb, hgl, _⟩ := Kd.R_form hr (by omega)
            injection hs with hs1 hs2 hs3
            subst hs1
            subst hs3
            have hr2 : (Kd.int .u8).R 5 wr w.heap.size okO (.slice (some ⟨g, 0, none⟩) ys.length c2) ys := by rw [hyl]; exact hr
            obtain ⟨hcl, hfz⟩ := own_at_of (d := 0) (Kd.own_of_R hr2) (i := (k : Int)) (by omega) (by omega)
            rw [Int.toNat_natCast] at hcl hfz
            obtain ⟨y, hy⟩ : ∃ y : Int, y = rdOf 0 ys (k : Int) := ⟨_, rfl⟩
            rw [← hy] at hcl
            have HYL := Lib.hid hyl
            clear hy hr hr2 hq hne hgb hgl hs2 hyl
            go_wp2_with fail
            go_roundg (gk - 1)
            case measure => omega
            case rel =>
              refine ⟨k + 1, ys.set k (Go.bits .xor .u8 y 255), by omega, by go_num, by rw [List.length_set]; exact HYL.out, ?_⟩
              have h2 := hO.out
              rw [← HYL.out] at h2 ⊢
              exact h2.put k _
          · go_wp2_with fail
            have hA4 := Kd.C_below HA.out hO.out.below
            clear hyl hlt hk
            refine (rbits_calls wr A c xs m hA4 HBY.out HM.out (by omega)).mono ?_
            rintro e w5 ⟨v5, rfl, hR5, hB5⟩
            rw [← HBITS.out] at hR5
            obtain ⟨A5, c5, rfl, hc5, hC5⟩ := Kd.R_reads hR5
            clear hC5
            have HQ := Lib.hid (hO.out.end_ hR5 hB5)
            clear hR5 hB5 hA4 hO HO
            go_wp2_with fail
            go_loopg [81, 10, 13] ws.length (fun kq s81 s10 s13 wz => ∃ (k g : Nat) (rem : List Bool) (A : Option Addr) (cr : Nat), k + kq = ws.length ∧ s81 = .int .i64 k ∧ s10 = .pointer (some ⟨g, 0, none⟩) ∧ s13 = .slice A rem.length cr ∧ rem.length ≤ cr ∧ Hid (rem.length ≤ 16000) ∧ Hid (QSt w wz g rem A rem))
            case atStart => exact ⟨0, gr, bits, A5, c5, by omega, rfl, rfl, rfl, hc5, by show bits.length ≤ _; have := HBL.out; have := HM.out; omega, HQ.out⟩
            case round =>
              obtain ⟨k, g, rem, Ar, cr, hk, rfl, rfl, rfl, hcr, hrl, hQ⟩ := hrel
              have hwl := HWL.out
              by_cases hlt : k < ws.length
              · obtain ⟨ad, hBa, hcell⟩ := C_at_int HB.out k hlt
                subst hBa
                have hcell2 : wr.cell? (ad.add k) = some (.int .i64 (ws.getD k 0)) := by
                  rw [hQ.out.below.cell (World.block_lt_of_cell? w _ hcell)]
                  exact hcell
                clear hcell
                obtain ⟨wd, hwd⟩ : ∃ wd, wd = ws.getD k 0 := ⟨_, rfl⟩
                rw [← hwd] at hcell2
                have hwb : -9223372036854775808 ≤ wd ∧ wd ≤ 9223372036854775807 := by
                  apply HW.out
                  rw [hwd, List.getD_eq_getElem?_getD, List.getElem?_eq_getElem hlt]
                  exact List.getElem_mem hlt
                obtain ⟨hw1, hw2⟩ := hwb
                have HCR := Lib.hid hcr
                clear hwd hcr
                go_upto_if 88 with fail
                go_cut [10] (fun s10 wx => ∃ g2 : Nat, s10 = .pointer (some ⟨g2, 0, none⟩) ∧ Hid (QSt w wx g2 rem Ar rem))
                case first =>
                  by_cases hkc : (k : Int) = cl
                  · have hq : ((k : Int) == cl) = true := by simp [hkc]
                    clear hkc
                    go_wp2_with fail
                    refine (hQ.out.clone).mono ?_
                    rintro e w6 ⟨g2, rfl, hC6⟩
                    have HC6 := Lib.hid hC6
                    clear hC6
                    go_wp2_with fail
                    refine (HC6.out.get 1 (by decide) (by decide)).mono ?_
                    rintro e w7 ⟨rfl, hS7⟩
                    have HS7 := Lib.hid hS7
                    clear hS7
                    go_wp2_with fail
                    go_meet
                    exact ⟨g2, rfl, HS7.out⟩
                  · have hq : ((k : Int) == cl) = false := by simp [hkc]
                    clear hkc
                    go_wp2_with fail
                    go_meet
                    exact ⟨g, rfl, hQ.out⟩
                case rest =>
                  obtain ⟨g2, rfl, HS⟩ := hcut
                  go_wp2_with fail
                  refine (HS.out.get wd hw1 hw2).mono ?_
                  rintro e w8 ⟨rfl, hS8⟩
                  have HS8 := Lib.hid hS8
                  clear hS8
                  by_cases h1 : wd < 0
                  · have hE : getE rem wd = 1 := by unfold getE; rw [if_pos (.inl h1)]
                    have hN : getN rem wd = 0 := by unfold getN; rw [hE]; rfl
                    have hR : getR rem wd = rem := by unfold getR; rw [hE]; rfl
                    rw [hE, hN]
                    rw [hR] at HS8
                    clear hE hN hR
                    go_wp2_with fail
                    refine (HS8.out.left).mono ?_
                    rintro e w' ⟨rfl, nq, rfl⟩
                    have HS9 := Lib.hid (HS8.out.step (pw_below_drewN (Below.refl _ _) nq))
                    clear HS8
                    go_wp2_with fail
                    go_roundg (gk - 1)
                    case measure => omega
                    case rel => exact ⟨k + 1, g2, rem, Ar, cr, by omega, by go_num, rfl, rfl, HCR.out, hrl.out, HS9.out⟩
                  · by_cases h2 : 64 < wd
                    · have hE : getE rem wd = 1 := by unfold getE; rw [if_pos (.inr h2)]
                      have hN : getN rem wd = 0 := by unfold getN; rw [hE]; rfl
                      have hR : getR rem wd = rem := by unfold getR; rw [hE]; rfl
                      rw [hE, hN]
                      rw [hR] at HS8
                      clear hE hN hR
                      go_wp2_with fail
                      refine (HS8.out.left).mono ?_
                      rintro e w' ⟨rfl, nq, rfl⟩
                      have HS9 := Lib.hid (HS8.out.step (pw_below_drewN (Below.refl _ _) nq))
                      clear HS8
                      go_wp2_with fail
                      go_roundg (gk - 1)
                      case measure => omega
                      case rel => exact ⟨k + 1, g2, rem, Ar, cr, by omega, by go_num, rfl, rfl, HCR.out, hrl.out, HS9.out⟩
                    · by_cases h3 : (rem.length : Int) < wd
                      · have hE : getE rem wd = 6 := by unfold getE; rw [if_neg (by omega), if_pos h3]
                        have hN : getN rem wd = 0 := by unfold getN; rw [hE]; rfl
                        have hR : getR rem wd = rem := by unfold getR; rw [hE]; rfl
                        rw [hE, hN]
                        rw [hR] at HS8
                        clear hE hN hR
                        go_wp2_with fail
                        refine (HS8.out.left).mono ?_
                        rintro e w' ⟨rfl, nq, rfl⟩
                        have HS9 := Lib.hid (HS8.out.step (pw_below_drewN (Below.refl _ _) nq))
                        clear HS8
                        go_wp2_with fail
                        go_roundg (gk - 1)
                        case measure => omega
                        case rel => exact ⟨k + 1, g2, rem, Ar, cr, by omega, by go_num, rfl, rfl, HCR.out, hrl.out, HS9.out⟩
                      · have hE : getE rem wd = 0 := by unfold getE; rw [if_neg (by omega), if_neg h3]
                        obtain ⟨m2, rfl⟩ := Int.eq_ofNat_of_zero_le (show 0 ≤ wd by omega)
                        have hN : getN rem (m2 : Int) = (bnum (rem.take m2) : Nat) := by unfold getN; rw [if_pos hE, Int.toNat_natCast]
                        have hR : getR rem (m2 : Int) = rem.drop m2 := by unfold getR; rw [if_pos hE, Int.toNat_natCast]
                        rw [hE, hN]
                        rw [hR] at HS8
                        have hml : m2 ≤ rem.length := by omega
                        have hm64 : m2 ≤ 64 := by omega
                        have hmc : m2 ≤ cr := by have := HCR.out; omega
                        obtain ⟨x, hx⟩ : ∃ x, x = bnum (rem.take m2) := ⟨_, rfl⟩
                        rw [← hx]
                        have HX := Lib.hid hx
                        have HRM := Lib.hid hrl
                        have hnum : Hid (∀ W, Kd.bool.C W Ar rem.length rem → Calls Try.prog 34 #[.slice Ar m2 cr] W fun e w' => e = .returned (.int .u64 x) ∧ W = w') := by
                          intro W hC
                          have h2 := number_calls W Ar cr (rem.take m2) (Kd.C_take hC hml) (by rw [List.length_take]; omega)
                          rw [hx]
                          have e : (rem.take m2).length = m2 := by rw [List.length_take]; omega
                          rw [e] at h2
                          exact h2
                        have hmlI : (m2 : Int) ≤ (rem.length : Int) := by omega
                        have hcrI : (rem.length : Int) ≤ (cr : Int) := by have := HCR.out; omega
                        clear hE hN hR hx h1 h2 h3
                        have h1 : ¬ (m2 : Int) < 0 := by omega
                        have h2 : ¬ (64 : Int) < (m2 : Int) := by omega
                        have h3 : ¬ (rem.length : Int) < (m2 : Int) := by omega
                        by_cases hcm : cr = m2
                        · subst hcm
                          have hQ9 : QSt w w8 g2 (rem.drop cr) (Ar) (rem.drop cr) := by
                            have h := HS8.out.cut cr cr hml HCR.out
                            rw [if_pos rfl] at h
                            exact h
                          have HQ9 := Lib.hid hQ9
                          have hle9 : (rem.drop cr).length ≤ 0 := by rw [List.length_drop]; omega
                          have HLE9 := Lib.hid hle9
                          clear hQ9 hle9
                          go_wp2_with (go_at_call 34; refine (hnum.out _ HS8.out.now).mono ?_; rintro e w' ⟨rfl, rfl⟩)
                          refine (HQ9.out.left).mono ?_
                          rintro e w' ⟨rfl, nq, rfl⟩
                          rw [List.length_drop]
                          have HS9 := Lib.hid (HQ9.out.step (pw_below_drewN (Below.refl _ _) nq))
                          clear HS8 HQ9
                          go_wp2_with fail
                          go_roundg (gk - 1)
                          case measure => omega
                          case rel => exact ⟨k + 1, g2, rem.drop cr, Ar, 0, by omega, by go_num, rfl, by rw [List.length_drop], HLE9.out, by show (rem.drop cr).length ≤ _; rw [List.length_drop]; have := HRM.out.out; omega, HS9.out⟩
                        · have hQ9 : QSt w w8 g2 (rem.drop m2) (Ar.map (fun x => x.add m2)) (rem.drop m2) := by
                            have h := HS8.out.cut cr m2 hml HCR.out
                            rw [if_neg hcm, Nat.mul_one] at h
                            exact h
                          have HQ9 := Lib.hid hQ9
                          have hle9 : (rem.drop m2).length ≤ (cr - m2) := by rw [List.length_drop]; omega
                          have HLE9 := Lib.hid hle9
                          clear hQ9 hle9
                          go_wp2_with (go_at_call 34; refine (hnum.out _ HS8.out.now).mono ?_; rintro e w' ⟨rfl, rfl⟩)
                          refine (HQ9.out.left).mono ?_
                          rintro e w' ⟨rfl, nq, rfl⟩
                          rw [List.length_drop]
                          have HS9 := Lib.hid (HQ9.out.step (pw_below_drewN (Below.refl _ _) nq))
                          clear HS8 HQ9
                          go_wp2_with fail
                          go_roundg (gk - 1)
                          case measure => omega
                          case rel => exact ⟨k + 1, g2, rem.drop m2, Ar.map (fun x => x.add m2), (cr - m2), by omega, by go_num, rfl, by rw [List.length_drop], HLE9.out, by show (rem.drop m2).length ≤ _; rw [List.length_drop]; have := HRM.out.out; omega, HS9.out⟩
              · go_wp2_with fail
                go_ret
                exact ⟨rfl, hQ.out.below⟩
    · have q2 : decide ((200 : Int) < (ws.length : Int)) = true := decide_eq_true (by omega)
      have q1 : decide ((2000 : Int) < (xs.length : Int)) = false := decide_eq_false (by omega)
      clear hl hwl
      go_enter Try.func7, Try.ntmps7
      go_wp2_with fail
      refine (live_calls _).mono ?_
      rintro e w1 ⟨rfl, hB1⟩
      have HB1 := Lib.hid hB1
      clear hB1
      go_wp2_with fail
      refine (live_calls _).mono ?_
      rintro e w2 ⟨rfl, hB2⟩
      have HB2 := Lib.hid (HB1.out.trans (hB2.mono HB1.out.size))
      clear hB2
      go_wp2_with fail
      go_ret
      exact ⟨rfl, HB2.out⟩
  · have q1 : decide ((2000 : Int) < (xs.length : Int)) = true := decide_eq_true (by omega)
    clear hl
    go_enter Try.func7, Try.ntmps7
    go_wp2_with fail
    refine (live_calls _).mono ?_
    rintro e w1 ⟨rfl, hB1⟩
    have HB1 := Lib.hid hB1
    clear hB1
    go_wp2_with fail
    refine (live_calls _).mono ?_
    rintro e w2 ⟨rfl, hB2⟩
    have HB2 := Lib.hid (HB1.out.trans (hB2.mono HB1.out.size))
    clear hB2
    go_wp2_with fail
    go_ret
    exact ⟨rfl, HB2.out⟩
end Go.Proofs.Ytemkfkaggdpcjaa
