import Derived.Test.YtdhmabofncbohaaDoorCLabelsBackLB1
namespace Go.Proofs.YtdhmabofncbohaaDoor
open Go Go.RowKit Go.Proofs.YtdhmabofncbohaaDoor.PLC Go.Proofs.YtdhmabofncbohaaDoorW.PrintWords Go.Proofs.YtdhmabofncbohaaDoorW.PrintLast Go.Proofs.YtdhmabofncbohaaDoorW.PrintMore
set_option linter.unusedVariables false
set_option linter.unusedSimpArgs false
attribute [local go_sem] max2_int min2_int max_two min_two
attribute [local go_sem ↓] Go.wp_at_zero Go.wp_at_succ
theorem below_drawn {w w' : World} (h : Drawn0 w w') : Below w.heap.size w w' := by
  obtain ⟨n, rfl⟩ := h
  exact pw_below_drewN (Below.refl _ _) n
theorem back_facts (w : World) (A : Option Addr) (ca : Nat) (l : List Pu.Lab) (B : Option Addr) (cb : Nat) (b : List Int) (hA : k44.C w A l.length l) (hac : l.length ≤ ca) (hB : (Kd.int .u8).C w B b.length b) (hbc : b.length ≤ cb) (hb : Byts b)
    (hT : ∀ W : World, Below w.heap.size w W → Tab W) (hf : Pu.fewB l = true) (hl : b.length ≤ 6000) :
    ∃ (X : List Pu.Lab) (ni e1 : Int) (M : Nat) (P J : List Int) (Z : Nat → List Pu.Lab) (y : Nat → Int),
      Hid (∀ W : World, Below w.heap.size w W → Calls Tryd.prog 51 #[.slice B b.length cb] W fun e w' => ∃ (A' : Option Addr) (c' : Nat), e = .returned (.tuple #[.slice A' X.length c', .int .i64 ni, .int .i64 e1]) ∧ X.length ≤ c' ∧ k44.C w' A' X.length X ∧ Below W.heap.size W w') ∧
      (e1 = 0 → ∃ n : Nat, Hid (ni = (n : Int)) ∧ (if 0 < ni then ni else 0) = ni ∧ decide ((b.length : Int) < ni) = false ∧ (∀ W : World, (Instr.slice 53 (.slice B b.length cb) none (some (.int .i64 ni)) none).run Tryd.prog W = .ok (.slice B n cb) W) ∧
        Hid (∀ (W : World) (A' : Option Addr) (c' : Nat), Below w.heap.size w W → k44.C W A' X.length X → X.length ≤ c' → Calls Tryd.prog 49 #[.slice A' X.length c'] W fun e w' => ∃ (A2 : Option Addr) (c2 : Nat), e = .returned (.tuple #[.slice A2 n c2, .int .i64 0]) ∧ n ≤ c2 ∧ (Kd.int .u8).C w' A2 n (b.take n) ∧ Below W.heap.size W w') ∧
        Hid (∀ (W : World) (A' : Option Addr) (c' : Nat), Below w.heap.size w W → (Kd.int .u8).C W A' n (b.take n) → n ≤ c' → Calls Tryd.prog 53 #[.slice A' n c', .slice B n cb] W fun e w' => e = .returned (.bool true) ∧ Below W.heap.size W w')) ∧
      (e1 = 0 ∨ ¬ e1 = 0) ∧
      (Pu.rightB l = 0 → ∀ zn : Nat, zn < M → Hid (∀ (W : World) (A' : Option Addr) (c' : Nat), Below w.heap.size w W → (Kd.int .u8).C W A' M P → M ≤ c' → Calls Tryd.prog 51 #[.slice A' zn c'] W fun e w' => ∃ (A2 : Option Addr) (c2 : Nat), e = .returned (.tuple #[.slice A2 (Z zn).length c2, .int .i64 (y zn), .int .i64 6]) ∧ (Z zn).length ≤ c2 ∧ k44.C w' A2 (Z zn).length (Z zn) ∧ Below W.heap.size W w')) ∧
      (Pu.rightB l = 0 → Hid (∀ (W : World) (A' : Option Addr) (c' : Nat), Below w.heap.size w W → (Kd.int .u8).C W A' M P → M ≤ c' → Calls Tryd.prog 54 #[.slice (some ⟨W.heap.size, 0, none⟩) 2 2] (W.alloc (.cells #[.slice A' M c', .slice B b.length cb] 53)) fun e w' => ∃ (A2 : Option Addr) (c2 : Nat), e = .returned (.slice A2 J.length c2) ∧ J.length ≤ c2 ∧ (Kd.int .u8).C w' A2 J.length J ∧ Below W.heap.size W w')) ∧
      (Pu.rightB l = 0 → Hid (∀ (W : World) (A' : Option Addr) (c' : Nat), Below w.heap.size w W → (Kd.int .u8).C W A' J.length J → J.length ≤ c' → Calls Tryd.prog 51 #[.slice A' J.length c'] W fun e w' => ∃ (A2 : Option Addr) (c2 : Nat), e = .returned (.tuple #[.slice A2 l.length c2, .int .i64 (M : Int), .int .i64 0]) ∧ l.length ≤ c2 ∧ k44.C w' A2 l.length l ∧ Below W.heap.size W w')) ∧
      (Pu.rightB l = 0 → Hid (∀ (W : World) (A' : Option Addr) (c' : Nat), Below w.heap.size w W → k44.C W A' l.length l → l.length ≤ c' → Calls Tryd.prog 30 #[.slice A' l.length c', .slice A l.length ca] W fun e w' => e = .returned (.bool true) ∧ Below W.heap.size W w')) ∧
      (¬ Pu.rightB l = 0 → Hid (∀ W : World, Below w.heap.size w W → Calls Tryd.prog 49 #[.slice A l.length ca] W fun e w' => ∃ (A2 : Option Addr) (c2 : Nat), e = .returned (.tuple #[.slice A2 0 c2, .int .i64 (Pu.rightB l)]) ∧ 0 ≤ c2 ∧ True ∧ Below W.heap.size W w')) ∧
      (Pu.rightB l = 0 → Hid (∀ W : World, Below w.heap.size w W → Calls Tryd.prog 49 #[.slice A l.length ca] W fun e w' => ∃ (A2 : Option Addr) (c2 : Nat), e = .returned (.tuple #[.slice A2 M c2, .int .i64 0]) ∧ M ≤ c2 ∧ (Kd.int .u8).C w' A2 M P ∧ Below W.heap.size W w')) ∧
      Hid (∀ W : World, Below w.heap.size w W → Calls Tryd.prog 36 #[.slice A l.length ca] W fun e w' => e = .returned (.int .i64 (Pu.rightB l)) ∧ Below W.heap.size W w') := by
  have hsm := Pu.few_sm hf
  have hpl := Pu.putL_len l hsm
  refine ⟨(Pu.takeB b).1, (Pu.takeB b).2.1, (Pu.takeB b).2.2, (Pu.putL l).length, Pu.putL l, Pu.putL l ++ b, fun zn => (Pu.takeB ((Pu.putL l).take zn)).1, fun zn => (Pu.takeB ((Pu.putL l).take zn)).2.1, ?_, ?_, ?_, ?_, ?_, ?_, ?_, ?_, ?_, ?_⟩
  · exact Lib.hid fun W hW => take_w W B cb b (hT W hW) (Kd.C_below hB hW) hbc hb (by omega)
  · intro he
    obtain ⟨n, h1, h2, h3⟩ := Pu.take_back b hb he
    have hln : (b.take n).length = n := by rw [List.length_take]; omega
    have hx := Pu.takeB_sm b hb
    refine ⟨n, Lib.hid h1, by rw [h1]; split <;> omega, decide_eq_false (by omega), fun W => by rw [h1]; exact cut_w B b.length cb n h2 hbc W, Lib.hid fun W A' c' hW hC hc => ?_, Lib.hid fun W A' c' hW hC hc => ?_⟩
    · have h := put_w W A' c' (Pu.takeB b).1 (hT W hW) hC hc hx
      rw [h3] at h
      simp only [hln] at h
      exact h
    · have hC2 : (Kd.int .u8).C W B (b.take n).length (b.take n) := Kd.C_take (Kd.C_below hB hW) h2
      have hC1 : (Kd.int .u8).C W A' (b.take n).length (b.take n) := by rw [hln]; exact hC
      have h := equal_w W A' B c' cb (b.take n) (b.take n) hC1 (by omega) hC2 (by omega) (by omega)
      rw [hln, decide_eq_true (rfl : b.take n = b.take n)] at h
      exact h.mono fun e w' hh => ⟨hh.1, below_drawn hh.2⟩
  · exact Classical.em _
  · intro hr zn hzn
    refine Lib.hid fun W A' c' hW hC hc => ?_
    have hl2 : ((Pu.putL l).take zn).length = zn := by rw [List.length_take]; omega
    have hC2 : (Kd.int .u8).C W A' ((Pu.putL l).take zn).length ((Pu.putL l).take zn) := Kd.C_take hC (by omega)
    have h := take_w W A' c' ((Pu.putL l).take zn) (hT W hW) hC2 (by omega) (Pu.byt_take (Pu.byt_putL l) zn) (by rw [hl2]; have := Pu.putL_few hf hr; omega)
    rw [hl2, Pu.take_cut l zn hr hzn] at h
    exact h
  · intro hr
    refine Lib.hid fun W A' c' hW hC hc => ?_
    exact join2_w W A' B c' cb (Pu.putL l) b hC (Kd.C_below hB hW) hc hbc (by have := Pu.putL_few hf hr; omega)
  · intro hr
    refine Lib.hid fun W A' c' hW hC hc => ?_
    have h := take_w W A' c' (Pu.putL l ++ b) (hT W hW) hC hc (Pu.byt_app (Pu.byt_putL l) hb) (by rw [List.length_append]; have := Pu.putL_few hf hr; omega)
    rw [Pu.take_put l b hr] at h
    exact h
  · intro hr
    refine Lib.hid fun W A' c' hW hC hc => ?_
    have h := same_w W A' A c' ca l l hC hc (Kd.C_below hA hW) hac (by have := hsm.1; omega)
    rw [Pu.sameB_refl] at h
    exact h.mono fun e w' hh => ⟨hh.1, below_drawn hh.2⟩
  · intro hr
    refine Lib.hid fun W hW => ?_
    have h := put_w W A ca l (hT W hW) (Kd.C_below hA hW) hac hsm
    unfold Pu.putB at h
    rw [if_neg hr] at h
    refine h.mono ?_
    rintro e w' ⟨A2, c2, rfl, _, _, hB2⟩
    exact ⟨A2, c2, rfl, Nat.zero_le _, trivial, hB2⟩
  · intro hr
    refine Lib.hid fun W hW => ?_
    have h := put_w W A ca l (hT W hW) (Kd.C_below hA hW) hac hsm
    unfold Pu.putB at h
    rw [if_pos hr] at h
    exact h
  · exact Lib.hid fun W hW => right_w W A ca l (hT W hW) (Kd.C_below hA hW) hac hsm
set_option maxRecDepth 20000 in
set_option maxHeartbeats 16000000 in
theorem labelsBack_calls (w : World) (hT : Tab w) (A : Option Addr) (ca : Nat) (l : List Pu.Lab) (hA : k44.C w A l.length l) (hac : l.length ≤ ca) (B : Option Addr) (cb : Nat) (b : List Int) (hB : (Kd.int .u8).C w B b.length b) (hbc : b.length ≤ cb) (hb : Byts b) (z : Int) :
    Calls Tryd.prog 14 #[.slice A l.length ca, .slice B b.length cb, .int .i64 z] w fun e w' => e = .returned (.bool true) ∧ Below w.heap.size w w' := by
  have HA := Lib.hid hA
  have HAC := Lib.hid hac
  have HBR := Lib.hid hB
  have HBC := Lib.hid hbc
  have HBY := Lib.hid hb
  have HT := Lib.hid (fun (W : World) (hW : Below w.heap.size w W) => Tab_below hT hW)
  clear hA hac hB hbc hb hT
  by_cases hf : Pu.fewB l = true
  · have HF := Lib.hid hf
    clear hf
    by_cases hl : b.length ≤ 6000
    · have h6 : decide (6000 < (b.length : Int)) = false := decide_eq_false (by omega)
      obtain ⟨X, ni, e1, M, P, J, Z, y, HTK1, hOK, hERR, HM, HJ, HT3, HS, HP2e, HP2o, HR⟩ := back_facts w A ca l B cb b HA.out HAC.out HBR.out HBC.out HBY.out HT.out HF.out hl
      obtain ⟨r, hr⟩ : ∃ r, r = Pu.rightB l := ⟨_, rfl⟩
      rw [← hr] at HR HP2e HP2o HM HJ HT3 HS
      clear hl hr
      by_cases he : e1 = 0
      · obtain ⟨n, hni, hmax, hgt, hcut, HP1, HE1⟩ := hOK he
        have hq1 : (e1 == 0) = true := beq_iff_eq.mpr he
        clear hOK hERR he
        by_cases hr : r = 0
        · have HP2 := HP2o hr
          replace HT3 := HT3 hr
          replace HJ := HJ hr
          replace HS := HS hr
          replace HM := HM hr
          clear HP2e HP2o
          subst hr
          by_cases hz : z < 0
          · have hd1 : decide (z < 0) = true := decide_eq_true hz
            clear hz
            go_enter Tryd.func14, Tryd.ntmps14
            go_wp2_with (first | (go_at_call 15; (with_reducible refine (live_w w (HT.out w (Below.refl _ w))).mono ?_); rintro e w1 ⟨rfl, hB1⟩; have HB1 := Lib.hid ((Below.refl w.heap.size w).trans (lower_w hB1 (Below.refl w.heap.size w).size)); clear hB1) | (go_at_call 24; (with_reducible refine (few_w w1 A ca l (Kd.C_below HA.out HB1.out) HAC.out).mono ?_); rintro e w2 ⟨rfl, hB2⟩; have HB2 := Lib.hid (HB1.out.trans (lower_w hB2 HB1.out.size)); clear hB2) | (go_at_call 51; (with_reducible refine (HTK1.out w2 HB2.out).mono ?_); rintro e w3 ⟨A3, c3, rfl, hc3, hC3, hB3⟩; have HB3 := Lib.hid (HB2.out.trans (lower_w hB3 HB2.out.size)); have HC3 := Lib.hid hC3; have Hc3 := Lib.hid hc3; clear hC3 hc3 hB3) | (go_at_call 49; (with_reducible refine (HP1.out w3 A3 c3 HB3.out HC3.out Hc3.out).mono ?_); rintro e w4 ⟨A4, c4, rfl, hc4, hC4, hB4⟩; have HB4 := Lib.hid (HB3.out.trans (lower_w hB4 HB3.out.size)); have HC4 := Lib.hid hC4; have Hc4 := Lib.hid hc4; clear hC4 hc4 hB4) | (go_at_call 53; (with_reducible refine (HE1.out w4 A4 c4 HB4.out HC4.out Hc4.out).mono ?_); rintro e w5 ⟨rfl, hB5⟩; have HB5 := Lib.hid (HB4.out.trans (lower_w hB5 HB4.out.size)); clear hB5) | (go_at_call 49; (with_reducible refine (HP2.out w5 HB5.out).mono ?_); rintro e w6 ⟨A6, c6, rfl, hc6, hC6, hB6⟩; have HB6 := Lib.hid (HB5.out.trans (lower_w hB6 HB5.out.size)); have HC6 := Lib.hid hC6; have Hc6 := Lib.hid hc6; clear hC6 hc6 hB6) | (go_at_call 36; (with_reducible refine (HR.out w6 HB6.out).mono ?_); rintro e w7 ⟨rfl, hB7⟩; have HB7 := Lib.hid (HB6.out.trans (lower_w hB7 HB6.out.size)); have HB67 := Lib.hid hB7; clear hB7) | (go_at_call 54; (with_reducible refine (HJ.out w7 A6 c6 HB7.out (Kd.C_below HC6.out HB67.out) Hc6.out).mono ?_); rintro e w8 ⟨A8, c8, rfl, hc8, hC8, hB8⟩; have HB8 := Lib.hid (HB7.out.trans (lower_w hB8 HB7.out.size)); have HC8 := Lib.hid hC8; have Hc8 := Lib.hid hc8; have HB78 := Lib.hid hB8; clear hC8 hc8 hB8) | (go_at_call 51; (with_reducible refine (HT3.out w8 A8 c8 HB8.out HC8.out Hc8.out).mono ?_); rintro e w9 ⟨A9, c9, rfl, hc9, hC9, hB9⟩; have HB9 := Lib.hid (HB8.out.trans (lower_w hB9 HB8.out.size)); have HC9 := Lib.hid hC9; have Hc9 := Lib.hid hc9; have HB89 := Lib.hid hB9; clear hC9 hc9 hB9) | (go_at_call 30; (with_reducible refine (HS.out w9 A9 c9 HB9.out HC9.out Hc9.out).mono ?_); rintro e w10 ⟨rfl, hB10⟩; have HB10 := Lib.hid (HB9.out.trans (lower_w hB10 HB9.out.size)); have HB910 := Lib.hid hB10; clear hB10))
            go_ret
            exact ⟨by first | rfl | (simp; done), HB10.out⟩
          · have hd1 : decide (z < 0) = false := decide_eq_false hz
            by_cases hz2 : (M : Int) ≤ z
            · have hd2 : decide ((M : Int) ≤ z) = true := decide_eq_true hz2
              clear hz hz2
              go_enter Tryd.func14, Tryd.ntmps14
              go_wp2_with (first | (go_at_call 15; (with_reducible refine (live_w w (HT.out w (Below.refl _ w))).mono ?_); rintro e w1 ⟨rfl, hB1⟩; have HB1 := Lib.hid ((Below.refl w.heap.size w).trans (lower_w hB1 (Below.refl w.heap.size w).size)); clear hB1) | (go_at_call 24; (with_reducible refine (few_w w1 A ca l (Kd.C_below HA.out HB1.out) HAC.out).mono ?_); rintro e w2 ⟨rfl, hB2⟩; have HB2 := Lib.hid (HB1.out.trans (lower_w hB2 HB1.out.size)); clear hB2) | (go_at_call 51; (with_reducible refine (HTK1.out w2 HB2.out).mono ?_); rintro e w3 ⟨A3, c3, rfl, hc3, hC3, hB3⟩; have HB3 := Lib.hid (HB2.out.trans (lower_w hB3 HB2.out.size)); have HC3 := Lib.hid hC3; have Hc3 := Lib.hid hc3; clear hC3 hc3 hB3) | (go_at_call 49; (with_reducible refine (HP1.out w3 A3 c3 HB3.out HC3.out Hc3.out).mono ?_); rintro e w4 ⟨A4, c4, rfl, hc4, hC4, hB4⟩; have HB4 := Lib.hid (HB3.out.trans (lower_w hB4 HB3.out.size)); have HC4 := Lib.hid hC4; have Hc4 := Lib.hid hc4; clear hC4 hc4 hB4) | (go_at_call 53; (with_reducible refine (HE1.out w4 A4 c4 HB4.out HC4.out Hc4.out).mono ?_); rintro e w5 ⟨rfl, hB5⟩; have HB5 := Lib.hid (HB4.out.trans (lower_w hB5 HB4.out.size)); clear hB5) | (go_at_call 49; (with_reducible refine (HP2.out w5 HB5.out).mono ?_); rintro e w6 ⟨A6, c6, rfl, hc6, hC6, hB6⟩; have HB6 := Lib.hid (HB5.out.trans (lower_w hB6 HB5.out.size)); have HC6 := Lib.hid hC6; have Hc6 := Lib.hid hc6; clear hC6 hc6 hB6) | (go_at_call 36; (with_reducible refine (HR.out w6 HB6.out).mono ?_); rintro e w7 ⟨rfl, hB7⟩; have HB7 := Lib.hid (HB6.out.trans (lower_w hB7 HB6.out.size)); have HB67 := Lib.hid hB7; clear hB7) | (go_at_call 54; (with_reducible refine (HJ.out w7 A6 c6 HB7.out (Kd.C_below HC6.out HB67.out) Hc6.out).mono ?_); rintro e w8 ⟨A8, c8, rfl, hc8, hC8, hB8⟩; have HB8 := Lib.hid (HB7.out.trans (lower_w hB8 HB7.out.size)); have HC8 := Lib.hid hC8; have Hc8 := Lib.hid hc8; have HB78 := Lib.hid hB8; clear hC8 hc8 hB8) | (go_at_call 51; (with_reducible refine (HT3.out w8 A8 c8 HB8.out HC8.out Hc8.out).mono ?_); rintro e w9 ⟨A9, c9, rfl, hc9, hC9, hB9⟩; have HB9 := Lib.hid (HB8.out.trans (lower_w hB9 HB8.out.size)); have HC9 := Lib.hid hC9; have Hc9 := Lib.hid hc9; have HB89 := Lib.hid hB9; clear hC9 hc9 hB9) | (go_at_call 30; (with_reducible refine (HS.out w9 A9 c9 HB9.out HC9.out Hc9.out).mono ?_); rintro e w10 ⟨rfl, hB10⟩; have HB10 := Lib.hid (HB9.out.trans (lower_w hB10 HB9.out.size)); have HB910 := Lib.hid hB10; clear hB10))
              go_ret
              exact ⟨by first | rfl | (simp; done), HB10.out⟩
            · have hd2 : decide ((M : Int) ≤ z) = false := decide_eq_false hz2
              obtain ⟨zn, hzn, hzm⟩ : ∃ zn : Nat, z = (zn : Int) ∧ zn < M := ⟨z.toNat, by omega, by omega⟩
              have hcz : ∀ (A' : Option Addr) (c' : Nat), M ≤ c' → ∀ W : World, (Instr.slice 53 (.slice A' M c') none (some (.int .i64 z)) none).run Tryd.prog W = .ok (.slice A' zn c') W := fun A' c' h W => by rw [hzn]; exact cut_w A' M c' zn (by omega) h W
              have HCZ := Lib.hid hcz
              have HT4 := HM zn hzm
              clear hz hz2 hzn hzm hcz
              go_enter Tryd.func14, Tryd.ntmps14
              go_wp2_with (first | (go_at_call 15; (with_reducible refine (live_w w (HT.out w (Below.refl _ w))).mono ?_); rintro e w1 ⟨rfl, hB1⟩; have HB1 := Lib.hid ((Below.refl w.heap.size w).trans (lower_w hB1 (Below.refl w.heap.size w).size)); clear hB1) | (go_at_call 24; (with_reducible refine (few_w w1 A ca l (Kd.C_below HA.out HB1.out) HAC.out).mono ?_); rintro e w2 ⟨rfl, hB2⟩; have HB2 := Lib.hid (HB1.out.trans (lower_w hB2 HB1.out.size)); clear hB2) | (go_at_call 51; (with_reducible refine (HTK1.out w2 HB2.out).mono ?_); rintro e w3 ⟨A3, c3, rfl, hc3, hC3, hB3⟩; have HB3 := Lib.hid (HB2.out.trans (lower_w hB3 HB2.out.size)); have HC3 := Lib.hid hC3; have Hc3 := Lib.hid hc3; clear hC3 hc3 hB3) | (go_at_call 49; (with_reducible refine (HP1.out w3 A3 c3 HB3.out HC3.out Hc3.out).mono ?_); rintro e w4 ⟨A4, c4, rfl, hc4, hC4, hB4⟩; have HB4 := Lib.hid (HB3.out.trans (lower_w hB4 HB3.out.size)); have HC4 := Lib.hid hC4; have Hc4 := Lib.hid hc4; clear hC4 hc4 hB4) | (go_at_call 53; (with_reducible refine (HE1.out w4 A4 c4 HB4.out HC4.out Hc4.out).mono ?_); rintro e w5 ⟨rfl, hB5⟩; have HB5 := Lib.hid (HB4.out.trans (lower_w hB5 HB4.out.size)); clear hB5) | (go_at_call 49; (with_reducible refine (HP2.out w5 HB5.out).mono ?_); rintro e w6 ⟨A6, c6, rfl, hc6, hC6, hB6⟩; have HB6 := Lib.hid (HB5.out.trans (lower_w hB6 HB5.out.size)); have HC6 := Lib.hid hC6; have Hc6 := Lib.hid hc6; have hcz6 := HCZ.out A6 c6 hc6; clear hC6 hc6 hB6) | (go_at_call 36; (with_reducible refine (HR.out w6 HB6.out).mono ?_); rintro e w7 ⟨rfl, hB7⟩; have HB7 := Lib.hid (HB6.out.trans (lower_w hB7 HB6.out.size)); have HB67 := Lib.hid hB7; clear hB7) | (go_at_call 54; (with_reducible refine (HJ.out w7 A6 c6 HB7.out (Kd.C_below HC6.out HB67.out) Hc6.out).mono ?_); rintro e w8 ⟨A8, c8, rfl, hc8, hC8, hB8⟩; have HB8 := Lib.hid (HB7.out.trans (lower_w hB8 HB7.out.size)); have HC8 := Lib.hid hC8; have Hc8 := Lib.hid hc8; have HB78 := Lib.hid hB8; clear hC8 hc8 hB8) | (go_at_call 51; (with_reducible refine (HT3.out w8 A8 c8 HB8.out HC8.out Hc8.out).mono ?_); rintro e w9 ⟨A9, c9, rfl, hc9, hC9, hB9⟩; have HB9 := Lib.hid (HB8.out.trans (lower_w hB9 HB8.out.size)); have HC9 := Lib.hid hC9; have Hc9 := Lib.hid hc9; have HB89 := Lib.hid hB9; clear hC9 hc9 hB9) | (go_at_call 30; (with_reducible refine (HS.out w9 A9 c9 HB9.out HC9.out Hc9.out).mono ?_); rintro e w10 ⟨rfl, hB10⟩; have HB10 := Lib.hid (HB9.out.trans (lower_w hB10 HB9.out.size)); have HB910 := Lib.hid hB10; clear hB10) | (go_at_call 51; (with_reducible refine (HT4.out w10 A6 c6 HB10.out (Kd.C_below (Kd.C_below (Kd.C_below (Kd.C_below HC6.out HB67.out) HB78.out) HB89.out) HB910.out) Hc6.out).mono ?_); rintro e w11 ⟨A11, c11, rfl, hc11, hC11, hB11⟩; have HB11 := Lib.hid (HB10.out.trans (lower_w hB11 HB10.out.size)); have HC11 := Lib.hid hC11; have Hc11 := Lib.hid hc11; clear hC11 hc11 hB11))
              go_ret
              exact ⟨by first | rfl | (simp; done), HB11.out⟩
        · have HP2 := HP2e hr
          have hr1 : (r != 0) = true := bne_iff_ne.mpr hr
          clear HP2e HP2o HT3 HJ HS HM hr
          go_enter Tryd.func14, Tryd.ntmps14
          go_wp2_with (first | (go_at_call 15; (with_reducible refine (live_w w (HT.out w (Below.refl _ w))).mono ?_); rintro e w1 ⟨rfl, hB1⟩; have HB1 := Lib.hid ((Below.refl w.heap.size w).trans (lower_w hB1 (Below.refl w.heap.size w).size)); clear hB1) | (go_at_call 24; (with_reducible refine (few_w w1 A ca l (Kd.C_below HA.out HB1.out) HAC.out).mono ?_); rintro e w2 ⟨rfl, hB2⟩; have HB2 := Lib.hid (HB1.out.trans (lower_w hB2 HB1.out.size)); clear hB2) | (go_at_call 51; (with_reducible refine (HTK1.out w2 HB2.out).mono ?_); rintro e w3 ⟨A3, c3, rfl, hc3, hC3, hB3⟩; have HB3 := Lib.hid (HB2.out.trans (lower_w hB3 HB2.out.size)); have HC3 := Lib.hid hC3; have Hc3 := Lib.hid hc3; clear hC3 hc3 hB3) | (go_at_call 49; (with_reducible refine (HP1.out w3 A3 c3 HB3.out HC3.out Hc3.out).mono ?_); rintro e w4 ⟨A4, c4, rfl, hc4, hC4, hB4⟩; have HB4 := Lib.hid (HB3.out.trans (lower_w hB4 HB3.out.size)); have HC4 := Lib.hid hC4; have Hc4 := Lib.hid hc4; clear hC4 hc4 hB4) | (go_at_call 53; (with_reducible refine (HE1.out w4 A4 c4 HB4.out HC4.out Hc4.out).mono ?_); rintro e w5 ⟨rfl, hB5⟩; have HB5 := Lib.hid (HB4.out.trans (lower_w hB5 HB4.out.size)); clear hB5) | (go_at_call 49; (with_reducible refine (HP2.out w5 HB5.out).mono ?_); rintro e w6 ⟨A6, c6, rfl, hc6, hC6, hB6⟩; have HB6 := Lib.hid (HB5.out.trans (lower_w hB6 HB5.out.size)); have HC6 := Lib.hid hC6; have Hc6 := Lib.hid hc6; clear hC6 hc6 hB6) | (go_at_call 36; (with_reducible refine (HR.out w6 HB6.out).mono ?_); rintro e w7 ⟨rfl, hB7⟩; have HB7 := Lib.hid (HB6.out.trans (lower_w hB7 HB6.out.size)); have HB67 := Lib.hid hB7; clear hB7) | (go_at_call 36; (with_reducible refine (HR.out w7 HB7.out).mono ?_); rintro e w8 ⟨rfl, hB8⟩; have HB8 := Lib.hid (HB7.out.trans (lower_w hB8 HB7.out.size)); clear hB8))
          go_ret
          exact ⟨by first | rfl | (simp; done), HB8.out⟩
      · have hq1 : (e1 == 0) = false := beq_eq_false_iff_ne.mpr he
        clear hOK hERR he
        by_cases hr : r = 0
        · have HP2 := HP2o hr
          replace HT3 := HT3 hr
          replace HJ := HJ hr
          replace HS := HS hr
          replace HM := HM hr
          clear HP2e HP2o
          subst hr
          by_cases hz : z < 0
          · have hd1 : decide (z < 0) = true := decide_eq_true hz
            clear hz
            go_enter Tryd.func14, Tryd.ntmps14
            go_wp2_with (first | (go_at_call 15; (with_reducible refine (live_w w (HT.out w (Below.refl _ w))).mono ?_); rintro e w1 ⟨rfl, hB1⟩; have HB1 := Lib.hid ((Below.refl w.heap.size w).trans (lower_w hB1 (Below.refl w.heap.size w).size)); clear hB1) | (go_at_call 24; (with_reducible refine (few_w w1 A ca l (Kd.C_below HA.out HB1.out) HAC.out).mono ?_); rintro e w2 ⟨rfl, hB2⟩; have HB2 := Lib.hid (HB1.out.trans (lower_w hB2 HB1.out.size)); clear hB2) | (go_at_call 51; (with_reducible refine (HTK1.out w2 HB2.out).mono ?_); rintro e w3 ⟨A3, c3, rfl, hc3, hC3, hB3⟩; have HB3 := Lib.hid (HB2.out.trans (lower_w hB3 HB2.out.size)); have HC3 := Lib.hid hC3; have Hc3 := Lib.hid hc3; clear hC3 hc3 hB3) | (go_at_call 49; (with_reducible refine (HP2.out w3 HB3.out).mono ?_); rintro e w6 ⟨A6, c6, rfl, hc6, hC6, hB6⟩; have HB6 := Lib.hid (HB3.out.trans (lower_w hB6 HB3.out.size)); have HC6 := Lib.hid hC6; have Hc6 := Lib.hid hc6; clear hC6 hc6 hB6) | (go_at_call 36; (with_reducible refine (HR.out w6 HB6.out).mono ?_); rintro e w7 ⟨rfl, hB7⟩; have HB7 := Lib.hid (HB6.out.trans (lower_w hB7 HB6.out.size)); have HB67 := Lib.hid hB7; clear hB7) | (go_at_call 54; (with_reducible refine (HJ.out w7 A6 c6 HB7.out (Kd.C_below HC6.out HB67.out) Hc6.out).mono ?_); rintro e w8 ⟨A8, c8, rfl, hc8, hC8, hB8⟩; have HB8 := Lib.hid (HB7.out.trans (lower_w hB8 HB7.out.size)); have HC8 := Lib.hid hC8; have Hc8 := Lib.hid hc8; have HB78 := Lib.hid hB8; clear hC8 hc8 hB8) | (go_at_call 51; (with_reducible refine (HT3.out w8 A8 c8 HB8.out HC8.out Hc8.out).mono ?_); rintro e w9 ⟨A9, c9, rfl, hc9, hC9, hB9⟩; have HB9 := Lib.hid (HB8.out.trans (lower_w hB9 HB8.out.size)); have HC9 := Lib.hid hC9; have Hc9 := Lib.hid hc9; have HB89 := Lib.hid hB9; clear hC9 hc9 hB9) | (go_at_call 30; (with_reducible refine (HS.out w9 A9 c9 HB9.out HC9.out Hc9.out).mono ?_); rintro e w10 ⟨rfl, hB10⟩; have HB10 := Lib.hid (HB9.out.trans (lower_w hB10 HB9.out.size)); have HB910 := Lib.hid hB10; clear hB10))
            go_ret
            exact ⟨by first | rfl | (simp; done), HB10.out⟩
          · have hd1 : decide (z < 0) = false := decide_eq_false hz
            by_cases hz2 : (M : Int) ≤ z
            · have hd2 : decide ((M : Int) ≤ z) = true := decide_eq_true hz2
              clear hz hz2
              go_enter Tryd.func14, Tryd.ntmps14
              go_wp2_with (first | (go_at_call 15; (with_reducible refine (live_w w (HT.out w (Below.refl _ w))).mono ?_); rintro e w1 ⟨rfl, hB1⟩; have HB1 := Lib.hid ((Below.refl w.heap.size w).trans (lower_w hB1 (Below.refl w.heap.size w).size)); clear hB1) | (go_at_call 24; (with_reducible refine (few_w w1 A ca l (Kd.C_below HA.out HB1.out) HAC.out).mono ?_); rintro e w2 ⟨rfl, hB2⟩; have HB2 := Lib.hid (HB1.out.trans (lower_w hB2 HB1.out.size)); clear hB2) | (go_at_call 51; (with_reducible refine (HTK1.out w2 HB2.out).mono ?_); rintro e w3 ⟨A3, c3, rfl, hc3, hC3, hB3⟩; have HB3 := Lib.hid (HB2.out.trans (lower_w hB3 HB2.out.size)); have HC3 := Lib.hid hC3; have Hc3 := Lib.hid hc3; clear hC3 hc3 hB3) | (go_at_call 49; (with_reducible refine (HP2.out w3 HB3.out).mono ?_); rintro e w6 ⟨A6, c6, rfl, hc6, hC6, hB6⟩; have HB6 := Lib.hid (HB3.out.trans (lower_w hB6 HB3.out.size)); have HC6 := Lib.hid hC6; have Hc6 := Lib.hid hc6; clear hC6 hc6 hB6) | (go_at_call 36; (with_reducible refine (HR.out w6 HB6.out).mono ?_); rintro e w7 ⟨rfl, hB7⟩; have HB7 := Lib.hid (HB6.out.trans (lower_w hB7 HB6.out.size)); have HB67 := Lib.hid hB7; clear hB7) | (go_at_call 54; (with_reducible refine (HJ.out w7 A6 c6 HB7.out (Kd.C_below HC6.out HB67.out) Hc6.out).mono ?_); rintro e w8 ⟨A8, c8, rfl, hc8, hC8, hB8⟩; have HB8 := Lib.hid (HB7.out.trans (lower_w hB8 HB7.out.size)); have HC8 := Lib.hid hC8; have Hc8 := Lib.hid hc8; have HB78 := Lib.hid hB8; clear hC8 hc8 hB8) | (go_at_call 51; (with_reducible refine (HT3.out w8 A8 c8 HB8.out HC8.out Hc8.out).mono ?_); rintro e w9 ⟨A9, c9, rfl, hc9, hC9, hB9⟩; have HB9 := Lib.hid (HB8.out.trans (lower_w hB9 HB8.out.size)); have HC9 := Lib.hid hC9; have Hc9 := Lib.hid hc9; have HB89 := Lib.hid hB9; clear hC9 hc9 hB9) | (go_at_call 30; (with_reducible refine (HS.out w9 A9 c9 HB9.out HC9.out Hc9.out).mono ?_); rintro e w10 ⟨rfl, hB10⟩; have HB10 := Lib.hid (HB9.out.trans (lower_w hB10 HB9.out.size)); have HB910 := Lib.hid hB10; clear hB10))
              go_ret
              exact ⟨by first | rfl | (simp; done), HB10.out⟩
            · have hd2 : decide ((M : Int) ≤ z) = false := decide_eq_false hz2
              obtain ⟨zn, hzn, hzm⟩ : ∃ zn : Nat, z = (zn : Int) ∧ zn < M := ⟨z.toNat, by omega, by omega⟩
              have hcz : ∀ (A' : Option Addr) (c' : Nat), M ≤ c' → ∀ W : World, (Instr.slice 53 (.slice A' M c') none (some (.int .i64 z)) none).run Tryd.prog W = .ok (.slice A' zn c') W := fun A' c' h W => by rw [hzn]; exact cut_w A' M c' zn (by omega) h W
              have HCZ := Lib.hid hcz
              have HT4 := HM zn hzm
              clear hz hz2 hzn hzm hcz
              go_enter Tryd.func14, Tryd.ntmps14
              go_wp2_with (first | (go_at_call 15; (with_reducible refine (live_w w (HT.out w (Below.refl _ w))).mono ?_); rintro e w1 ⟨rfl, hB1⟩; have HB1 := Lib.hid ((Below.refl w.heap.size w).trans (lower_w hB1 (Below.refl w.heap.size w).size)); clear hB1) | (go_at_call 24; (with_reducible refine (few_w w1 A ca l (Kd.C_below HA.out HB1.out) HAC.out).mono ?_); rintro e w2 ⟨rfl, hB2⟩; have HB2 := Lib.hid (HB1.out.trans (lower_w hB2 HB1.out.size)); clear hB2) | (go_at_call 51; (with_reducible refine (HTK1.out w2 HB2.out).mono ?_); rintro e w3 ⟨A3, c3, rfl, hc3, hC3, hB3⟩; have HB3 := Lib.hid (HB2.out.trans (lower_w hB3 HB2.out.size)); have HC3 := Lib.hid hC3; have Hc3 := Lib.hid hc3; clear hC3 hc3 hB3) | (go_at_call 49; (with_reducible refine (HP2.out w3 HB3.out).mono ?_); rintro e w6 ⟨A6, c6, rfl, hc6, hC6, hB6⟩; have HB6 := Lib.hid (HB3.out.trans (lower_w hB6 HB3.out.size)); have HC6 := Lib.hid hC6; have Hc6 := Lib.hid hc6; have hcz6 := HCZ.out A6 c6 hc6; clear hC6 hc6 hB6) | (go_at_call 36; (with_reducible refine (HR.out w6 HB6.out).mono ?_); rintro e w7 ⟨rfl, hB7⟩; have HB7 := Lib.hid (HB6.out.trans (lower_w hB7 HB6.out.size)); have HB67 := Lib.hid hB7; clear hB7) | (go_at_call 54; (with_reducible refine (HJ.out w7 A6 c6 HB7.out (Kd.C_below HC6.out HB67.out) Hc6.out).mono ?_); rintro e w8 ⟨A8, c8, rfl, hc8, hC8, hB8⟩; have HB8 := Lib.hid (HB7.out.trans (lower_w hB8 HB7.out.size)); have HC8 := Lib.hid hC8; have Hc8 := Lib.hid hc8; have HB78 := Lib.hid hB8; clear hC8 hc8 hB8) | (go_at_call 51; (with_reducible refine (HT3.out w8 A8 c8 HB8.out HC8.out Hc8.out).mono ?_); rintro e w9 ⟨A9, c9, rfl, hc9, hC9, hB9⟩; have HB9 := Lib.hid (HB8.out.trans (lower_w hB9 HB8.out.size)); have HC9 := Lib.hid hC9; have Hc9 := Lib.hid hc9; have HB89 := Lib.hid hB9; clear hC9 hc9 hB9) | (go_at_call 30; (with_reducible refine (HS.out w9 A9 c9 HB9.out HC9.out Hc9.out).mono ?_); rintro e w10 ⟨rfl, hB10⟩; have HB10 := Lib.hid (HB9.out.trans (lower_w hB10 HB9.out.size)); have HB910 := Lib.hid hB10; clear hB10) | (go_at_call 51; (with_reducible refine (HT4.out w10 A6 c6 HB10.out (Kd.C_below (Kd.C_below (Kd.C_below (Kd.C_below HC6.out HB67.out) HB78.out) HB89.out) HB910.out) Hc6.out).mono ?_); rintro e w11 ⟨A11, c11, rfl, hc11, hC11, hB11⟩; have HB11 := Lib.hid (HB10.out.trans (lower_w hB11 HB10.out.size)); have HC11 := Lib.hid hC11; have Hc11 := Lib.hid hc11; clear hC11 hc11 hB11))
              go_ret
              exact ⟨by first | rfl | (simp; done), HB11.out⟩
        · have HP2 := HP2e hr
          have hr1 : (r != 0) = true := bne_iff_ne.mpr hr
          clear HP2e HP2o HT3 HJ HS HM hr
          go_enter Tryd.func14, Tryd.ntmps14
          go_wp2_with (first | (go_at_call 15; (with_reducible refine (live_w w (HT.out w (Below.refl _ w))).mono ?_); rintro e w1 ⟨rfl, hB1⟩; have HB1 := Lib.hid ((Below.refl w.heap.size w).trans (lower_w hB1 (Below.refl w.heap.size w).size)); clear hB1) | (go_at_call 24; (with_reducible refine (few_w w1 A ca l (Kd.C_below HA.out HB1.out) HAC.out).mono ?_); rintro e w2 ⟨rfl, hB2⟩; have HB2 := Lib.hid (HB1.out.trans (lower_w hB2 HB1.out.size)); clear hB2) | (go_at_call 51; (with_reducible refine (HTK1.out w2 HB2.out).mono ?_); rintro e w3 ⟨A3, c3, rfl, hc3, hC3, hB3⟩; have HB3 := Lib.hid (HB2.out.trans (lower_w hB3 HB2.out.size)); have HC3 := Lib.hid hC3; have Hc3 := Lib.hid hc3; clear hC3 hc3 hB3) | (go_at_call 49; (with_reducible refine (HP2.out w3 HB3.out).mono ?_); rintro e w6 ⟨A6, c6, rfl, hc6, hC6, hB6⟩; have HB6 := Lib.hid (HB3.out.trans (lower_w hB6 HB3.out.size)); have HC6 := Lib.hid hC6; have Hc6 := Lib.hid hc6; clear hC6 hc6 hB6) | (go_at_call 36; (with_reducible refine (HR.out w6 HB6.out).mono ?_); rintro e w7 ⟨rfl, hB7⟩; have HB7 := Lib.hid (HB6.out.trans (lower_w hB7 HB6.out.size)); have HB67 := Lib.hid hB7; clear hB7) | (go_at_call 36; (with_reducible refine (HR.out w7 HB7.out).mono ?_); rintro e w8 ⟨rfl, hB8⟩; have HB8 := Lib.hid (HB7.out.trans (lower_w hB8 HB7.out.size)); clear hB8))
          go_ret
          exact ⟨by first | rfl | (simp; done), HB8.out⟩
    · have h6 : decide (6000 < (b.length : Int)) = true := decide_eq_true (by omega)
      have hf1 := HF.out
      go_enter Tryd.func14, Tryd.ntmps14
      go_wp2_with (first | (go_at_call 15; (with_reducible refine (live_w w (HT.out w (Below.refl _ w))).mono ?_); rintro e w1 ⟨rfl, hB1⟩; have HB1 := Lib.hid ((Below.refl w.heap.size w).trans (lower_w hB1 (Below.refl w.heap.size w).size)); clear hB1) | (go_at_call 24; (with_reducible refine (few_w w1 A ca l (Kd.C_below HA.out HB1.out) HAC.out).mono ?_); rintro e w2 ⟨rfl, hB2⟩; have HB2 := Lib.hid (HB1.out.trans (lower_w hB2 HB1.out.size)); clear hB2) | (go_at_call 15; (with_reducible refine (live_w w2 (HT.out w2 HB2.out)).mono ?_); rintro e w3 ⟨rfl, hB3⟩; have HB3 := Lib.hid (HB2.out.trans (lower_w hB3 HB2.out.size)); clear hB3))
      go_ret
      exact ⟨by first | rfl | (simp; done), HB3.out⟩
  · have hf1 : Pu.fewB l = false := by simpa using hf
    clear hf
    go_enter Tryd.func14, Tryd.ntmps14
    go_wp2_with (first | (go_at_call 15; (with_reducible refine (live_w w (HT.out w (Below.refl _ w))).mono ?_); rintro e w1 ⟨rfl, hB1⟩; have HB1 := Lib.hid ((Below.refl w.heap.size w).trans (lower_w hB1 (Below.refl w.heap.size w).size)); clear hB1) | (go_at_call 24; (with_reducible refine (few_w w1 A ca l (Kd.C_below HA.out HB1.out) HAC.out).mono ?_); rintro e w2 ⟨rfl, hB2⟩; have HB2 := Lib.hid (HB1.out.trans (lower_w hB2 HB1.out.size)); clear hB2) | (go_at_call 15; (with_reducible refine (live_w w2 (HT.out w2 HB2.out)).mono ?_); rintro e w3 ⟨rfl, hB3⟩; have HB3 := Lib.hid (HB2.out.trans (lower_w hB3 HB2.out.size)); clear hB3))
    go_ret
    exact ⟨by first | rfl | (simp; done), HB3.out⟩
end Go.Proofs.YtdhmabofncbohaaDoor
