/- The document's High, May, Put and Bytes. -/
import Derived.Test.YtemkfkaggdpcjaaB12
import Derived.Test.YtemkfkaggdpcjaaQ4
namespace Go.Proofs.Ytemkfkaggdpcjaa
open Go.RowKit Go.Proofs.YtemkfkaggdpcjaaW.PrintWords Go.Proofs.YtemkfkaggdpcjaaW.PrintMore Go.Proofs.YtemkfkaggdpcjaaW.PrintLast Bq
set_option linter.unusedVariables false
set_option linter.unusedSimpArgs false
attribute [local go_sem ↓] Go.wp_at_zero Go.wp_at_succ

theorem ne_zero_pos (x : Nat) : ((x : Int) != 0) = decide (0 < x) := by
  by_cases h : x = 0
  · subst h; rfl
  · rw [decide_eq_true (by omega)]
    simp
    omega
theorem high_calls (w : World) (n : Nat) (width : Int) (h0 : 0 ≤ width) (h1 : width ≤ 64) :
    Calls Try.prog 39 #[.int .u64 n, .int .i64 width] w fun e w' => e = .returned (.bool (decide (width < 64) && decide (0 < n / 2 ^ width.toNat))) ∧ w = w' := by
  by_cases h : width < 64
  · obtain ⟨x, hx⟩ : ∃ x : Nat, x = n / 2 ^ width.toNat := ⟨_, rfl⟩
    have e1 : (n : Int) / 2 ^ width.toNat = (x : Int) := by rw [hx]; simp
    have HX := Lib.hid e1
    have HX2 := Lib.hid hx
    clear e1 hx
    go_enter Try.func39, Try.ntmps39
    go_wp2
    go_ret
    refine ⟨?_, rfl⟩
    rw [← HX2.out, decide_eq_true h, Bool.true_and, ← ne_zero_pos, ← HX.out]
    rfl
  · have H := Lib.hid h
    go_enter Try.func39, Try.ntmps39
    go_wp2
    go_ret
    exact ⟨by rw [decide_eq_false (show ¬ width < 64 by omega), Bool.false_and]; rfl, rfl⟩

set_option maxHeartbeats 1000000 in
theorem may_calls (w : World) (N n : Nat) (width : Int) (hN : N ≤ 8388608) (hw1 : -9223372036854775808 ≤ width) (hw2 : width ≤ 9223372036854775807) :
    Calls Try.prog 14 #[.int .i64 N, .int .u64 n, .int .i64 width] w fun e w' => e = .returned (.int .i64 (putE N width n)) ∧ w = w' := by
  by_cases h1 : width < 0
  · have hE : putE N width n = 1 := by unfold putE badW; rw [decide_eq_true h1]; rfl
    have HE := Lib.hid hE
    clear hE
    go_enter Try.func14, Try.ntmps14
    go_wp2
    go_ret
    exact ⟨by rw [HE.out]; rfl, rfl⟩
  · by_cases h2 : 64 < width
    · have hE : putE N width n = 1 := by unfold putE badW; rw [decide_eq_true h2, Bool.or_true]; rfl
      have HE := Lib.hid hE
      clear hE
      go_enter Try.func14, Try.ntmps14
      go_wp2
      go_ret
      exact ⟨by rw [HE.out]; rfl, rfl⟩
    · obtain ⟨b, hb⟩ : ∃ b, b = (decide (width < 64) && decide (0 < n / 2 ^ width.toNat)) := ⟨_, rfl⟩
      have hbad : badW width n = b := by unfold badW; rw [decide_eq_false h1, decide_eq_false h2, hb]; rfl
      have HB := Lib.hid hb
      have HBAD := Lib.hid hbad
      clear hb hbad
      have h1' : 0 ≤ width := by omega
      have h2' : width ≤ 64 := by omega
      cases b with
      | true =>
        have hE : putE N width n = 1 := by unfold putE; rw [HBAD.out]; rfl
        have HE := Lib.hid hE
        clear hE
        go_enter Try.func14, Try.ntmps14
        go_wp2_with (go_at_call 39; refine (high_calls _ n width h1' h2').mono ?_; rintro e w' ⟨rfl, rfl⟩; rw [← HB.out])
        go_ret
        exact ⟨by rw [HE.out]; rfl, rfl⟩
      | false =>
        by_cases h3 : 8388608 - (N : Int) < width
        · have hE : putE N width n = 5 := by unfold putE; rw [HBAD.out, if_pos h3]; rfl
          have HE := Lib.hid hE
          clear hE
          go_enter Try.func14, Try.ntmps14
          go_wp2_with (go_at_call 39; refine (high_calls _ n width h1' h2').mono ?_; rintro e w' ⟨rfl, rfl⟩; rw [← HB.out])
          go_ret
          exact ⟨by rw [HE.out]; rfl, rfl⟩
        · have hE : putE N width n = 0 := by unfold putE; rw [HBAD.out, if_neg h3]; rfl
          have HE := Lib.hid hE
          clear hE
          go_enter Try.func14, Try.ntmps14
          go_wp2_with (go_at_call 39; refine (high_calls _ n width h1' h2').mono ?_; rintro e w' ⟨rfl, rfl⟩; rw [← HB.out])
          go_ret
          exact ⟨by rw [HE.out]; rfl, rfl⟩

theorem info_bool : (Try.prog.info? 4).map (fun i => (i.zero, i.size, i.bytes)) = some (some (.bool false), 1, 1) := by kernel_rfl

theorem bit_eq (n i : Nat) : (((n : Int) / 2 ^ i) % 2 == 1) = n.testBit i := by
  rw [Nat.testBit_eq_decide_div_mod_eq]
  have e : ((n : Int) / 2 ^ i) % 2 = ((n / 2 ^ i % 2 : Nat) : Int) := by simp
  rw [e]
  by_cases h : n / 2 ^ i % 2 = 1
  · rw [h]; rfl
  · have : n / 2 ^ i % 2 = 0 := by omega
    rw [this]; rfl
theorem take_nb_next (n w j : Nat) (h : j < w) : (nb n w).take (j + 1) = (nb n w).take j ++ [n.testBit (w - 1 - j)] := by
  have hl : j < (nb n w).length := by rw [nb_length]; exact h
  rw [List.take_succ_eq_append_getElem hl]
  have h2 := nb_get n w j h
  rw [List.getElem?_eq_getElem hl] at h2
  injection h2 with h2
  rw [h2]

set_option maxHeartbeats 2000000 in
theorem rput_calls (w : World) (base : Nat) (ok : Nat → Prop) (v : Value) (bs : List Bool) (n width : Nat) (hR : Kd.bool.R 4 w base ok v bs) (hbase : base ≤ w.heap.size) (hw : width ≤ 64) (hn : n < 18446744073709551616) (hl : bs.length ≤ 100000000) :
    Calls Try.prog 15 #[v, .int .u64 n, .int .i64 width] w fun e w' => ∃ v', e = .returned v' ∧ Kd.bool.R 4 w' base (fun k => ok k ∨ w.heap.size ≤ k) v' (bs ++ nb n width) ∧ Mod ok w w' := by
  have HR := Lib.hid hR
  clear hR
  go_enter Try.func15, Try.ntmps15
  go_wp2
  go_loopg [0, 7] width (fun kq s0 s7 wr => ∃ (j : Nat) (ts : List Bool), j + kq = width ∧ s7 = .int .i64 ((kq : Int) - 1) ∧ ts.length ≤ 100000000 + j ∧ Hid (ts = bs ++ (nb n width).take j) ∧ Hid (Kd.bool.R 4 wr base (fun k => ok k ∨ w.heap.size ≤ k) s0 ts) ∧ Hid (Mod ok w wr))
  case atStart => exact ⟨0, bs, by omega, rfl, by omega, by rw [List.take_zero, List.append_nil]; rfl, Kd.R_mono HR.out (fun _ h => .inl h), Mod.refl _ _⟩
  case round =>
    obtain ⟨j, ts, hj, rfl, hts, hT, hRr, hM⟩ := hrel
    obtain ⟨A, c, hs0⟩ := Kd.R_slice hRr.out
    subst hs0
    have hsz := hM.out.size
    by_cases hlt : 0 < gk
    · have e1 : (0 : Int) ≤ (gk : Int) - 1 := by omega
      have e2 : ((gk : Int) - 1).toNat = width - 1 - j := by omega
      have e4 : bits .and .u64 ((n : Int) / 2 ^ (width - 1 - j)) 1 = (n : Int) / 2 ^ (width - 1 - j) % 2 := by
        have h : (n : Int) / 2 ^ (width - 1 - j) = ((n / 2 ^ (width - 1 - j) : Nat) : Int) := by simp
        rw [h]
        have h2 := Nat.div_le_self n (2 ^ (width - 1 - j))
        generalize n / 2 ^ (width - 1 - j) = y at h2 ⊢
        exact and_one _ (by omega) (by omega)
      obtain ⟨b, hb⟩ : ∃ b, b = n.testBit (width - 1 - j) := ⟨_, rfl⟩
      have e5 : ((n : Int) / 2 ^ (width - 1 - j) % 2 == 1) = b := by rw [hb, bit_eq]
      have HBB := Lib.hid hb
      clear hb
      go_wp2_with (at_builtin; refine Kd.R_append Kd.bool (w0 := wr) (W := wr) base rfl (.tmp 14) (.tmp 21) 23 4 (.bool false) 1 rfl Try.underlying23 info_bool rfl (by decide) (by decide) _ ts b [.bool b] (fun k => ok k ∨ w.heap.size ≤ k) (fun _ => False) rfl rfl rfl (fun _ h => h.elim) (fun k hk => .inr (Nat.le_trans hsz hk)) hRr.out (Below.refl _ _) (Nat.le_trans hbase hsz) (by omega) ?_; intro v1 w2 hR2 _ hg2 _; have HR2 := Lib.hid hR2; have HG2 := Lib.hid hg2; clear hR2 hg2)
      go_roundg (gk - 1)
      case measure => omega
      case rel =>
        refine ⟨j + 1, ts ++ [b], by omega, by go_num, by rw [List.length_append]; simp; omega, ?_, HR2.out, hM.out.grown HG2.out (fun k hk => hRr.out.1 k hk)⟩
        show ts ++ [b] = _
        rw [hT.out, HBB.out, take_nb_next n width j (by omega), List.append_assoc]
    · have hg0 : gk = 0 := by omega
      subst hg0
      go_wp2_with fail
      go_ret
      refine ⟨_, rfl, ?_, hM.out⟩
      have hX : bs ++ nb n width = ts := by rw [hT.out, List.take_of_length_le (by rw [nb_length]; omega)]
      rw [hX]
      exact hRr.out
end Go.Proofs.Ytemkfkaggdpcjaa
