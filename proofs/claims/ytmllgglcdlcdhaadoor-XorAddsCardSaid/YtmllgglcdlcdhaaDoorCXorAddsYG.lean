import Derived.Test.YtmllgglcdlcdhaaDoorCXorAddsYA
import Derived.Test.YtmllgglcdlcdhaaDoorCXorAddsHC
namespace Go.Proofs.YtmllgglcdlcdhaaDoor.Bq
end Go.Proofs.YtmllgglcdlcdhaaDoor.Bq
namespace Go.Proofs.YtmllgglcdlcdhaaDoor
open Go Go.RowKit Go.Proofs.YtmllgglcdlcdhaaDoorW.PrintWords Go.Proofs.YtmllgglcdlcdhaaDoorW.PrintMore Go.Proofs.YtmllgglcdlcdhaaDoorW.PrintLast Bq Xs
set_option linter.unusedVariables false
set_option maxRecDepth 100000
set_option linter.unusedSimpArgs false
attribute [local go_sem ↓] Go.wp_at_zero Go.wp_at_succ
structure RB (w0 w : World) (base : Nat) (ok : Nat → Prop) (v : Value) (bs : List Bool) : Prop where
  R : Kd.bool.R 4 w base (fun k => ok k ∨ w0.heap.size ≤ k) v bs
  M : Mod ok w0 w
  b : base ≤ w0.heap.size
section
variable {w0 w w1 : World} {base : Nat} {ok ok1 : Nat → Prop} {v : Value} {bs : List Bool}
theorem RB.start (h : Kd.bool.R 4 w base ok v bs) (hb : base ≤ w.heap.size) : RB w w base ok v bs := ⟨Kd.R_mono h (fun _ h => .inl h), Mod.refl _ _, hb⟩
theorem RB.putI (h : RB w0 w base ok v bs) (N V : Int) (n width : Nat) (eN : N = (n : Nat)) (eV : V = (width : Nat)) (hw : width ≤ 64) (hn : n < 18446744073709551616) (hl : bs.length ≤ 100000000) :
    Calls Tryd.prog 48 #[v, .int .u64 N, .int .i64 V] w fun e w' => ∃ v', e = .returned v' ∧ RB w0 w' base ok v' (bs ++ nb n width) ∧ Mod (fun k => ok k ∨ w0.heap.size ≤ k) w w' := by
  subst eN eV
  refine (rput_calls w base _ v bs n width h.R (Nat.le_trans h.b h.M.size) hw hn hl).mono ?_
  rintro e w' ⟨v', rfl, hR, hM⟩
  exact ⟨v', rfl, ⟨Kd.R_mono hR (fun k hk => hk.elim id (fun h2 => .inr (Nat.le_trans h.M.size h2))), h.M.trans hM (fun k hk h2 => h2.elim id (fun h3 => absurd h3 (Nat.not_le.2 hk))), h.b⟩, hM⟩
theorem RB.from_ (h : RB w1 w base ok1 v bs) (hB : Below w0.heap.size w0 w1) (hk : ∀ k, ok1 k → ok k) (hb : base ≤ w0.heap.size) : RB w0 w base ok v bs :=
  ⟨Kd.R_mono h.R (fun k hk2 => hk2.elim (fun h2 => .inl (hk k h2)) (fun h2 => .inr (Nat.le_trans hB.size h2))), (Mod.of_below hB ok).trans (h.M.weaken (S' := ok) (fun k _ h2 => hk k h2)) (fun _ _ h2 => h2), hb⟩
theorem RB.drewN (h : RB w0 w base ok v bs) (n : Nat) : RB w0 (w.drewN n) base ok v bs := ⟨Kd.R_drewN h.R n, h.M.drewN n, h.b⟩
end
theorem bytesB_take2 (xs : List Int) (i : Nat) (h : i < xs.length) : bytesB (xs.take (i + 1)) = bytesB (xs.take i) ++ nb (xs.getD i 0).toNat 8 := by
  rw [List.take_succ_eq_append_getElem h, List.getD_eq_getElem?_getD, List.getElem?_eq_getElem h]
  unfold bytesB
  rw [List.flatMap_append]
  simp
set_option maxHeartbeats 2000000 in
theorem bytes08 (w : World) (base base2 : Nat) (ok okr : Nat → Prop) (v u : Value) (bs : List Bool) (xs : List Int) (hR : Kd.bool.R 4 w base ok v bs) (hb : base ≤ w.heap.size) (hX : (Kd.int .u8).R 5 w base2 okr u xs) (hd : ∀ k, okr k → ¬ ok k) (hy : Byts xs) (hl : bs.length + 8 * xs.length ≤ 90000000) :
    Calls Tryd.prog 49 #[v, u] w fun e w' => ∃ v', e = .returned v' ∧ RB w w' base ok v' (bs ++ bytesB xs) := by
  obtain ⟨A, c, hv⟩ := Kd.R_slice hX
  subst hv
  have HX := Lib.hid (Kd.R_bound hX)
  have HD := Lib.hid hd
  have HY := Lib.hid hy
  have H0 := Lib.hid (RB.start hR hb)
  have hxl : xs.length ≤ 100000000 := by omega
  obtain ⟨Ab, cb, hvb⟩ := Kd.R_slice hR
  clear hR hX hd hy hb
  subst hvb
  go_enter Tryd.func49, Tryd.ntmps49
  go_wp2
  go_loopg [9, 0] xs.length (fun kq s9 s0 wr => ∃ i : Nat, i + kq = xs.length ∧ s9 = .int .i64 i ∧ Hid (RB w wr base ok s0 (bs ++ bytesB (xs.take i))))
  case atStart => exact ⟨0, by omega, rfl, by rw [List.take_zero]; show RB _ _ _ _ _ (bs ++ []); rw [List.append_nil]; exact H0.out⟩
  case round =>
    obtain ⟨i, hi, rfl, HB⟩ := hrel
    obtain ⟨A0, c0, hs0⟩ := Kd.R_slice HB.out.R
    obtain ⟨m0, hm0⟩ : ∃ m0, m0 = (bs ++ bytesB (xs.take i)).length := ⟨_, rfl⟩
    rw [← hm0] at hs0
    subst hs0
    by_cases hlt : i < xs.length
    · have hCr := (Kd.R_reads' (Kd.R_step HX.out (fun k ho hk => HB.out.M.block k hk (HD.out k ho.1)))).2.2
      obtain ⟨ad, hA, hx⟩ := C_at_int hCr i hlt
      subst hA
      obtain ⟨x, hxe⟩ : ∃ x, x = xs.getD i 0 := ⟨_, rfl⟩
      rw [← hxe] at hx
      have hxb := HY.out.get i hlt
      rw [← hxe] at hxb
      obtain ⟨n, hn⟩ := Int.eq_ofNat_of_zero_le hxb.1
      subst hn
      have hn : n < 256 := by omega
      have HN : Hid (bytesB (xs.take (i + 1)) = bytesB (xs.take i) ++ nb n 8) := Lib.hid (by rw [bytesB_take2 xs i hlt, ← hxe, Int.toNat_natCast])
      have hlen : m0 ≤ 100000000 := by rw [hm0, List.length_append, bytesB_length, List.length_take]; omega
      have hn64 : IntKind.u64.wrap (n : Int) = (n : Int) := by rw [IntKind.wrap_u64]; omega
      have HP := Lib.hid (HB.out.putI n 8 n 8 rfl rfl (by decide) (by omega) (by rw [← hm0]; exact hlen))
      clear hCr hxe hxb hm0 hlen
      go_wp2_with (go_at_call 48; go_loud (refine HP.out.mono ?_); rintro e w2 ⟨v2, rfl, h2, _⟩; have H2 := Lib.hid h2; clear h2)
      go_roundg (gk - 1)
      case measure => omega
      case rel => exact ⟨i + 1, by omega, by go_num, by rw [HN.out, ← List.append_assoc]; exact H2.out⟩
    · clear hm0
      go_wp2
      go_ret
      have h2 := HB.out
      rw [List.take_of_length_le (by omega)] at h2
      exact ⟨_, rfl, h2⟩
set_option maxHeartbeats 4000000 in
theorem change08 (w : World) (base : Nat) (ok : Nat → Prop) (v : Value) (bs : List Bool) (d : Int) (hd : -9223372036854775808 ≤ d ∧ d ≤ 9223372036854775807) (hR : Kd.bool.R 4 w base ok v bs) (hb : base ≤ w.heap.size) (hl : bs.length ≤ 90000000) :
    Calls Tryd.prog 50 #[v, .int .i64 d] w fun e w' => ∃ v', e = .returned v' ∧ RB w w' base ok v' (bs ++ changeB d) := by
  have H := Lib.hid (RB.start hR hb)
  obtain ⟨Ab, cb, hvb⟩ := Kd.R_slice hR
  obtain ⟨m0, hm0⟩ : ∃ m0, m0 = bs.length := ⟨_, rfl⟩
  rw [← hm0] at hvb
  clear hR hb
  subst hvb
  have hml : m0 ≤ 90000000 := by omega
  obtain ⟨u, hu⟩ : ∃ u : Nat, u = u64 d := ⟨_, rfl⟩
  have hu2 : u < 18446744073709551616 := by rw [hu]; exact u64_lt d
  have hw : IntKind.u64.wrap d = (u : Int) := by rw [hu]; exact wrapu d
  by_cases h0 : d = 0
  · have HE : Hid (changeB d = nb 0 1) := by unfold Hid changeB; rw [if_pos h0]
    subst h0
    clear hw hu hm0
    go_enter Tryd.func50, Tryd.ntmps50
    go_wp2_with (go_at_call 48; go_loud (refine (H.out.putI 0 1 0 1 rfl rfl (by decide) (by decide) (by omega)).mono ?_); rintro e w1 ⟨v1, rfl, h1, _⟩; have H1 := Lib.hid h1; clear h1)
    go_ret
    exact ⟨_, rfl, by rw [HE.out]; exact H1.out⟩
  · have hb0 : (d == 0) = false := beq_false_of_ne h0
    have hdd : changeB d = nb u 0 ++ changeB d := rfl
    clear hdd
    by_cases h1 : -8191 ≤ d ∧ d ≤ 8192
    · have HE : Hid (changeB d = nb 2 2 ++ nb u 14) := by unfold Hid changeB; rw [if_neg h0, if_pos h1, ← hu]
      obtain ⟨h1a, h1b⟩ := h1
      clear hu hm0
      go_enter Tryd.func50, Tryd.ntmps50
      go_wp2_with fail
      go_loud (refine (H.out.putI 2 2 2 2 rfl rfl (by decide) (by decide) (by omega)).mono ?_)
      rintro e w1 ⟨v1, rfl, h1, _⟩
      obtain ⟨b1, hb1⟩ : ∃ b1, b1 = bs ++ nb 2 2 := ⟨_, rfl⟩
      rw [← hb1] at h1
      obtain ⟨A1, c1, hv1⟩ := Kd.R_slice h1.R
      obtain ⟨m1, hm1⟩ : ∃ m1, m1 = b1.length := ⟨_, rfl⟩
      rw [← hm1] at hv1
      subst hv1
      have hbl : b1.length ≤ 100000000 := by rw [hb1, List.length_append, nb_length]; omega
      have HBL := Lib.hid hbl
      have HB1 := Lib.hid hb1
      have H1 := Lib.hid h1
      clear h1 hb1 hm1 hbl
      go_wp2_with fail
      go_loud (refine (H1.out.putI u 14 u 14 rfl rfl (by decide) hu2 HBL.out).mono ?_)
      rintro e w2 ⟨v2, rfl, h2, _⟩
      have H2 := Lib.hid h2
      clear h2
      go_wp2_with fail
      go_ret
      refine ⟨_, rfl, ?_⟩
      rw [HE.out, ← List.append_assoc, ← HB1.out]
      exact H2.out
    · have n0 := h1
      clear h1
      have t0 : (d ≥ -8191 ∧ ¬ d ≤ 8192) ∨ ¬ d ≥ -8191 := by omega
      by_cases h1 : -65535 ≤ d ∧ d ≤ 65536
      · have HE : Hid (changeB d = nb 6 3 ++ nb u 17) := by unfold Hid changeB; rw [if_neg h0, if_neg n0, if_pos h1, ← hu]
        obtain ⟨h1a, h1b⟩ := h1
        clear hu hm0
        rcases t0 with ⟨e1, e2⟩ | e1
        · go_enter Tryd.func50, Tryd.ntmps50
          go_wp2_with fail
          go_loud (refine (H.out.putI 6 3 6 3 rfl rfl (by decide) (by decide) (by omega)).mono ?_)
          rintro e w1 ⟨v1, rfl, h1, _⟩
          obtain ⟨b1, hb1⟩ : ∃ b1, b1 = bs ++ nb 6 3 := ⟨_, rfl⟩
          rw [← hb1] at h1
          obtain ⟨A1, c1, hv1⟩ := Kd.R_slice h1.R
          obtain ⟨m1, hm1⟩ : ∃ m1, m1 = b1.length := ⟨_, rfl⟩
          rw [← hm1] at hv1
          subst hv1
          have hbl : b1.length ≤ 100000000 := by rw [hb1, List.length_append, nb_length]; omega
          have HBL := Lib.hid hbl
          have HB1 := Lib.hid hb1
          have H1 := Lib.hid h1
          clear h1 hb1 hm1 hbl
          go_wp2_with fail
          go_loud (refine (H1.out.putI u 17 u 17 rfl rfl (by decide) hu2 HBL.out).mono ?_)
          rintro e w2 ⟨v2, rfl, h2, _⟩
          have H2 := Lib.hid h2
          clear h2
          go_wp2_with fail
          go_ret
          refine ⟨_, rfl, ?_⟩
          rw [HE.out, ← List.append_assoc, ← HB1.out]
          exact H2.out
        · go_enter Tryd.func50, Tryd.ntmps50
          go_wp2_with fail
          go_loud (refine (H.out.putI 6 3 6 3 rfl rfl (by decide) (by decide) (by omega)).mono ?_)
          rintro e w1 ⟨v1, rfl, h1, _⟩
          obtain ⟨b1, hb1⟩ : ∃ b1, b1 = bs ++ nb 6 3 := ⟨_, rfl⟩
          rw [← hb1] at h1
          obtain ⟨A1, c1, hv1⟩ := Kd.R_slice h1.R
          obtain ⟨m1, hm1⟩ : ∃ m1, m1 = b1.length := ⟨_, rfl⟩
          rw [← hm1] at hv1
          subst hv1
          have hbl : b1.length ≤ 100000000 := by rw [hb1, List.length_append, nb_length]; omega
          have HBL := Lib.hid hbl
          have HB1 := Lib.hid hb1
          have H1 := Lib.hid h1
          clear h1 hb1 hm1 hbl
          go_wp2_with fail
          go_loud (refine (H1.out.putI u 17 u 17 rfl rfl (by decide) hu2 HBL.out).mono ?_)
          rintro e w2 ⟨v2, rfl, h2, _⟩
          have H2 := Lib.hid h2
          clear h2
          go_wp2_with fail
          go_ret
          refine ⟨_, rfl, ?_⟩
          rw [HE.out, ← List.append_assoc, ← HB1.out]
          exact H2.out
      · have n1 := h1
        clear h1
        have t1 : (d ≥ -65535 ∧ ¬ d ≤ 65536) ∨ ¬ d ≥ -65535 := by omega
        by_cases h1 : -524287 ≤ d ∧ d ≤ 524288
        · have HE : Hid (changeB d = nb 14 4 ++ nb u 20) := by unfold Hid changeB; rw [if_neg h0, if_neg n0, if_neg n1, if_pos h1, ← hu]
          obtain ⟨h1a, h1b⟩ := h1
          clear hu hm0
          rcases t1 with ⟨e1, e2⟩ | e1
          · have f0a : d ≥ -8191 := by omega
            have f0b : ¬ d ≤ 8192 := by omega
            clear t0
            go_enter Tryd.func50, Tryd.ntmps50
            go_wp2_with fail
            go_loud (refine (H.out.putI 14 4 14 4 rfl rfl (by decide) (by decide) (by omega)).mono ?_)
            rintro e w1 ⟨v1, rfl, h1, _⟩
            obtain ⟨b1, hb1⟩ : ∃ b1, b1 = bs ++ nb 14 4 := ⟨_, rfl⟩
            rw [← hb1] at h1
            obtain ⟨A1, c1, hv1⟩ := Kd.R_slice h1.R
            obtain ⟨m1, hm1⟩ : ∃ m1, m1 = b1.length := ⟨_, rfl⟩
            rw [← hm1] at hv1
            subst hv1
            have hbl : b1.length ≤ 100000000 := by rw [hb1, List.length_append, nb_length]; omega
            have HBL := Lib.hid hbl
            have HB1 := Lib.hid hb1
            have H1 := Lib.hid h1
            clear h1 hb1 hm1 hbl
            go_wp2_with fail
            go_loud (refine (H1.out.putI u 20 u 20 rfl rfl (by decide) hu2 HBL.out).mono ?_)
            rintro e w2 ⟨v2, rfl, h2, _⟩
            have H2 := Lib.hid h2
            clear h2
            go_wp2_with fail
            go_ret
            refine ⟨_, rfl, ?_⟩
            rw [HE.out, ← List.append_assoc, ← HB1.out]
            exact H2.out
          · have f0a : ¬ d ≥ -8191 := by omega
            clear t0
            go_enter Tryd.func50, Tryd.ntmps50
            go_wp2_with fail
            go_loud (refine (H.out.putI 14 4 14 4 rfl rfl (by decide) (by decide) (by omega)).mono ?_)
            rintro e w1 ⟨v1, rfl, h1, _⟩
            obtain ⟨b1, hb1⟩ : ∃ b1, b1 = bs ++ nb 14 4 := ⟨_, rfl⟩
            rw [← hb1] at h1
            obtain ⟨A1, c1, hv1⟩ := Kd.R_slice h1.R
            obtain ⟨m1, hm1⟩ : ∃ m1, m1 = b1.length := ⟨_, rfl⟩
            rw [← hm1] at hv1
            subst hv1
            have hbl : b1.length ≤ 100000000 := by rw [hb1, List.length_append, nb_length]; omega
            have HBL := Lib.hid hbl
            have HB1 := Lib.hid hb1
            have H1 := Lib.hid h1
            clear h1 hb1 hm1 hbl
            go_wp2_with fail
            go_loud (refine (H1.out.putI u 20 u 20 rfl rfl (by decide) hu2 HBL.out).mono ?_)
            rintro e w2 ⟨v2, rfl, h2, _⟩
            have H2 := Lib.hid h2
            clear h2
            go_wp2_with fail
            go_ret
            refine ⟨_, rfl, ?_⟩
            rw [HE.out, ← List.append_assoc, ← HB1.out]
            exact H2.out
        · have n2 := h1
          clear h1
          have t2 : (d ≥ -524287 ∧ ¬ d ≤ 524288) ∨ ¬ d ≥ -524287 := by omega
          have HE : Hid (changeB d = nb 15 4 ++ nb u 64) := by unfold Hid changeB; rw [if_neg h0, if_neg n0, if_neg n1, if_neg n2, ← hu]
          clear hu n0 n1 n2 hm0
          rcases t2 with ⟨e1, e2⟩ | e1
          · have f0a : d ≥ -8191 := by omega
            have f0b : ¬ d ≤ 8192 := by omega
            have f1a : d ≥ -65535 := by omega
            have f1b : ¬ d ≤ 65536 := by omega
            clear t0 t1
            go_enter Tryd.func50, Tryd.ntmps50
            go_wp2_with fail
            go_loud (refine (H.out.putI 15 4 15 4 rfl rfl (by decide) (by decide) (by omega)).mono ?_)
            rintro e w1 ⟨v1, rfl, h1, _⟩
            obtain ⟨b1, hb1⟩ : ∃ b1, b1 = bs ++ nb 15 4 := ⟨_, rfl⟩
            rw [← hb1] at h1
            obtain ⟨A1, c1, hv1⟩ := Kd.R_slice h1.R
            obtain ⟨m1, hm1⟩ : ∃ m1, m1 = b1.length := ⟨_, rfl⟩
            rw [← hm1] at hv1
            subst hv1
            have hbl : b1.length ≤ 100000000 := by rw [hb1, List.length_append, nb_length]; omega
            have HBL := Lib.hid hbl
            have HB1 := Lib.hid hb1
            have H1 := Lib.hid h1
            clear h1 hb1 hm1 hbl
            go_wp2_with fail
            go_loud (refine (H1.out.putI u 64 u 64 rfl rfl (by decide) hu2 HBL.out).mono ?_)
            rintro e w2 ⟨v2, rfl, h2, _⟩
            have H2 := Lib.hid h2
            clear h2
            go_wp2_with fail
            go_ret
            refine ⟨_, rfl, ?_⟩
            rw [HE.out, ← List.append_assoc, ← HB1.out]
            exact H2.out
          · have f0a : ¬ d ≥ -8191 := by omega
            have f1a : ¬ d ≥ -65535 := by omega
            clear t0 t1
            go_enter Tryd.func50, Tryd.ntmps50
            go_wp2_with fail
            go_loud (refine (H.out.putI 15 4 15 4 rfl rfl (by decide) (by decide) (by omega)).mono ?_)
            rintro e w1 ⟨v1, rfl, h1, _⟩
            obtain ⟨b1, hb1⟩ : ∃ b1, b1 = bs ++ nb 15 4 := ⟨_, rfl⟩
            rw [← hb1] at h1
            obtain ⟨A1, c1, hv1⟩ := Kd.R_slice h1.R
            obtain ⟨m1, hm1⟩ : ∃ m1, m1 = b1.length := ⟨_, rfl⟩
            rw [← hm1] at hv1
            subst hv1
            have hbl : b1.length ≤ 100000000 := by rw [hb1, List.length_append, nb_length]; omega
            have HBL := Lib.hid hbl
            have HB1 := Lib.hid hb1
            have H1 := Lib.hid h1
            clear h1 hb1 hm1 hbl
            go_wp2_with fail
            go_loud (refine (H1.out.putI u 64 u 64 rfl rfl (by decide) hu2 HBL.out).mono ?_)
            rintro e w2 ⟨v2, rfl, h2, _⟩
            have H2 := Lib.hid h2
            clear h2
            go_wp2_with fail
            go_ret
            refine ⟨_, rfl, ?_⟩
            rw [HE.out, ← List.append_assoc, ← HB1.out]
            exact H2.out
end Go.Proofs.YtmllgglcdlcdhaaDoor
