import Derived.Test.YtmllgglcdlcdhaaDoorCXorAddsY5
namespace Go.Proofs.YtmllgglcdlcdhaaDoor.Bq
end Go.Proofs.YtmllgglcdlcdhaaDoor.Bq
namespace Go.Proofs.YtmllgglcdlcdhaaDoor
open Go Go.RowKit Go.Proofs.YtmllgglcdlcdhaaDoorW.PrintWords Go.Proofs.YtmllgglcdlcdhaaDoorW.PrintMore Go.Proofs.YtmllgglcdlcdhaaDoorW.PrintLast Bq Xs
set_option linter.unusedVariables false
set_option maxRecDepth 100000
set_option linter.unusedSimpArgs false
attribute [local go_sem ↓] Go.wp_at_zero Go.wp_at_succ
attribute [local go_sem] max2_int min2_int max_two min_two
theorem tab_below {g : Nat} {tab : List Nat} {w w1 : World} (h : TabAt g tab w) (hb : Below w.heap.size w w1) : TabAt g tab w1 := fun j hj => (hb.cell (World.block_lt_of_cell? w _ (h j hj))).trans (h j hj)
set_option maxHeartbeats 4000000 in
theorem turn_calls (w0 w : World) (ok : Nat → Prop) (p g : Nat) (bs : List Bool) (s : St) (x : Nat) (hx : x < 18446744073709551616) (hT : TabAt 0 Lib.deBruijn64tab w0) (hok : okW s.w) (h : Pk w0 w ok p g bs s) (hl : bs.length + 77 ≤ 8388608) :
    Calls Tryd.prog 65 #[.pointer (some ⟨p, 0, none⟩), .int .u64 (x : Nat)] w fun e w' => e = .returned (.tuple #[]) ∧ Pk w0 w' ok p g (bs ++ (turnB x s.w).1) ⟨s.n, s.t, s.v, s.step, (turnB x s.w).2⟩ ∧ Mod (fun k => ok k ∨ k = p) w w' := by
  obtain ⟨sn, st, sv, sstep, ⟨set, lead, trail⟩⟩ := s
  have c0 := h.ptr
  have H := Lib.hid h
  clear h
  by_cases h0 : x = 0
  · have HE : Hid (turnB x ⟨set, lead, trail⟩ = (nb 0 1, ⟨set, lead, trail⟩)) := by unfold Hid turnB; rw [if_pos h0]
    subst h0
    go_enter Tryd.func65, Tryd.ntmps65
    go_wp2_with fail
    refine (H.out.putI 0 1 0 1 rfl rfl (by decide) (by decide) (by decide) (by omega)).mono ?_
    rintro e w1 ⟨rfl, h1, m1⟩
    have H1 := Lib.hid h1
    have M1 := Lib.hid m1
    clear h1 m1
    go_wp2_with fail
    refine bodyPost_ret (results_none rfl _ _ _) rfl ?_
    exact ⟨rfl, by rw [HE.out]; exact H1.out, M1.out.weaken (fun _ _ h => .inl h)⟩
  · have hb0 : ((x : Int) == 0) = false := beq_false_of_ne (by omega)
    obtain ⟨L0, hL0⟩ : ∃ L0 : Nat, L0 = 64 - Lib.bitLen x := ⟨_, rfl⟩
    obtain ⟨L, hL⟩ : ∃ L, L = leadX x := ⟨_, rfl⟩
    obtain ⟨T, hTr⟩ : ∃ T, T = trailX x := ⟨_, rfl⟩
    have hbl := (bitLen_bounds x h0 hx).2.1
    have hLm : L = min L0 31 := by rw [hL, hL0]; exact leadX_is x h0 hx
    have hlc : (64 - (Lib.bitLen (x : Int).toNat : Int)) = (L0 : Int) := by rw [Int.toNat_natCast]; omega
    have htc : Lib.ctz 64 x = T := by rw [hTr]; exact (trailX_is x h0 hx).symm
    have hlt := lead_lt x h0 hx
    have hle := lead_trail x h0 hx
    have hdv : 2 ^ T ∣ x := by rw [hTr]; exact tz_dvd 64 x
    rw [← hL] at hlt hle
    rw [← hTr] at hle
    have hL31 : L ≤ 31 := by omega
    have hmin : (if (31 : Int) < (L0 : Int) then (31 : Int) else (L0 : Int)) = (L : Int) := by split <;> omega
    have HLC := Lib.hid hlc
    have HTC := Lib.hid htc
    have HLT := Lib.hid hlt
    have HDV := Lib.hid hdv
    have HT := Lib.hid hT
    have HL := Lib.hid hL
    have HTR := Lib.hid hTr
    have HOK := Lib.hid hok
    clear hL0 hbl hlc htc hlt hdv hT hLm hL hTr hok
    by_cases hc : set = true ∧ lead ≤ L ∧ trail ≤ T
    · obtain ⟨rfl, hc1, hc2⟩ := hc
      have hww : lead + trail ≤ 63 := HOK.out rfl
      have HE : Hid (turnB x ⟨true, lead, trail⟩ = (nb 1 1 ++ (nb 0 1 ++ nb (x / 2 ^ trail) (64 - lead - trail)), ⟨true, lead, trail⟩)) := by
        unfold Hid turnB
        rw [if_neg h0, if_pos ⟨rfl, by rw [← HL.out]; exact hc1, by rw [← HTR.out]; exact hc2⟩]
      have hsm : x / 2 ^ trail < 2 ^ (64 - lead - trail) := by
        rw [Nat.div_lt_iff_lt_mul (Nat.pos_of_ne_zero (by simp)), ← Nat.pow_add]
        exact Nat.lt_of_lt_of_le HLT.out (Nat.pow_le_pow_right (by decide) (by omega))
      have HSM := Lib.hid hsm
      obtain ⟨y, hy⟩ : ∃ y : Nat, y = x / 2 ^ trail := ⟨_, rfl⟩
      have hyi : (x : Int) / 2 ^ trail = (y : Int) := by rw [hy]; simp
      have hy2 : y < 18446744073709551616 := by rw [hy]; exact Nat.lt_of_le_of_lt (Nat.div_le_self _ _) hx
      rw [← hy] at HSM HE
      clear hsm hy
      go_enter Tryd.func65, Tryd.ntmps65
      go_wp2_with fail
      refine (H.out.putI 1 1 1 1 rfl rfl (by decide) (by decide) (by decide) (by omega)).mono ?_
      rintro e w1 ⟨rfl, h1, m1⟩
      have H1 := Lib.hid h1
      have M1 := Lib.hid m1
      have c1 := h1.ptr
      have c15 : w1.cell? ⟨p, 5, none⟩ = some (.int .i64 (lead : Nat)) := (blk_cell h1.blk 5).trans rfl
      have c16 : w1.cell? ⟨p, 6, none⟩ = some (.int .i64 (trail : Nat)) := (blk_cell h1.blk 6).trans rfl
      have c17 : w1.cell? ⟨p, 7, none⟩ = some (.bool true) := (blk_cell h1.blk 7).trans rfl
      clear h1 m1
      have htb := tab_below HT.out H1.out.bel
      have HTB := Lib.hid htb
      clear htb
      go_wp2_with (first | (go_at_call 73; refine (lead_calls (x : Int) w1 (by omega) (by omega)).mono ?_; rintro e w' ⟨rfl, rfl⟩; rw [HLC.out]) | (go_at_call 74; refine (trail_calls x w1 hx HTB.out).mono ?_; rintro e w' ⟨rfl, rfl⟩; rw [HTC.out]))
      refine (H1.out.putI 0 1 0 1 rfl rfl (by decide) (by decide) (by decide) (by simp only [List.length_append, nb_length]; omega)).mono ?_
      rintro e w2 ⟨rfl, h2, m2⟩
      have H2 := Lib.hid h2
      have M2 := Lib.hid m2
      have c20 : w2.drew.cell? ⟨p, 0, none⟩ = some (.pointer (some ⟨g, 0, none⟩)) := h2.ptr
      have c25 : w2.drew.cell? ⟨p, 5, none⟩ = some (.int .i64 (lead : Nat)) := (blk_cell h2.blk 5).trans rfl
      have c26 : w2.drew.cell? ⟨p, 6, none⟩ = some (.int .i64 (trail : Nat)) := (blk_cell h2.blk 6).trans rfl
      clear h2 m2 c1 c15 c16 c17
      have e1 : IntKind.u64.wrap (trail : Int) = (trail : Int) := by rw [IntKind.wrap_u64]; omega
      have e2 : IntKind.i64.wrap (64 - (lead : Int)) = 64 - (lead : Int) := IntWalk.i64_in _ (by omega)
      obtain ⟨wd, hwd⟩ : ∃ wd : Nat, wd = 64 - lead - trail := ⟨_, rfl⟩
      have e3 : IntKind.i64.wrap (64 - (lead : Int) - (trail : Int)) = (wd : Int) := by rw [IntWalk.i64_in _ (by omega)]; omega
      rw [← hwd] at HSM HE
      have hwl : wd ≤ 64 := by omega
      clear hwd
      have HD2 := Lib.hid (H2.out.drewN 1)
      have hdr : w2.drewN 1 = w2.drew := rfl
      rw [hdr] at HD2
      clear hdr
      go_upto_region 6 with fail
      refine start_ (n := 25) (S := fun w' => w'.cell? ⟨p, 0, none⟩ = some (.pointer (some ⟨g, 0, none⟩)) ∧ w'.cell? ⟨p, 6, none⟩ = some (.int .i64 (trail : Nat)) ∧ w'.cell? ⟨p, 5, none⟩ = some (.int .i64 (lead : Nat))) (ds := [24]) #[false, false, false, false, false, false, false, false, false, false, false, false, false, false, false, false, false, false, false, false, false, false, false, false, false] (by kernel_rfl) rfl rfl ⟨c20, c26, c25⟩ (fun hHeld => ?_)
      refine pure_ (i := 0) (N := some 52) (v := ?_) (a' := ?_) #[true, false, false, false, false, false, false, false, false, false, false, false, false, false, false, false, false, false, false, false, false, false, false, false, false] rfl rfl (by kernel_rfl) (fun _ _ _ h => h) (Or.inl ⟨by rfl, ?_⟩) ?_ ?_
      rotate_left
      · intro w'
        go_simp
        with_reducible rfl
      rotate_left
      · simp only [Act.put, List.setIfInBounds_toArray, List.set_cons_zero, List.set_cons_succ, i64_w, i32_w]
        rfl
      refine pure_ (i := 1) (N := some 53) (v := ?_) (a' := ?_) #[true, true, false, false, false, false, false, false, false, false, false, false, false, false, false, false, false, false, false, false, false, false, false, false, false] rfl rfl (by kernel_rfl) (fun _ _ _ h => h) (Or.inl ⟨by rfl, ?_⟩) ?_ ?_
      rotate_left
      · intro w'
        go_simp
        with_reducible rfl
      rotate_left
      · simp only [Act.put, List.setIfInBounds_toArray, List.set_cons_zero, List.set_cons_succ, i64_w, i32_w]
        rfl
      refine pure_ (i := 2) (N := some 54) (v := ?_) (a' := ?_) #[true, true, true, false, false, false, false, false, false, false, false, false, false, false, false, false, false, false, false, false, false, false, false, false, false] rfl rfl (by kernel_rfl) (fun _ _ _ h => h) (Or.inl ⟨by rfl, ?_⟩) ?_ ?_
      rotate_left
      · intro w'
        go_simp
        with_reducible rfl
      rotate_left
      · simp only [Act.put, List.setIfInBounds_toArray, List.set_cons_zero, List.set_cons_succ, i64_w, i32_w]
        rfl
      refine pure_ (i := 4) (N := some 56) (v := ?_) (a' := ?_) #[true, true, true, false, true, false, false, false, false, false, false, false, false, false, false, false, false, false, false, false, false, false, false, false, false] rfl rfl (by kernel_rfl) (fun _ _ _ h => h) (Or.inl ⟨by rfl, ?_⟩) ?_ ?_
      rotate_left
      · intro w'
        go_simp
        with_reducible rfl
      rotate_left
      · simp only [Act.put, List.setIfInBounds_toArray, List.set_cons_zero, List.set_cons_succ, i64_w, i32_w]
        rfl
      refine pure_ (i := 5) (N := some 57) (v := ?_) (a' := ?_) #[true, true, true, false, true, true, false, false, false, false, false, false, false, false, false, false, false, false, false, false, false, false, false, false, false] rfl rfl (by kernel_rfl) (fun _ _ _ h => h) (Or.inl ⟨by rfl, ?_⟩) ?_ ?_
      rotate_left
      · intro w'
        go_simp
        with_reducible rfl
      rotate_left
      · simp only [Act.put, List.setIfInBounds_toArray, List.set_cons_zero, List.set_cons_succ, i64_w, i32_w]
        rfl
      refine pure_ (i := 6) (N := some 58) (v := ?_) (a' := ?_) #[true, true, true, false, true, true, true, false, false, false, false, false, false, false, false, false, false, false, false, false, false, false, false, false, false] rfl rfl (by kernel_rfl) (fun _ _ _ h => h) (Or.inl ⟨by rfl, ?_⟩) ?_ ?_
      rotate_left
      · intro w'
        go_simp
        with_reducible rfl
      rotate_left
      · simp only [Act.put, List.setIfInBounds_toArray, List.set_cons_zero, List.set_cons_succ, i64_w, i32_w]
        rfl
      refine pure_ (i := 7) (N := some 59) (v := ?_) (a' := ?_) #[true, true, true, false, true, true, true, true, false, false, false, false, false, false, false, false, false, false, false, false, false, false, false, false, false] rfl rfl (by kernel_rfl) (fun _ _ _ h => h) (Or.inl ⟨by rfl, ?_⟩) ?_ ?_
      rotate_left
      · intro w'
        go_simp
        with_reducible rfl
      rotate_left
      · simp only [Act.put, List.setIfInBounds_toArray, List.set_cons_zero, List.set_cons_succ, i64_w, i32_w]
        rfl
      refine pure_ (i := 8) (N := some 60) (v := ?_) (a' := ?_) #[true, true, true, false, true, true, true, true, true, false, false, false, false, false, false, false, false, false, false, false, false, false, false, false, false] rfl rfl (by kernel_rfl) (fun _ _ _ h => h) (Or.inl ⟨by rfl, ?_⟩) ?_ ?_
      rotate_left
      · intro w'
        go_simp
        with_reducible rfl
      rotate_left
      · simp only [Act.put, List.setIfInBounds_toArray, List.set_cons_zero, List.set_cons_succ, i64_w, i32_w]
        rfl
      refine pure_ (i := 12) (N := some 64) (v := ?_) (a' := ?_) #[true, true, true, false, true, true, true, true, true, false, false, false, true, false, false, false, false, false, false, false, false, false, false, false, false] rfl rfl (by kernel_rfl) (fun _ _ _ h => h) (Or.inl ⟨by rfl, ?_⟩) ?_ ?_
      rotate_left
      · intro w'
        go_simp
        with_reducible rfl
      rotate_left
      · simp only [Act.put, List.setIfInBounds_toArray, List.set_cons_zero, List.set_cons_succ, i64_w, i32_w]
        rfl
      refine pure_ (i := 13) (N := some 65) (v := ?_) (a' := ?_) #[true, true, true, false, true, true, true, true, true, false, false, false, true, true, false, false, false, false, false, false, false, false, false, false, false] rfl rfl (by kernel_rfl) (fun _ _ _ h => h) (Or.inl ⟨by rfl, ?_⟩) ?_ ?_
      rotate_left
      · intro w'
        go_simp
        with_reducible rfl
      rotate_left
      · simp only [Act.put, List.setIfInBounds_toArray, List.set_cons_zero, List.set_cons_succ, i64_w, i32_w]
        rfl
      refine pure_ (i := 14) (N := some 66) (v := ?_) (a' := ?_) #[true, true, true, false, true, true, true, true, true, false, false, false, true, true, true, false, false, false, false, false, false, false, false, false, false] rfl rfl (by kernel_rfl) (fun _ _ _ h => h) (Or.inl ⟨by rfl, ?_⟩) ?_ ?_
      rotate_left
      · intro w'
        go_simp
        with_reducible rfl
      rotate_left
      · simp only [Act.put, List.setIfInBounds_toArray, List.set_cons_zero, List.set_cons_succ, i64_w, i32_w]
        rfl
      refine pure_ (i := 15) (N := some 67) (v := ?_) (a' := ?_) #[true, true, true, false, true, true, true, true, true, false, false, false, true, true, true, true, false, false, false, false, false, false, false, false, false] rfl rfl (by kernel_rfl) (fun _ _ _ h => h) (Or.inl ⟨by rfl, ?_⟩) ?_ ?_
      rotate_left
      · intro w'
        go_simp
        with_reducible rfl
      rotate_left
      · simp only [Act.put, List.setIfInBounds_toArray, List.set_cons_zero, List.set_cons_succ, i64_w, i32_w]
        rfl
      refine pure_ (i := 18) (N := some 70) (v := ?_) (a' := ?_) #[true, true, true, false, true, true, true, true, true, false, false, false, true, true, true, true, false, false, true, false, false, false, false, false, false] rfl rfl (by kernel_rfl) (fun _ _ _ h => h) (Or.inl ⟨by rfl, ?_⟩) ?_ ?_
      rotate_left
      · intro w'
        go_simp
        with_reducible rfl
      rotate_left
      · simp only [Act.put, List.setIfInBounds_toArray, List.set_cons_zero, List.set_cons_succ, i64_w, i32_w]
        rfl
      refine pure_ (i := 19) (N := some 71) (v := ?_) (a' := ?_) #[true, true, true, false, true, true, true, true, true, false, false, false, true, true, true, true, false, false, true, true, false, false, false, false, false] rfl rfl (by kernel_rfl) (fun _ _ _ h => h) (Or.inl ⟨by rfl, ?_⟩) ?_ ?_
      rotate_left
      · intro w'
        go_simp
        with_reducible rfl
      rotate_left
      · simp only [Act.put, List.setIfInBounds_toArray, List.set_cons_zero, List.set_cons_succ, i64_w, i32_w]
        rfl
      refine pure_ (i := 20) (N := some 72) (v := ?_) (a' := ?_) #[true, true, true, false, true, true, true, true, true, false, false, false, true, true, true, true, false, false, true, true, true, false, false, false, false] rfl rfl (by kernel_rfl) (fun _ _ _ h => h) (Or.inl ⟨by rfl, ?_⟩) ?_ ?_
      rotate_left
      · intro w'
        go_simp
        with_reducible rfl
      rotate_left
      · simp only [Act.put, List.setIfInBounds_toArray, List.set_cons_zero, List.set_cons_succ, i64_w, i32_w]
        rfl
      refine pure_ (i := 21) (N := some 73) (v := ?_) (a' := ?_) #[true, true, true, false, true, true, true, true, true, false, false, false, true, true, true, true, false, false, true, true, true, true, false, false, false] rfl rfl (by kernel_rfl) (fun _ _ _ h => h) (Or.inl ⟨by rfl, ?_⟩) ?_ ?_
      rotate_left
      · intro w'
        go_simp
        with_reducible rfl
      rotate_left
      · simp only [Act.put, List.setIfInBounds_toArray, List.set_cons_zero, List.set_cons_succ, i64_w, i32_w]
        rfl
      refine take_ (i := 3) (N := some 55) (v := ?_) (a' := ?_) #[true, true, true, true, true, true, true, true, true, false, false, false, true, true, true, true, false, false, true, true, true, true, false, false, false] rfl rfl (by kernel_rfl) (fun _ _ _ h => h) (Or.inl ⟨by rfl, ?_⟩) hHeld ?_ ?_
      rotate_left
      · rintro w' ⟨s0, s1, s2⟩
        go_simp
        with_reducible rfl
      rotate_left
      · simp only [Act.put, List.setIfInBounds_toArray, List.set_cons_zero, List.set_cons_succ, i64_w, i32_w]
        rfl
      refine take_ (i := 9) (N := some 61) (v := ?_) (a' := ?_) #[true, true, true, true, true, true, true, true, true, true, false, false, true, true, true, true, false, false, true, true, true, true, false, false, false] rfl rfl (by kernel_rfl) (fun _ _ _ h => h) (Or.inl ⟨by rfl, ?_⟩) hHeld ?_ ?_
      rotate_left
      · rintro w' ⟨s0, s1, s2⟩
        go_simp
        with_reducible rfl
      rotate_left
      · simp only [Act.put, List.setIfInBounds_toArray, List.set_cons_zero, List.set_cons_succ, i64_w, i32_w]
        rfl
      refine pure_ (i := 10) (N := some 62) (v := ?_) (a' := ?_) #[true, true, true, true, true, true, true, true, true, true, true, false, true, true, true, true, false, false, true, true, true, true, false, false, false] rfl rfl (by kernel_rfl) (fun _ _ _ h => h) (Or.inl ⟨by rfl, ?_⟩) ?_ ?_
      rotate_left
      · intro w'
        go_simp
        with_reducible rfl
      rotate_left
      · simp only [Act.put, List.setIfInBounds_toArray, List.set_cons_zero, List.set_cons_succ, i64_w, i32_w]
        rfl
      refine pure_ (i := 11) (N := some 63) (v := ?_) (a' := ?_) #[true, true, true, true, true, true, true, true, true, true, true, true, true, true, true, true, false, false, true, true, true, true, false, false, false] rfl rfl (by kernel_rfl) (fun _ _ _ h => h) (Or.inl ⟨by rfl, ?_⟩) ?_ ?_
      rotate_left
      · intro w'
        go_simp
        with_reducible rfl
      rotate_left
      · simp only [Act.put, List.setIfInBounds_toArray, List.set_cons_zero, List.set_cons_succ, i64_w, i32_w]
        rfl
      refine take_ (i := 16) (N := some 68) (v := ?_) (a' := ?_) #[true, true, true, true, true, true, true, true, true, true, true, true, true, true, true, true, true, false, true, true, true, true, false, false, false] rfl rfl (by kernel_rfl) (fun _ _ _ h => h) (Or.inl ⟨by rfl, ?_⟩) hHeld ?_ ?_
      rotate_left
      · rintro w' ⟨s0, s1, s2⟩
        go_simp
        with_reducible rfl
      rotate_left
      · simp only [Act.put, List.setIfInBounds_toArray, List.set_cons_zero, List.set_cons_succ, i64_w, i32_w]
        rfl
      refine pure_ (i := 17) (N := some 69) (v := ?_) (a' := ?_) #[true, true, true, true, true, true, true, true, true, true, true, true, true, true, true, true, true, true, true, true, true, true, false, false, false] rfl rfl (by kernel_rfl) (fun _ _ _ h => h) (Or.inl ⟨by rfl, ?_⟩) ?_ ?_
      rotate_left
      · intro w'
        go_simp
        with_reducible rfl
      rotate_left
      · simp only [Act.put, List.setIfInBounds_toArray, List.set_cons_zero, List.set_cons_succ, i64_w, i32_w]
        rfl
      refine take_ (i := 22) (N := some 74) (v := ?_) (a' := ?_) #[true, true, true, true, true, true, true, true, true, true, true, true, true, true, true, true, true, true, true, true, true, true, true, false, false] rfl rfl (by kernel_rfl) (fun _ _ _ h => h) (Or.inl ⟨by rfl, ?_⟩) hHeld ?_ ?_
      rotate_left
      · rintro w' ⟨s0, s1, s2⟩
        go_simp
        with_reducible rfl
      rotate_left
      · simp only [Act.put, List.setIfInBounds_toArray, List.set_cons_zero, List.set_cons_succ, i64_w, i32_w]
        rfl
      refine pure_ (i := 23) (N := some 75) (v := ?_) (a' := ?_) #[true, true, true, true, true, true, true, true, true, true, true, true, true, true, true, true, true, true, true, true, true, true, true, true, false] rfl rfl (by kernel_rfl) (fun _ _ _ h => h) (Or.inl ⟨by rfl, ?_⟩) ?_ ?_
      rotate_left
      · intro w'
        go_simp
        with_reducible rfl
      rotate_left
      · simp only [Act.put, List.setIfInBounds_toArray, List.set_cons_zero, List.set_cons_succ, i64_w, i32_w]
        rfl
      refine last_ (i := 24) (N := some 76) #[true, true, true, true, true, true, true, true, true, true, true, true, true, true, true, true, true, true, true, true, true, true, true, true, true] rfl rfl (by kernel_rfl) (by decide) (fun K hK => ?_)
      refine goes_ Tryd.func45 (by kernel_rfl) rfl #[.pointer (some ⟨g, 0, none⟩), .int .u64 y, .int .i64 wd] (by rfl) rfl rfl (by simp only [List.map_toArray, List.map_cons, List.map_nil]; rfl) ?_
      with_reducible refine (HD2.out.putI y wd y wd rfl rfl hy2 hwl (.inr HSM.out) (by simp only [List.length_append, nb_length]; omega)).mono ?_
      rintro e w3 ⟨rfl, h3, m3⟩
      refine ⟨_, rfl, ?_⟩
      have H3 := Lib.hid h3
      have M3 := Lib.hid m3
      clear h3 m3
      refine hK.out _ _ ?_
      clear hK K
      refine norm_ (a' := ?_) ?_ ?_
      rotate_left
      · show Act.put _ (some 76) _ = _
        simp only [Act.put, List.setIfInBounds_toArray, List.set_cons_zero, List.set_cons_succ, i64_w, i32_w]
        rfl
      refine done_ (by kernel_rfl) ?_
      clear c20 c25 c26
      go_wp2_with fail
      refine bodyPost_ret (results_none rfl _ _ _) rfl ?_
      have M0 : Hid (Mod ok w w2.drew) := Lib.hid ((M1.out.trans M2.out (fun _ _ h => h)).drewN 1)
      refine ⟨rfl, ?_, (M0.out.trans M3.out (fun _ _ h => h)).weaken (fun _ _ h => .inl h)⟩
      rw [HE.out]
      have h3 := H3.out
      simp only [List.append_assoc] at h3 ⊢
      exact h3
    · have HE : Hid (turnB x ⟨set, lead, trail⟩ = (nb 1 1 ++ (nb 1 1 ++ (nb L 5 ++ (nb ((64 - L - T) % 64) 6 ++ nb (x / 2 ^ T) (64 - L - T)))), ⟨true, L, T⟩)) := by
        unfold Hid turnB
        rw [if_neg h0, if_neg (by rw [← HL.out, ← HTR.out]; exact hc), ← HL.out, ← HTR.out]
      have hsm : x / 2 ^ T < 2 ^ (64 - L - T) := by
        rw [Nat.div_lt_iff_lt_mul (Nat.pos_of_ne_zero (by simp)), ← Nat.pow_add]
        exact Nat.lt_of_lt_of_le HLT.out (Nat.pow_le_pow_right (by decide) (by omega))
      have HSM := Lib.hid hsm
      obtain ⟨y, hy⟩ : ∃ y : Nat, y = x / 2 ^ T := ⟨_, rfl⟩
      have hyi : (x : Int) / 2 ^ T = (y : Int) := by rw [hy]; simp
      have hy2 : y < 18446744073709551616 := by rw [hy]; exact Nat.lt_of_le_of_lt (Nat.div_le_self _ _) hx
      rw [← hy] at HSM HE
      clear hsm hy
      have e1 : IntKind.u64.wrap (T : Int) = (T : Int) := by rw [IntKind.wrap_u64]; omega
      have e2 : IntKind.i64.wrap (64 - (L : Int)) = 64 - (L : Int) := IntWalk.i64_in _ (by omega)
      obtain ⟨wd, hwd⟩ : ∃ wd : Nat, wd = 64 - L - T := ⟨_, rfl⟩
      have e3 : IntKind.i64.wrap (64 - (L : Int) - (T : Int)) = (wd : Int) := by rw [IntWalk.i64_in _ (by omega)]; omega
      have e4 : IntKind.u64.wrap (L : Int) = (L : Int) := by rw [IntKind.wrap_u64]; omega
      rw [← hwd] at HSM HE
      obtain ⟨wm, hwm⟩ : ∃ wm : Nat, wm = wd % 64 := ⟨_, rfl⟩
      have e5 : Int.tmod (wd : Int) 64 = (wm : Int) := by rw [hwm]; rfl
      have e6 : IntKind.u64.wrap (wm : Int) = (wm : Int) := by rw [IntKind.wrap_u64]; omega
      rw [← hwm] at HE
      have hwl : wd ≤ 64 := by omega
      have hwm2 : wm < 64 := by omega
      clear hwd hwm
      have hcc : (set = false) ∨ (set = true ∧ ¬ lead ≤ L) ∨ (set = true ∧ lead ≤ L ∧ ¬ trail ≤ T) := by
        cases set
        · exact .inl rfl
        · by_cases h2 : lead ≤ L
          · exact .inr (.inr ⟨rfl, h2, fun h3 => hc ⟨rfl, h2, h3⟩⟩)
          · exact .inr (.inl ⟨rfl, h2⟩)
      clear hc
      rcases hcc with rfl | ⟨rfl, k1⟩ | ⟨rfl, k1, k2⟩
      · go_enter Tryd.func65, Tryd.ntmps65
        go_wp2_with fail
        refine (H.out.putI 1 1 1 1 rfl rfl (by decide) (by decide) (by decide) (by omega)).mono ?_
        rintro e w1 ⟨rfl, h1, m1⟩
        have H1 := Lib.hid h1
        have M1 := Lib.hid m1
        have c1 := h1.ptr
        have c15 : w1.cell? ⟨p, 5, none⟩ = some (.int .i64 (lead : Nat)) := (blk_cell h1.blk 5).trans rfl
        have c16 : w1.cell? ⟨p, 6, none⟩ = some (.int .i64 (trail : Nat)) := (blk_cell h1.blk 6).trans rfl
        have c17 : w1.cell? ⟨p, 7, none⟩ = some (.bool false) := (blk_cell h1.blk 7).trans rfl
        have f5 := blk_frozen h1.blk 5
        have f6 := blk_frozen h1.blk 6
        have f7 := blk_frozen h1.blk 7
        clear h1 m1
        have htb := tab_below HT.out H1.out.bel
        have HTB := Lib.hid htb
        clear htb
        go_upto_region 8 with (first | (go_at_call 73; refine (lead_calls (x : Int) w1 (by omega) (by omega)).mono ?_; rintro e w' ⟨rfl, rfl⟩; rw [HLC.out]) | (go_at_call 74; refine (trail_calls x w1 hx HTB.out).mono ?_; rintro e w' ⟨rfl, rfl⟩; rw [HTC.out]))
        obtain ⟨h2, m2⟩ := H1.out.window L T
        obtain ⟨W2, hW2⟩ : ∃ W2, W2 = ((w1.setCell ⟨p, 5, none⟩ (.int .i64 (L : Nat))).setCell ⟨p, 6, none⟩ (.int .i64 (T : Nat))).setCell ⟨p, 7, none⟩ (.bool true) := ⟨_, rfl⟩
        rw [← hW2] at h2 m2 ⊢
        have H2 := Lib.hid h2
        have M2 := Lib.hid m2
        have c2 := h2.ptr
        clear h2 m2 hW2 c1 c15 c16 c17 f5 f6 f7
        go_wp2_with fail
        refine (H2.out.putI 1 1 1 1 rfl rfl (by decide) (by decide) (by decide) (by simp only [List.length_append, nb_length]; omega)).mono ?_
        rintro e w3 ⟨rfl, h3, m3⟩
        have H3 := Lib.hid h3
        have M3 := Lib.hid m3
        have c3 := h3.ptr
        clear h3 m3
        go_wp2_with fail
        refine (H3.out.putI L 5 L 5 rfl rfl (by omega) (by decide) (.inr (by omega)) (by simp only [List.length_append, nb_length]; omega)).mono ?_
        rintro e w4 ⟨rfl, h4, m4⟩
        have H4 := Lib.hid h4
        have M4 := Lib.hid m4
        have c4 := h4.ptr
        clear h4 m4
        go_wp2_with fail
        refine (H4.out.putI wm 6 wm 6 rfl rfl (by omega) (by decide) (.inr (by omega)) (by simp only [List.length_append, nb_length]; omega)).mono ?_
        rintro e w5 ⟨rfl, h5, m5⟩
        have H5 := Lib.hid h5
        have M5 := Lib.hid m5
        have c5 := h5.ptr
        clear h5 m5
        go_wp2_with fail
        refine (H5.out.putI y wd y wd rfl rfl hy2 hwl (.inr HSM.out) (by simp only [List.length_append, nb_length]; omega)).mono ?_
        rintro e w6 ⟨rfl, h6, m6⟩
        have H6 := Lib.hid h6
        have M6 := Lib.hid m6
        clear h6 m6
        go_wp2_with fail
        go_end0
        have hM : Mod (fun k => ok k ∨ k = p) w w6 := (M1.out.weaken (fun _ _ h => .inl h)).trans ((M2.out.weaken (S' := fun k => ok k ∨ k = p) (fun _ _ h => .inr h)).trans ((M3.out.trans (M4.out.trans (M5.out.trans M6.out (fun _ _ h => h)) (fun _ _ h => h)) (fun _ _ h => h)).weaken (S' := fun k => ok k ∨ k = p) (fun _ _ h => .inl h)) (fun _ _ h => h)) (fun _ _ h => h)
        refine ⟨rfl, ?_, hM⟩
        rw [HE.out]
        have h6 := H6.out
        simp only [List.append_assoc] at h6 ⊢
        exact h6
      · go_enter Tryd.func65, Tryd.ntmps65
        go_wp2_with fail
        refine (H.out.putI 1 1 1 1 rfl rfl (by decide) (by decide) (by decide) (by omega)).mono ?_
        rintro e w1 ⟨rfl, h1, m1⟩
        have H1 := Lib.hid h1
        have M1 := Lib.hid m1
        have c1 := h1.ptr
        have c15 : w1.cell? ⟨p, 5, none⟩ = some (.int .i64 (lead : Nat)) := (blk_cell h1.blk 5).trans rfl
        have c16 : w1.cell? ⟨p, 6, none⟩ = some (.int .i64 (trail : Nat)) := (blk_cell h1.blk 6).trans rfl
        have c17 : w1.cell? ⟨p, 7, none⟩ = some (.bool true) := (blk_cell h1.blk 7).trans rfl
        have f5 := blk_frozen h1.blk 5
        have f6 := blk_frozen h1.blk 6
        have f7 := blk_frozen h1.blk 7
        clear h1 m1
        have htb := tab_below HT.out H1.out.bel
        have HTB := Lib.hid htb
        clear htb
        go_upto_region 8 with (first | (go_at_call 73; refine (lead_calls (x : Int) w1 (by omega) (by omega)).mono ?_; rintro e w' ⟨rfl, rfl⟩; rw [HLC.out]) | (go_at_call 74; refine (trail_calls x w1 hx HTB.out).mono ?_; rintro e w' ⟨rfl, rfl⟩; rw [HTC.out]))
        obtain ⟨h2, m2⟩ := H1.out.window L T
        obtain ⟨W2, hW2⟩ : ∃ W2, W2 = ((w1.setCell ⟨p, 5, none⟩ (.int .i64 (L : Nat))).setCell ⟨p, 6, none⟩ (.int .i64 (T : Nat))).setCell ⟨p, 7, none⟩ (.bool true) := ⟨_, rfl⟩
        rw [← hW2] at h2 m2 ⊢
        have H2 := Lib.hid h2
        have M2 := Lib.hid m2
        have c2 := h2.ptr
        clear h2 m2 hW2 c1 c15 c16 c17 f5 f6 f7
        go_wp2_with fail
        refine (H2.out.putI 1 1 1 1 rfl rfl (by decide) (by decide) (by decide) (by simp only [List.length_append, nb_length]; omega)).mono ?_
        rintro e w3 ⟨rfl, h3, m3⟩
        have H3 := Lib.hid h3
        have M3 := Lib.hid m3
        have c3 := h3.ptr
        clear h3 m3
        go_wp2_with fail
        refine (H3.out.putI L 5 L 5 rfl rfl (by omega) (by decide) (.inr (by omega)) (by simp only [List.length_append, nb_length]; omega)).mono ?_
        rintro e w4 ⟨rfl, h4, m4⟩
        have H4 := Lib.hid h4
        have M4 := Lib.hid m4
        have c4 := h4.ptr
        clear h4 m4
        go_wp2_with fail
        refine (H4.out.putI wm 6 wm 6 rfl rfl (by omega) (by decide) (.inr (by omega)) (by simp only [List.length_append, nb_length]; omega)).mono ?_
        rintro e w5 ⟨rfl, h5, m5⟩
        have H5 := Lib.hid h5
        have M5 := Lib.hid m5
        have c5 := h5.ptr
        clear h5 m5
        go_wp2_with fail
        refine (H5.out.putI y wd y wd rfl rfl hy2 hwl (.inr HSM.out) (by simp only [List.length_append, nb_length]; omega)).mono ?_
        rintro e w6 ⟨rfl, h6, m6⟩
        have H6 := Lib.hid h6
        have M6 := Lib.hid m6
        clear h6 m6
        go_wp2_with fail
        go_end0
        have hM : Mod (fun k => ok k ∨ k = p) w w6 := (M1.out.weaken (fun _ _ h => .inl h)).trans ((M2.out.weaken (S' := fun k => ok k ∨ k = p) (fun _ _ h => .inr h)).trans ((M3.out.trans (M4.out.trans (M5.out.trans M6.out (fun _ _ h => h)) (fun _ _ h => h)) (fun _ _ h => h)).weaken (S' := fun k => ok k ∨ k = p) (fun _ _ h => .inl h)) (fun _ _ h => h)) (fun _ _ h => h)
        refine ⟨rfl, ?_, hM⟩
        rw [HE.out]
        have h6 := H6.out
        simp only [List.append_assoc] at h6 ⊢
        exact h6
      · go_enter Tryd.func65, Tryd.ntmps65
        go_wp2_with fail
        refine (H.out.putI 1 1 1 1 rfl rfl (by decide) (by decide) (by decide) (by omega)).mono ?_
        rintro e w1 ⟨rfl, h1, m1⟩
        have H1 := Lib.hid h1
        have M1 := Lib.hid m1
        have c1 := h1.ptr
        have c15 : w1.cell? ⟨p, 5, none⟩ = some (.int .i64 (lead : Nat)) := (blk_cell h1.blk 5).trans rfl
        have c16 : w1.cell? ⟨p, 6, none⟩ = some (.int .i64 (trail : Nat)) := (blk_cell h1.blk 6).trans rfl
        have c17 : w1.cell? ⟨p, 7, none⟩ = some (.bool true) := (blk_cell h1.blk 7).trans rfl
        have f5 := blk_frozen h1.blk 5
        have f6 := blk_frozen h1.blk 6
        have f7 := blk_frozen h1.blk 7
        clear h1 m1
        have htb := tab_below HT.out H1.out.bel
        have HTB := Lib.hid htb
        clear htb
        go_upto_region 8 with (first | (go_at_call 73; refine (lead_calls (x : Int) w1 (by omega) (by omega)).mono ?_; rintro e w' ⟨rfl, rfl⟩; rw [HLC.out]) | (go_at_call 74; refine (trail_calls x w1 hx HTB.out).mono ?_; rintro e w' ⟨rfl, rfl⟩; rw [HTC.out]))
        obtain ⟨h2, m2⟩ := H1.out.window L T
        obtain ⟨W2, hW2⟩ : ∃ W2, W2 = ((w1.setCell ⟨p, 5, none⟩ (.int .i64 (L : Nat))).setCell ⟨p, 6, none⟩ (.int .i64 (T : Nat))).setCell ⟨p, 7, none⟩ (.bool true) := ⟨_, rfl⟩
        rw [← hW2] at h2 m2 ⊢
        have H2 := Lib.hid h2
        have M2 := Lib.hid m2
        have c2 := h2.ptr
        clear h2 m2 hW2 c1 c15 c16 c17 f5 f6 f7
        go_wp2_with fail
        refine (H2.out.putI 1 1 1 1 rfl rfl (by decide) (by decide) (by decide) (by simp only [List.length_append, nb_length]; omega)).mono ?_
        rintro e w3 ⟨rfl, h3, m3⟩
        have H3 := Lib.hid h3
        have M3 := Lib.hid m3
        have c3 := h3.ptr
        clear h3 m3
        go_wp2_with fail
        refine (H3.out.putI L 5 L 5 rfl rfl (by omega) (by decide) (.inr (by omega)) (by simp only [List.length_append, nb_length]; omega)).mono ?_
        rintro e w4 ⟨rfl, h4, m4⟩
        have H4 := Lib.hid h4
        have M4 := Lib.hid m4
        have c4 := h4.ptr
        clear h4 m4
        go_wp2_with fail
        refine (H4.out.putI wm 6 wm 6 rfl rfl (by omega) (by decide) (.inr (by omega)) (by simp only [List.length_append, nb_length]; omega)).mono ?_
        rintro e w5 ⟨rfl, h5, m5⟩
        have H5 := Lib.hid h5
        have M5 := Lib.hid m5
        have c5 := h5.ptr
        clear h5 m5
        go_wp2_with fail
        refine (H5.out.putI y wd y wd rfl rfl hy2 hwl (.inr HSM.out) (by simp only [List.length_append, nb_length]; omega)).mono ?_
        rintro e w6 ⟨rfl, h6, m6⟩
        have H6 := Lib.hid h6
        have M6 := Lib.hid m6
        clear h6 m6
        go_wp2_with fail
        go_end0
        have hM : Mod (fun k => ok k ∨ k = p) w w6 := (M1.out.weaken (fun _ _ h => .inl h)).trans ((M2.out.weaken (S' := fun k => ok k ∨ k = p) (fun _ _ h => .inr h)).trans ((M3.out.trans (M4.out.trans (M5.out.trans M6.out (fun _ _ h => h)) (fun _ _ h => h)) (fun _ _ h => h)).weaken (S' := fun k => ok k ∨ k = p) (fun _ _ h => .inl h)) (fun _ _ h => h)) (fun _ _ h => h)
        refine ⟨rfl, ?_, hM⟩
        rw [HE.out]
        have h6 := H6.out
        simp only [List.append_assoc] at h6 ⊢
        exact h6
end Go.Proofs.YtmllgglcdlcdhaaDoor
