import Derived.Test.YtmllgglcdlcdhaaDoorCXorAddsYD
namespace Go.Proofs.YtmllgglcdlcdhaaDoor.Bq
end Go.Proofs.YtmllgglcdlcdhaaDoor.Bq
namespace Go.Proofs.YtmllgglcdlcdhaaDoor
open Go Go.RowKit Go.Proofs.YtmllgglcdlcdhaaDoorW.PrintWords Go.Proofs.YtmllgglcdlcdhaaDoorW.PrintMore Go.Proofs.YtmllgglcdlcdhaaDoorW.PrintLast Bq Xs Go.Proofs.YtmllgglcdlcdhaaDoor.Pu
set_option linter.unusedVariables false
set_option maxRecDepth 100000
set_option linter.unusedSimpArgs false
attribute [local go_sem ↓] Go.wp_at_zero Go.wp_at_succ
section
variable {w w1 : World} {ok : Nat → Prop} {q g b : Nat} {σ : Sg} {s : St}
theorem Rk.other {N0 : Nat} (h : Rk w (fun k => ok k ∧ k < N0) q g σ s) (p : Addr) (u : Value) (hq : p.block ≠ q) (hb : N0 ≤ p.block) : Rk (w.setCell p u) (fun k => ok k ∧ k < N0) q g σ s :=
  h.kept (S := fun k => k = p.block) ((Mod.refl (fun k => k = p.block) w).setCell (.inl rfl) u) (fun e => hq e.symm) (fun k ho _ e => by have := ho.2; omega)
theorem Rk.stepped (h : Rk w ok q g σ s) (n : Nat) : Rk (w.setCell ⟨q, 4, none⟩ (.int .u64 (n : Nat))) ok q g σ ⟨s.n, s.t, s.v, n, s.w⟩ ∧ Mod (TwoB g q) w (w.setCell ⟨q, 4, none⟩ (.int .u64 (n : Nat))) := by
  have hm : Mod (fun k => k = q) w (w.setCell ⟨q, 4, none⟩ (.int .u64 (n : Nat))) := (Mod.refl (fun k => k = q) w).setCell (p := ⟨q, 4, none⟩) (.inl rfl) _
  exact ⟨⟨blk_put h.blk 4 _ rfl, fun r hr => (h.rd r hr).kept hm (fun k ho _ e => h.okq (e ▸ ho)), h.okq, h.good, h.lt⟩, hm.weaken (fun _ _ h => .inr h)⟩
theorem Rk.lastly (h : Rk w ok q g σ s) (t : Int) (v n : Nat) : Rk (((w.setCell ⟨q, 2, none⟩ (.int .i64 t)).setCell ⟨q, 3, none⟩ (.int .u64 (v : Nat))).setCell ⟨q, 1, none⟩ (.int .i64 (n : Nat))) ok q g σ ⟨n, t, v, s.step, s.w⟩ ∧ Mod (TwoB g q) w (((w.setCell ⟨q, 2, none⟩ (.int .i64 t)).setCell ⟨q, 3, none⟩ (.int .u64 (v : Nat))).setCell ⟨q, 1, none⟩ (.int .i64 (n : Nat))) := by
  have hm : Mod (fun k => k = q) w (((w.setCell ⟨q, 2, none⟩ (.int .i64 t)).setCell ⟨q, 3, none⟩ (.int .u64 (v : Nat))).setCell ⟨q, 1, none⟩ (.int .i64 (n : Nat))) :=
    (((Mod.refl (fun k => k = q) w).setCell (p := ⟨q, 2, none⟩) (.inl rfl) _).setCell (p := ⟨q, 3, none⟩) (.inl rfl) _).setCell (p := ⟨q, 1, none⟩) (.inl rfl) _
  exact ⟨⟨blk_put (blk_put (blk_put h.blk 2 _ rfl) 3 _ rfl) 1 _ rfl, fun r hr => (h.rd r hr).kept hm (fun k ho _ e => h.okq (e ▸ ho)), h.okq, h.good, h.lt⟩, hm.weaken (fun _ _ h => .inr h)⟩
end
theorem fewT_bd (σ : Sg) : 0 ≤ (fewT σ).1 ∧ (fewT σ).1 < 18446744073709551616 := by
  cases σ with
  | error e => exact ⟨by show (0 : Int) ≤ 0; decide, by show (0 : Int) < _; decide⟩
  | ok r =>
    unfold fewT
    simp only
    cases hg : fewR 11 [] r with
    | error e => exact (show (0 : Int) ≤ 0 ∧ (0 : Int) < 18446744073709551616 from ⟨by decide, by decide⟩)
    | ok v => obtain ⟨u, r1⟩ := v; exact (fewR_ok 11 [] (fun _ h => by cases h) hg).1
theorem turnT5_bd (w : Win) (l m : Nat) (hm : 0 < m) (σ : Sg) (h : ¬ 64 < l + m ∨ ∃ e, σ = .error e) (hw : w.lead + w.trail ≤ 63) : (turnT5 w l m σ).1 < 2 ^ 64 ∧ (turnT5 w l m σ).2.1.lead + (turnT5 w l m σ).2.1.trail ≤ 63 := by
  cases σ with
  | error e => exact ⟨by show 0 < 2 ^ 64; decide, hw⟩
  | ok r =>
    rcases h with h | ⟨e, h⟩
    · exact ⟨mul_bound (getT_lt m (.ok r)) (by omega), by show l + (64 - l - m) ≤ 63; omega⟩
    · cases h
theorem turnT_bd (w : Win) (σ : Sg) (hw : w.lead + w.trail ≤ 63) : (turnT w σ).1 < 2 ^ 64 ∧ (turnT w σ).2.1.lead + (turnT w σ).2.1.trail ≤ 63 := by
  unfold turnT
  split
  · exact ⟨by show 0 < 2 ^ 64; decide, hw⟩
  · unfold turnT2
    split
    · split
      · exact ⟨mul_bound (getT_lt (64 - w.lead - w.trail) _) (by omega), hw⟩
      · exact ⟨by show 0 < 2 ^ 64; decide, hw⟩
    · unfold turnT4 formT
      have hm : 0 < wideT (getT 6 (getT 5 (getT 1 (getT 1 σ).2).2).2).1 := by unfold wideT; split <;> omega
      refine turnT5_bd w _ _ hm _ ?_ hw
      split
      · right
        generalize (getT 6 (getT 5 (getT 1 (getT 1 σ).2).2).2).2 = z
        cases z with
        | error e => exact ⟨e, rfl⟩
        | ok r => exact ⟨8, rfl⟩
      · left
        assumption
set_option maxHeartbeats 8000000 in
theorem rknext (w : World) (ok : Nat → Prop) (q g : Nat) (σ : Sg) (s : St) (h : Rk w ok q g σ s) (hv : s.v < 18446744073709551616) (hs : s.step < 18446744073709551616) (hw : s.w.lead + s.w.trail ≤ 63) (hn : s.n < 1000000000) :
    Calls Tryd.prog 33 #[.pointer (some ⟨q, 0, none⟩)] w fun e w' => e = .returned (.agg #[.int .i64 (nextT s σ).1.1, .int .u64 ((nextT s σ).1.2 : Nat)]) ∧ Rk w' ok q g (nextT s σ).2.2 (nextT s σ).2.1 ∧ Mod (TwoB g q) w w' := by
  obtain ⟨sn, st, sv, sstep, sw⟩ := s
  simp only at hv hs hw hn
  have hqw := h.qlt
  have hgq := h.lt
  have HQ := Lib.hid h.okq
  obtain ⟨N0, hN0⟩ : ∃ N0, N0 = w.heap.size := ⟨_, rfl⟩
  obtain ⟨W2, hW2⟩ : ∃ W2, W2 = (w.alloc (.cells #[.int .i64 0, .int .u64 0] 39)).alloc (.cells #[.int .i64 0, .int .u64 0] 39) := ⟨_, rfl⟩
  obtain ⟨b3, hb3⟩ : ∃ b3, b3 = N0 + 1 := ⟨_, rfl⟩
  have hB2 : Below w.heap.size w W2 := by rw [hW2]; exact below_alloc (below_alloc (Below.refl _ _) _) _
  have hk2 : Rk W2 (fun k => ok k ∧ k < N0) q g σ ⟨sn, st, sv, sstep, sw⟩ := by rw [hN0]; exact h.bound.below hB2
  have hx2 : W2.heap[N0]? = some (.cells #[.int .i64 0, .int .u64 0] 39 (0, 0)) := by rw [hW2, hN0]; exact (heap_alloc_old _ _ (by rw [World.size_alloc]; omega)).trans (heap_alloc_new w _)
  have hx3 : W2.heap[b3]? = some (.cells #[.int .i64 0, .int .u64 0] 39 (0, 0)) := by
    have e : b3 = (w.alloc (.cells #[.int .i64 0, .int .u64 0] 39)).heap.size := by rw [hb3, World.size_alloc, hN0]
    rw [hW2, e]
    exact heap_alloc_new _ _
  have hM2 : Mod (TwoB g q) w W2 := Mod.of_below hB2 _
  have hq1 : W2.cell? ⟨q, 1, none⟩ = some (.int .i64 (sn : Nat)) := (blk_cell hk2.blk 1).trans rfl
  have n30 : b3 ≠ N0 := by omega
  have n3q : b3 ≠ q := by omega
  have n0q : N0 ≠ q := by omega
  have n3g : b3 ≠ g := by omega
  have n0g : N0 ≠ g := by omega
  have nb3 : N0 ≤ b3 := by omega
  have hn1 : IntKind.i64.wrap ((sn : Int) + 1) = ((sn + 1 : Nat) : Int) := by rw [IntWalk.i64_in _ (by omega)]; omega
  have HW := Lib.hid (And.intro hW2 (And.intro hN0 hb3))
  have H2 := Lib.hid hk2
  have HX2 := Lib.hid (And.intro hx2 hx3)
  have M2 := Lib.hid hM2
  clear hB2 hk2 hx2 hx3 hM2 hW2 h hN0 hb3 hqw hgq
  by_cases c1 : sn = 0
  · subst c1
    have HF := Lib.hid (fun (W : World) (hK : Rk W (fun k => ok k ∧ k < N0) q g σ ⟨0, st, sv, sstep, sw⟩) => rkfew W _ q g σ _ hK)
    have hub := fewT_bd σ
    have hN : nextT ⟨0, st, sv, sstep, sw⟩ σ = ((zagI (fewT σ).1, (getT 64 (fewT σ).2).1), ⟨1, zagI (fewT σ).1, (getT 64 (fewT σ).2).1, sstep, sw⟩, (getT 64 (fewT σ).2).2) := rfl
    generalize fewT σ = F at HF hub hN
    obtain ⟨u, σ1⟩ := F
    simp only at HF hub hN
    have HG := Lib.hid (fun (W : World) (hK : Rk W (fun k => ok k ∧ k < N0) q g σ1 ⟨0, st, sv, sstep, sw⟩) => rkget W _ q g σ1 _ hK 64 64 (fun _ _ => ⟨rfl, by decide⟩))
    have hvl := getT_lt 64 σ1
    generalize getT 64 σ1 = G at HG hvl hN
    obtain ⟨v, σ2⟩ := G
    simp only at HG hvl hN
    have HZ := Lib.hid (fun W => zag_calls u W hub.1 hub.2)
    obtain ⟨t, ht⟩ : ∃ t, t = zagI u := ⟨_, rfl⟩
    rw [← ht] at hN HZ
    have HN := Lib.hid hN
    clear hN ht
    go_enter Tryd.func33, Tryd.ntmps33
    go_upto_region 2 with fail
    rw [← HW.out.1, ← HW.out.2.1, ← HW.out.2.2]
    go_upto_region 8 with (first
      | (go_at_call 54; refine (HF.out W2 H2.out).mono ?_; rintro e w3 ⟨rfl, h3, m3⟩; have H3 := Lib.hid h3; have X3 := Lib.hid (m3.blk HX2.out.2 (by rintro (h | h) <;> omega)); have Y3 := Lib.hid (m3.blk HX2.out.1 (by rintro (h | h) <;> omega)); have M3 := Lib.hid (M2.out.trans m3 (fun _ _ h => h)); have zc0 : w3.cell? ⟨b3, 0, none⟩ = some (.int .i64 0) := (blk_cell X3.out 0).trans rfl; have fb0 := blk_frozen X3.out 0; clear h3 m3)
      | (go_at_call 53; refine (HZ.out _).mono ?_; rintro e w' ⟨rfl, rfl⟩))
    obtain ⟨W4, hW4⟩ : ∃ W4, W4 = w3.setCell ⟨b3, 0, none⟩ (.int .i64 t) := ⟨_, rfl⟩
    have hm4 : Mod (fun k => k = b3) w3 W4 := by rw [hW4]; exact (Mod.refl (fun k => k = b3) w3).setCell (p := ⟨b3, 0, none⟩) (.inl rfl) _
    have H4 : Hid (Rk W4 (fun k => ok k ∧ k < N0) q g σ1 ⟨0, st, sv, sstep, sw⟩) := Lib.hid (by rw [hW4]; exact H3.out.other _ _ n3q nb3)
    have X4 : Hid (W4.heap[b3]? = some (.cells #[.int .i64 t, .int .u64 0] 39 (0, 0))) := Lib.hid (by rw [hW4]; exact blk_put X3.out 0 _ rfl)
    have Y4 := Lib.hid (hm4.blk Y3.out (fun e => n30 e.symm))
    have M4 : Hid (Mod (TwoB g q) w W4) := Lib.hid (by rw [hW4]; exact M3.out.setCell (p := ⟨b3, 0, none⟩) (.inr (by rw [← HW.out.2.1]; exact nb3)) _)
    rw [← hW4]
    clear hW4 hm4 zc0 fb0
    go_upto_region 13 with (go_at_call 32; refine (HG.out W4 H4.out).mono ?_; rintro e w5 ⟨rfl, h5, m5⟩; have H5 := Lib.hid h5; have X5 := Lib.hid (m5.blk X4.out (by rintro (h | h) <;> omega)); have Y5 := Lib.hid (m5.blk Y4.out (by rintro (h | h) <;> omega)); have M5 := Lib.hid (M4.out.trans m5 (fun _ _ h => h)); have zc1 : w5.cell? ⟨b3, 1, none⟩ = some (.int .u64 0) := (blk_cell X5.out 1).trans rfl; have fb1 := blk_frozen X5.out 1; clear h5 m5)
    obtain ⟨W6, hW6⟩ : ∃ W6, W6 = w5.setCell ⟨b3, 1, none⟩ (.int .u64 (v : Nat)) := ⟨_, rfl⟩
    have hm6 : Mod (fun k => k = b3) w5 W6 := by rw [hW6]; exact (Mod.refl (fun k => k = b3) w5).setCell (p := ⟨b3, 1, none⟩) (.inl rfl) _
    have H6 : Hid (Rk W6 (fun k => ok k ∧ k < N0) q g σ2 ⟨0, st, sv, sstep, sw⟩) := Lib.hid (by rw [hW6]; exact H5.out.other _ _ n3q nb3)
    have X6 : Hid (W6.heap[b3]? = some (.cells #[.int .i64 t, .int .u64 (v : Nat)] 39 (0, 0))) := Lib.hid (by rw [hW6]; exact blk_put X5.out 1 _ rfl)
    have Y6 := Lib.hid (hm6.blk Y5.out (fun e => n30 e.symm))
    have M6 : Hid (Mod (TwoB g q) w W6) := Lib.hid (by rw [hW6]; exact M5.out.setCell (p := ⟨b3, 1, none⟩) (.inr (by rw [← HW.out.2.1]; exact nb3)) _)
    rw [← hW6]
    clear hW6 hm6 zc1 fb1
    have z0 : W6.cell? ⟨b3, 0, none⟩ = some (.int .i64 t) := (blk_cell X6.out 0).trans rfl
    have z1 : W6.cell? ⟨b3, 1, none⟩ = some (.int .u64 (v : Nat)) := (blk_cell X6.out 1).trans rfl
    obtain ⟨u1, zp1⟩ : ∃ u1, W6.cell? ⟨q, 1, none⟩ = some (.int .i64 (0 : Nat)) ∧ u1 = 0 := ⟨0, (blk_cell H6.out.blk 1).trans rfl, rfl⟩
    obtain ⟨zp1, _⟩ := zp1
    obtain ⟨u2, zp2⟩ : ∃ u2, W6.cell? ⟨q, 2, none⟩ = some u2 := ⟨_, (blk_cell H6.out.blk 2).trans rfl⟩
    obtain ⟨u3, zp3⟩ : ∃ u3, W6.cell? ⟨q, 3, none⟩ = some u3 := ⟨_, (blk_cell H6.out.blk 3).trans rfl⟩
    have f1 := blk_frozen H6.out.blk 1
    have f2 := blk_frozen H6.out.blk 2
    have f3 := blk_frozen H6.out.blk 3
    go_upto_region 15 with fail
    obtain ⟨h8, m8⟩ := H6.out.lastly t v (0 + 1)
    obtain ⟨W8, hW8⟩ : ∃ W8, W8 = ((W6.setCell ⟨q, 2, none⟩ (.int .i64 t)).setCell ⟨q, 3, none⟩ (.int .u64 (v : Nat))).setCell ⟨q, 1, none⟩ (.int .i64 (1)) := ⟨_, rfl⟩
    rw [← hW8]
    have eW8 : ((W6.setCell ⟨q, 2, none⟩ (.int .i64 t)).setCell ⟨q, 3, none⟩ (.int .u64 (v : Nat))).setCell ⟨q, 1, none⟩ (.int .i64 ((0 + 1 : Nat))) = W8 := hW8.symm
    rw [eW8] at h8 m8
    have x8 := m8.blk X6.out (by rintro (h | h) <;> omega)
    have y8 := m8.blk Y6.out (by rintro (h | h) <;> omega)
    have H8 := Lib.hid h8
    have M8 := Lib.hid (M6.out.trans m8 (fun _ _ h => h))
    have z8 : W8.cell? ⟨b3, 0, none⟩ = some (.int .i64 t) := (blk_cell x8 0).trans rfl
    have z9 : W8.cell? ⟨b3, 1, none⟩ = some (.int .u64 (v : Nat)) := (blk_cell x8 1).trans rfl
    have v8 : W8.cell? ⟨N0, 0, none⟩ = some (.int .i64 0) := (blk_cell y8 0).trans rfl
    have v9 : W8.cell? ⟨N0, 1, none⟩ = some (.int .u64 0) := (blk_cell y8 1).trans rfl
    have g0 := blk_frozen y8 0
    have g1 := blk_frozen y8 1
    have Y8 := Lib.hid y8
    clear h8 m8 x8 y8 hW8 eW8 z0 z1 zp1 zp2 zp3 f1 f2 f3
    go_wp2
    refine bodyPost_ret (results_cell_row rfl _ _ N0 39 #[.int .i64 t, .int .u64 (v : Nat)] (0, 0) _ rfl (blk_put (blk_put Y8.out 0 _ rfl) 1 _ rfl) Tryd.underlying39 rfl (by kernel_rfl)) rfl ?_
    have h9 := ((H8.out.other ⟨N0, 0, none⟩ (.int .i64 t) n0q (Nat.le_refl _)).other ⟨N0, 1, none⟩ (.int .u64 (v : Nat)) n0q (Nat.le_refl _)).back (fun k hk => hk.1) HQ.out
    have hN0w : w.heap.size = N0 := by rw [HW.out.2.1]
    have m9 := (M8.out.setCell (p := ⟨N0, 0, none⟩) (.inr (Nat.le_of_eq hN0w)) (.int .i64 t)).setCell (p := ⟨N0, 1, none⟩) (.inr (Nat.le_of_eq hN0w)) (.int .u64 (v : Nat))
    rw [HN.out]
    exact ⟨rfl, h9, m9⟩
  · by_cases c2 : sn = 1
    · subst c2
      have HF := Lib.hid (fun (W : World) (hK : Rk W (fun k => ok k ∧ k < N0) q g σ ⟨1, st, sv, sstep, sw⟩) => rkfew W _ q g σ _ hK)
      have hub := fewT_bd σ
      have hN : nextT ⟨1, st, sv, sstep, sw⟩ σ = ((wrap64 (st + (fewT σ).1), sv ^^^ (turnT sw (fewT σ).2).1), ⟨2, wrap64 (st + (fewT σ).1), sv ^^^ (turnT sw (fewT σ).2).1, (fewT σ).1.toNat, (turnT sw (fewT σ).2).2.1⟩, (turnT sw (fewT σ).2).2.2) := rfl
      generalize fewT σ = F at HF hub hN
      obtain ⟨u, σ1⟩ := F
      simp only at HF hub hN
      obtain ⟨stp, rfl⟩ := Int.eq_ofNat_of_zero_le hub.1
      rw [Int.toNat_natCast] at hN
      have hsl : stp < 18446744073709551616 := by omega
      clear hub
      have HTN := Lib.hid (fun (W : World) (hK : Rk W (fun k => ok k ∧ k < N0) q g σ1 ⟨1, st, sv, stp, sw⟩) => rkturn W _ q g σ1 _ hK hw)
      have hxl := (turnT_bd sw σ1 hw).1
      generalize turnT sw σ1 = T at HTN hxl hN
      obtain ⟨x, w2, σ2⟩ := T
      simp only at HTN hxl hN
      obtain ⟨v, hv2⟩ : ∃ v, v = sv ^^^ x := ⟨_, rfl⟩
      have hxo : bits .xor .u64 (sv : Int) (x : Int) = (v : Int) := by rw [hv2]; exact xor_u sv x hv hxl
      rw [← hv2] at hN
      clear hv2
      obtain ⟨t, ht⟩ : ∃ t, t = wrap64 (st + stp) := ⟨_, rfl⟩
      have ht1 : wrap64 (IntKind.u64.wrap (IntKind.u64.wrap st + (stp : Int))) = t := by rw [ht]; exact t_add st stp
      have ht2 : IntKind.i64.wrap (IntKind.u64.wrap (IntKind.u64.wrap st + (stp : Int))) = t := by rw [← ht1, IntKind.wrap_i64]; unfold wrap64; omega
      rw [← ht] at hN
      have HN := Lib.hid hN
      clear hN ht
      go_enter Tryd.func33, Tryd.ntmps33
      go_upto_region 2 with fail
      rw [← HW.out.1, ← HW.out.2.1, ← HW.out.2.2]
      go_upto_region 11 with (go_at_call 54; refine (HF.out W2 H2.out).mono ?_; rintro e w3 ⟨rfl, h3, m3⟩; have H3 := Lib.hid h3; have X3 := Lib.hid (m3.blk HX2.out.2 (by rintro (h | h) <;> omega)); have Y3 := Lib.hid (m3.blk HX2.out.1 (by rintro (h | h) <;> omega)); have M3 := Lib.hid (M2.out.trans m3 (fun _ _ h => h)); obtain ⟨u4, zc4⟩ : ∃ u4, w3.cell? ⟨q, 4, none⟩ = some u4 := ⟨_, (blk_cell h3.blk 4).trans rfl⟩; have fb4 := blk_frozen h3.blk 4; clear h3 m3)
      obtain ⟨W5, hW5⟩ : ∃ W5, W5 = w3.setCell ⟨q, 4, none⟩ (.int .u64 (stp : Nat)) := ⟨_, rfl⟩
      obtain ⟨h5, m5⟩ := H3.out.stepped stp
      rw [← hW5] at h5 m5 ⊢
      have H5 := Lib.hid h5
      have X5 := Lib.hid (m5.blk X3.out (by rintro (h | h) <;> omega))
      have Y5 := Lib.hid (m5.blk Y3.out (by rintro (h | h) <;> omega))
      have M5 := Lib.hid (M3.out.trans m5 (fun _ _ h => h))
      clear h5 m5 hW5 zc4 fb4
      have HD5 := Lib.hid (H5.out.drewN 1)
      have hdr : W5.drewN 1 = W5.drew := rfl
      rw [hdr] at HD5
      have XD5 : Hid (W5.drew.heap[b3]? = some (.cells #[.int .i64 0, .int .u64 0] 39 (0, 0))) := Lib.hid X5.out
      clear hdr
      have p2 : W5.drew.cell? ⟨q, 2, none⟩ = some (.int .i64 st) := (blk_cell HD5.out.blk 2).trans rfl
      have p4 : W5.drew.cell? ⟨q, 4, none⟩ = some (.int .u64 (stp : Nat)) := (blk_cell HD5.out.blk 4).trans rfl
      have zc0 : W5.drew.cell? ⟨b3, 0, none⟩ = some (.int .i64 0) := (blk_cell XD5.out 0).trans rfl
      have fb0 := blk_frozen XD5.out 0
      have zd0 : W5.cell? ⟨b3, 0, none⟩ = some (.int .i64 0) := zc0
      have fd0 : W5.frozen? ⟨b3, 0, none⟩ = false := fb0
      go_upto_region 11 with fail
      refine start_ (n := 16) (S := fun w' => w'.cell? ⟨q, 2, none⟩ = some (.int .i64 st) ∧ w'.cell? ⟨q, 4, none⟩ = some (.int .u64 (stp : Nat))) (ds := [15]) #[false, false, false, false, false, false, false, false, false, false, false, false, false, false, false, false] (by kernel_rfl) rfl rfl ⟨p2, p4⟩ (fun hHeld => ?_)
      refine pure_ (i := 0) (N := some 64) (v := ?_) (a' := ?_) #[true, false, false, false, false, false, false, false, false, false, false, false, false, false, false, false] rfl rfl (by kernel_rfl) (fun _ _ _ h => h) (Or.inl ⟨by rfl, ?_⟩) ?_ ?_
      rotate_left
      · intro w'
        go_simp
        with_reducible rfl
      rotate_left
      · simp only [Act.put, List.setIfInBounds_toArray, List.set_cons_zero, List.set_cons_succ, i64_w, i32_w]
        rfl
      refine pure_ (i := 1) (N := some 65) (v := ?_) (a' := ?_) #[true, true, false, false, false, false, false, false, false, false, false, false, false, false, false, false] rfl rfl (by kernel_rfl) (fun _ _ _ h => h) (Or.inl ⟨by rfl, ?_⟩) ?_ ?_
      rotate_left
      · intro w'
        go_simp
        with_reducible rfl
      rotate_left
      · simp only [Act.put, List.setIfInBounds_toArray, List.set_cons_zero, List.set_cons_succ, i64_w, i32_w]
        rfl
      refine pure_ (i := 2) (N := some 66) (v := ?_) (a' := ?_) #[true, true, true, false, false, false, false, false, false, false, false, false, false, false, false, false] rfl rfl (by kernel_rfl) (fun _ _ _ h => h) (Or.inl ⟨by rfl, ?_⟩) ?_ ?_
      rotate_left
      · intro w'
        go_simp
        with_reducible rfl
      rotate_left
      · simp only [Act.put, List.setIfInBounds_toArray, List.set_cons_zero, List.set_cons_succ, i64_w, i32_w]
        rfl
      refine pure_ (i := 3) (N := some 67) (v := ?_) (a' := ?_) #[true, true, true, true, false, false, false, false, false, false, false, false, false, false, false, false] rfl rfl (by kernel_rfl) (fun _ _ _ h => h) (Or.inl ⟨by rfl, ?_⟩) ?_ ?_
      rotate_left
      · intro w'
        go_simp
        with_reducible rfl
      rotate_left
      · simp only [Act.put, List.setIfInBounds_toArray, List.set_cons_zero, List.set_cons_succ, i64_w, i32_w]
        rfl
      refine pure_ (i := 4) (N := some 68) (v := ?_) (a' := ?_) #[true, true, true, true, true, false, false, false, false, false, false, false, false, false, false, false] rfl rfl (by kernel_rfl) (fun _ _ _ h => h) (Or.inl ⟨by rfl, ?_⟩) ?_ ?_
      rotate_left
      · intro w'
        go_simp
        with_reducible rfl
      rotate_left
      · simp only [Act.put, List.setIfInBounds_toArray, List.set_cons_zero, List.set_cons_succ, i64_w, i32_w]
        rfl
      refine pure_ (i := 7) (N := some 71) (v := ?_) (a' := ?_) #[true, true, true, true, true, false, false, true, false, false, false, false, false, false, false, false] rfl rfl (by kernel_rfl) (fun _ _ _ h => h) (Or.inl ⟨by rfl, ?_⟩) ?_ ?_
      rotate_left
      · intro w'
        go_simp
        with_reducible rfl
      rotate_left
      · simp only [Act.put, List.setIfInBounds_toArray, List.set_cons_zero, List.set_cons_succ, i64_w, i32_w]
        rfl
      refine pure_ (i := 8) (N := some 72) (v := ?_) (a' := ?_) #[true, true, true, true, true, false, false, true, true, false, false, false, false, false, false, false] rfl rfl (by kernel_rfl) (fun _ _ _ h => h) (Or.inl ⟨by rfl, ?_⟩) ?_ ?_
      rotate_left
      · intro w'
        go_simp
        with_reducible rfl
      rotate_left
      · simp only [Act.put, List.setIfInBounds_toArray, List.set_cons_zero, List.set_cons_succ, i64_w, i32_w]
        rfl
      refine pure_ (i := 9) (N := some 73) (v := ?_) (a' := ?_) #[true, true, true, true, true, false, false, true, true, true, false, false, false, false, false, false] rfl rfl (by kernel_rfl) (fun _ _ _ h => h) (Or.inl ⟨by rfl, ?_⟩) ?_ ?_
      rotate_left
      · intro w'
        go_simp
        with_reducible rfl
      rotate_left
      · simp only [Act.put, List.setIfInBounds_toArray, List.set_cons_zero, List.set_cons_succ, i64_w, i32_w]
        rfl
      refine pure_ (i := 10) (N := some 74) (v := ?_) (a' := ?_) #[true, true, true, true, true, false, false, true, true, true, true, false, false, false, false, false] rfl rfl (by kernel_rfl) (fun _ _ _ h => h) (Or.inl ⟨by rfl, ?_⟩) ?_ ?_
      rotate_left
      · intro w'
        go_simp
        with_reducible rfl
      rotate_left
      · simp only [Act.put, List.setIfInBounds_toArray, List.set_cons_zero, List.set_cons_succ, i64_w, i32_w]
        rfl
      refine take_ (i := 5) (N := some 69) (v := ?_) (a' := ?_) #[true, true, true, true, true, true, false, true, true, true, true, false, false, false, false, false] rfl rfl (by kernel_rfl) (fun _ _ _ h => h) (Or.inl ⟨by rfl, ?_⟩) hHeld ?_ ?_
      rotate_left
      · rintro w' ⟨s0, s1⟩
        go_simp
        with_reducible rfl
      rotate_left
      · simp only [Act.put, List.setIfInBounds_toArray, List.set_cons_zero, List.set_cons_succ, i64_w, i32_w]
        rfl
      refine pure_ (i := 6) (N := some 70) (v := ?_) (a' := ?_) #[true, true, true, true, true, true, true, true, true, true, true, false, false, false, false, false] rfl rfl (by kernel_rfl) (fun _ _ _ h => h) (Or.inl ⟨by rfl, ?_⟩) ?_ ?_
      rotate_left
      · intro w'
        go_simp
        with_reducible rfl
      rotate_left
      · simp only [Act.put, List.setIfInBounds_toArray, List.set_cons_zero, List.set_cons_succ, i64_w, i32_w]
        rfl
      refine take_ (i := 11) (N := some 75) (v := ?_) (a' := ?_) #[true, true, true, true, true, true, true, true, true, true, true, true, false, false, false, false] rfl rfl (by kernel_rfl) (fun _ _ _ h => h) (Or.inl ⟨by rfl, ?_⟩) hHeld ?_ ?_
      rotate_left
      · rintro w' ⟨s0, s1⟩
        go_simp
        with_reducible rfl
      rotate_left
      · simp only [Act.put, List.setIfInBounds_toArray, List.set_cons_zero, List.set_cons_succ, i64_w, i32_w]
        rfl
      refine pure_ (i := 12) (N := some 76) (v := ?_) (a' := ?_) #[true, true, true, true, true, true, true, true, true, true, true, true, true, false, false, false] rfl rfl (by kernel_rfl) (fun _ _ _ h => h) (Or.inl ⟨by rfl, ?_⟩) ?_ ?_
      rotate_left
      · intro w'
        go_simp
        with_reducible rfl
      rotate_left
      · simp only [Act.put, List.setIfInBounds_toArray, List.set_cons_zero, List.set_cons_succ, i64_w, i32_w]
        rfl
      refine pure_ (i := 13) (N := some 77) (v := ?_) (a' := ?_) #[true, true, true, true, true, true, true, true, true, true, true, true, true, true, false, false] rfl rfl (by kernel_rfl) (fun _ _ _ h => h) (Or.inl ⟨by rfl, ?_⟩) ?_ ?_
      rotate_left
      · intro w'
        go_simp
        with_reducible rfl
      rotate_left
      · simp only [Act.put, List.setIfInBounds_toArray, List.set_cons_zero, List.set_cons_succ, i64_w, i32_w]
        rfl
      refine pure_ (i := 14) (N := some 78) (v := ?_) (a' := ?_) #[true, true, true, true, true, true, true, true, true, true, true, true, true, true, true, false] rfl rfl (by kernel_rfl) (fun _ _ _ h => h) (Or.inl ⟨by rfl, ?_⟩) ?_ ?_
      rotate_left
      · intro w'
        go_simp
        with_reducible rfl
      rotate_left
      · simp only [Act.put, List.setIfInBounds_toArray, List.set_cons_zero, List.set_cons_succ, i64_w, i32_w]
        rfl
      refine last_ (i := 15) (N := none) #[true, true, true, true, true, true, true, true, true, true, true, true, true, true, true, true] rfl rfl (by kernel_rfl) (by decide) (fun K hK => ?_)
      refine skip_ (w1 := ?_) (by rfl) rfl ?_ ?_
      rotate_left
      · go_simp
        rfl
      refine hK.out _ _ ?_
      clear hK K
      refine done_ (by kernel_rfl) ?_
      obtain ⟨W6, hW6⟩ : ∃ W6, W6 = (W5.setCell ⟨b3, 0, none⟩ (.int .i64 t)).drew := ⟨_, rfl⟩
      have hm6 : Mod (fun k => k = b3) W5 W6 := by rw [hW6]; exact ((Mod.refl (fun k => k = b3) W5).setCell (p := ⟨b3, 0, none⟩) (.inl rfl) _).drew
      have H6 : Hid (Rk W6 (fun k => ok k ∧ k < N0) q g σ1 ⟨1, st, sv, stp, sw⟩) := Lib.hid (by rw [hW6]; exact (H5.out.other ⟨b3, 0, none⟩ (.int .i64 t) n3q nb3).drewN 1)
      have X6 : Hid (W6.heap[b3]? = some (.cells #[.int .i64 t, .int .u64 0] 39 (0, 0))) := Lib.hid (by rw [hW6]; exact blk_put X5.out 0 (.int .i64 t) rfl)
      have Y6 := Lib.hid (hm6.blk Y5.out (fun e => n30 e.symm))
      have M6 : Hid (Mod (TwoB g q) w W6) := Lib.hid (by rw [hW6]; exact (M5.out.setCell (p := ⟨b3, 0, none⟩) (.inr (by rw [← HW.out.2.1]; exact nb3)) _).drew)
      rw [← hW6]
      clear hW6 hm6 zc0 fb0 zd0 fd0 p2 p4
      have HD6 := Lib.hid (H6.out.drewN 1)
      have hdr : W6.drewN 1 = W6.drew := rfl
      rw [hdr] at HD6
      clear hdr
      have p3 : W6.drew.cell? ⟨q, 3, none⟩ = some (.int .u64 (sv : Nat)) := (blk_cell HD6.out.blk 3).trans rfl
      go_upto_region 12 with fail
      refine start_ (n := 11) (S := fun w' => w'.cell? ⟨q, 3, none⟩ = some (.int .u64 (sv : Nat))) (ds := [10]) #[false, false, false, false, false, false, false, false, false, false, false] (by kernel_rfl) rfl rfl (p3) (fun hHeld => ?_)
      refine pure_ (i := 0) (N := some 79) (v := ?_) (a' := ?_) #[true, false, false, false, false, false, false, false, false, false, false] rfl rfl (by kernel_rfl) (fun _ _ _ h => h) (Or.inl ⟨by rfl, ?_⟩) ?_ ?_
      rotate_left
      · intro w'
        go_simp
        with_reducible rfl
      rotate_left
      · simp only [Act.put, List.setIfInBounds_toArray, List.set_cons_zero, List.set_cons_succ, i64_w, i32_w]
        rfl
      refine pure_ (i := 1) (N := some 80) (v := ?_) (a' := ?_) #[true, true, false, false, false, false, false, false, false, false, false] rfl rfl (by kernel_rfl) (fun _ _ _ h => h) (Or.inl ⟨by rfl, ?_⟩) ?_ ?_
      rotate_left
      · intro w'
        go_simp
        with_reducible rfl
      rotate_left
      · simp only [Act.put, List.setIfInBounds_toArray, List.set_cons_zero, List.set_cons_succ, i64_w, i32_w]
        rfl
      refine pure_ (i := 2) (N := some 81) (v := ?_) (a' := ?_) #[true, true, true, false, false, false, false, false, false, false, false] rfl rfl (by kernel_rfl) (fun _ _ _ h => h) (Or.inl ⟨by rfl, ?_⟩) ?_ ?_
      rotate_left
      · intro w'
        go_simp
        with_reducible rfl
      rotate_left
      · simp only [Act.put, List.setIfInBounds_toArray, List.set_cons_zero, List.set_cons_succ, i64_w, i32_w]
        rfl
      refine pure_ (i := 3) (N := some 82) (v := ?_) (a' := ?_) #[true, true, true, true, false, false, false, false, false, false, false] rfl rfl (by kernel_rfl) (fun _ _ _ h => h) (Or.inl ⟨by rfl, ?_⟩) ?_ ?_
      rotate_left
      · intro w'
        go_simp
        with_reducible rfl
      rotate_left
      · simp only [Act.put, List.setIfInBounds_toArray, List.set_cons_zero, List.set_cons_succ, i64_w, i32_w]
        rfl
      refine pure_ (i := 4) (N := some 83) (v := ?_) (a' := ?_) #[true, true, true, true, true, false, false, false, false, false, false] rfl rfl (by kernel_rfl) (fun _ _ _ h => h) (Or.inl ⟨by rfl, ?_⟩) ?_ ?_
      rotate_left
      · intro w'
        go_simp
        with_reducible rfl
      rotate_left
      · simp only [Act.put, List.setIfInBounds_toArray, List.set_cons_zero, List.set_cons_succ, i64_w, i32_w]
        rfl
      refine pure_ (i := 6) (N := some 85) (v := ?_) (a' := ?_) #[true, true, true, true, true, false, true, false, false, false, false] rfl rfl (by kernel_rfl) (fun _ _ _ h => h) (Or.inl ⟨by rfl, ?_⟩) ?_ ?_
      rotate_left
      · intro w'
        go_simp
        with_reducible rfl
      rotate_left
      · simp only [Act.put, List.setIfInBounds_toArray, List.set_cons_zero, List.set_cons_succ, i64_w, i32_w]
        rfl
      refine take_ (i := 5) (N := some 84) (v := ?_) (a' := ?_) #[true, true, true, true, true, true, true, false, false, false, false] rfl rfl (by kernel_rfl) (fun _ _ _ h => h) (Or.inl ⟨by rfl, ?_⟩) hHeld ?_ ?_
      rotate_left
      · intro w' s0
        go_simp
        with_reducible rfl
      rotate_left
      · simp only [Act.put, List.setIfInBounds_toArray, List.set_cons_zero, List.set_cons_succ, i64_w, i32_w]
        rfl
      refine one_ (i := 7) (N := some 86) #[true, true, true, true, true, true, true, true, false, false, false] rfl rfl (by kernel_rfl) (by decide) (fun K hK => ?_)
      refine goes_ Tryd.func55 (by kernel_rfl) rfl #[.pointer (some ⟨q, 0, none⟩)] (by rfl) rfl rfl (by simp only [List.map_toArray, List.map_cons, List.map_nil]; rfl) ?_
      with_reducible refine (HTN.out W6.drew HD6.out).mono ?_
      rintro e w7 ⟨rfl, h7, m7⟩
      refine ⟨_, rfl, ?_⟩
      have g3 : w7.cell? ⟨q, 3, none⟩ = some (.int .u64 (sv : Nat)) := (blk_cell h7.blk 3).trans rfl
      have H7 := Lib.hid h7
      have X7 := Lib.hid (m7.blk (w := W6.drew) X6.out (by rintro (h | h) <;> omega))
      have Y7 := Lib.hid (m7.blk (w := W6.drew) Y6.out (by rintro (h | h) <;> omega))
      have M7 := Lib.hid (M6.out.drew.trans m7 (fun _ _ h => h))
      have zc1 : w7.cell? ⟨b3, 1, none⟩ = some (.int .u64 0) := (blk_cell X7.out 1).trans rfl
      have fb1 := blk_frozen X7.out 1
      clear h7 m7
      refine hK.out _ _ (g3) (fun hHeld => ?_)
      clear hK K
      refine norm_ (a' := ?_) ?_ ?_
      rotate_left
      · show Act.put _ (some 86) _ = _
        simp only [Act.put, List.setIfInBounds_toArray, List.set_cons_zero, List.set_cons_succ, i64_w, i32_w]
        rfl
      refine pure_ (i := 8) (N := some 87) (v := ?_) (a' := ?_) #[true, true, true, true, true, true, true, true, true, false, false] rfl rfl (by kernel_rfl) (fun _ _ _ h => h) (Or.inl ⟨by rfl, ?_⟩) ?_ ?_
      rotate_left
      · intro w'
        go_simp
        with_reducible rfl
      rotate_left
      · simp only [Act.put, List.setIfInBounds_toArray, List.set_cons_zero, List.set_cons_succ, i64_w, i32_w]
        rfl
      refine pure_ (i := 9) (N := some 88) (v := ?_) (a' := ?_) #[true, true, true, true, true, true, true, true, true, true, false] rfl rfl (by kernel_rfl) (fun _ _ _ h => h) (Or.inl ⟨by rfl, ?_⟩) ?_ ?_
      rotate_left
      · intro w'
        go_simp
        with_reducible rfl
      rotate_left
      · simp only [Act.put, List.setIfInBounds_toArray, List.set_cons_zero, List.set_cons_succ, i64_w, i32_w]
        rfl
      refine last_ (i := 10) (N := none) #[true, true, true, true, true, true, true, true, true, true, true] rfl rfl (by kernel_rfl) (by decide) (fun K hK => ?_)
      refine skip_ (w1 := ?_) (by rfl) rfl ?_ ?_
      rotate_left
      · go_simp
        rfl
      refine hK.out _ _ ?_
      clear hK K
      refine done_ (by kernel_rfl) ?_
      obtain ⟨W8a, hW8a⟩ : ∃ W8a, W8a = w7.setCell ⟨b3, 1, none⟩ (.int .u64 (v : Nat)) := ⟨_, rfl⟩
      have hm8 : Mod (fun k => k = b3) w7 W8a := by rw [hW8a]; exact (Mod.refl (fun k => k = b3) w7).setCell (p := ⟨b3, 1, none⟩) (.inl rfl) _
      have H8a : Hid (Rk W8a (fun k => ok k ∧ k < N0) q g σ2 ⟨1, st, sv, stp, w2⟩) := Lib.hid (by rw [hW8a]; exact H7.out.other _ _ n3q nb3)
      have X8 : Hid (W8a.heap[b3]? = some (.cells #[.int .i64 t, .int .u64 (v : Nat)] 39 (0, 0))) := Lib.hid (by rw [hW8a]; exact blk_put X7.out 1 _ rfl)
      have Y8a := Lib.hid (hm8.blk Y7.out (fun e => n30 e.symm))
      have M8a : Hid (Mod (TwoB g q) w W8a) := Lib.hid (by rw [hW8a]; exact M7.out.setCell (p := ⟨b3, 1, none⟩) (.inr (by rw [← HW.out.2.1]; exact nb3)) _)
      rw [← hW8a]
      clear hW8a hm8 zc1 fb1
      have z0 : W8a.cell? ⟨b3, 0, none⟩ = some (.int .i64 t) := (blk_cell X8.out 0).trans rfl
      have z1 : W8a.cell? ⟨b3, 1, none⟩ = some (.int .u64 (v : Nat)) := (blk_cell X8.out 1).trans rfl
      obtain ⟨u1, zp1⟩ : ∃ u1, W8a.cell? ⟨q, 1, none⟩ = some (.int .i64 (1 : Nat)) ∧ u1 = 0 := ⟨0, (blk_cell H8a.out.blk 1).trans rfl, rfl⟩
      obtain ⟨zp1, _⟩ := zp1
      obtain ⟨u2, zp2⟩ : ∃ u2, W8a.cell? ⟨q, 2, none⟩ = some u2 := ⟨_, (blk_cell H8a.out.blk 2).trans rfl⟩
      obtain ⟨u3, zp3⟩ : ∃ u3, W8a.cell? ⟨q, 3, none⟩ = some u3 := ⟨_, (blk_cell H8a.out.blk 3).trans rfl⟩
      have f1 := blk_frozen H8a.out.blk 1
      have f2 := blk_frozen H8a.out.blk 2
      have f3 := blk_frozen H8a.out.blk 3
      go_upto_region 15 with fail
      obtain ⟨h8, m8⟩ := H8a.out.lastly t v (1 + 1)
      obtain ⟨W8, hW8⟩ : ∃ W8, W8 = ((W8a.setCell ⟨q, 2, none⟩ (.int .i64 t)).setCell ⟨q, 3, none⟩ (.int .u64 (v : Nat))).setCell ⟨q, 1, none⟩ (.int .i64 (2)) := ⟨_, rfl⟩
      rw [← hW8]
      have eW8 : ((W8a.setCell ⟨q, 2, none⟩ (.int .i64 t)).setCell ⟨q, 3, none⟩ (.int .u64 (v : Nat))).setCell ⟨q, 1, none⟩ (.int .i64 ((1 + 1 : Nat))) = W8 := hW8.symm
      rw [eW8] at h8 m8
      have x8 := m8.blk X8.out (by rintro (h | h) <;> omega)
      have y8 := m8.blk Y8a.out (by rintro (h | h) <;> omega)
      have H8 := Lib.hid h8
      have M8 := Lib.hid (M8a.out.trans m8 (fun _ _ h => h))
      have z8 : W8.cell? ⟨b3, 0, none⟩ = some (.int .i64 t) := (blk_cell x8 0).trans rfl
      have z9 : W8.cell? ⟨b3, 1, none⟩ = some (.int .u64 (v : Nat)) := (blk_cell x8 1).trans rfl
      have v8 : W8.cell? ⟨N0, 0, none⟩ = some (.int .i64 0) := (blk_cell y8 0).trans rfl
      have v9 : W8.cell? ⟨N0, 1, none⟩ = some (.int .u64 0) := (blk_cell y8 1).trans rfl
      have g0 := blk_frozen y8 0
      have g1 := blk_frozen y8 1
      have Y8 := Lib.hid y8
      clear h8 m8 x8 y8 hW8 eW8 z0 z1 zp1 zp2 zp3 f1 f2 f3
      go_wp2
      refine bodyPost_ret (results_cell_row rfl _ _ N0 39 #[.int .i64 t, .int .u64 (v : Nat)] (0, 0) _ rfl (blk_put (blk_put Y8.out 0 _ rfl) 1 _ rfl) Tryd.underlying39 rfl (by kernel_rfl)) rfl ?_
      have h9 := ((H8.out.other ⟨N0, 0, none⟩ (.int .i64 t) n0q (Nat.le_refl _)).other ⟨N0, 1, none⟩ (.int .u64 (v : Nat)) n0q (Nat.le_refl _)).back (fun k hk => hk.1) HQ.out
      have hN0w : w.heap.size = N0 := by rw [HW.out.2.1]
      have m9 := (M8.out.setCell (p := ⟨N0, 0, none⟩) (.inr (Nat.le_of_eq hN0w)) (.int .i64 t)).setCell (p := ⟨N0, 1, none⟩) (.inr (Nat.le_of_eq hN0w)) (.int .u64 (v : Nat))
      rw [HN.out]
      exact ⟨rfl, h9, m9⟩
    · have k1 : ((sn : Int) == 0) = false := beq_false_of_ne (by omega)
      have k2 : ((sn : Int) == 1) = false := beq_false_of_ne (by omega)
      have HC := Lib.hid (fun (W : World) (hK : Rk W (fun k => ok k ∧ k < N0) q g σ ⟨sn, st, sv, sstep, sw⟩) => rkchange W _ q g σ _ hK)
      have hN : nextT ⟨sn, st, sv, sstep, sw⟩ σ = ((wrap64 (st + u64 (sstep + (changeT [0, 14, 17, 20] σ).1)), sv ^^^ (turnT sw (changeT [0, 14, 17, 20] σ).2).1),
          ⟨sn + 1, wrap64 (st + u64 (sstep + (changeT [0, 14, 17, 20] σ).1)), sv ^^^ (turnT sw (changeT [0, 14, 17, 20] σ).2).1, u64 (sstep + (changeT [0, 14, 17, 20] σ).1), (turnT sw (changeT [0, 14, 17, 20] σ).2).2.1⟩, (turnT sw (changeT [0, 14, 17, 20] σ).2).2.2) := by
        unfold nextT
        rw [if_neg c1, if_neg c2]
      generalize changeT [0, 14, 17, 20] σ = F at HC hN
      obtain ⟨dd, σ1⟩ := F
      simp only at HC hN
      obtain ⟨stp, hstp⟩ : ∃ stp, stp = u64 (sstep + dd) := ⟨_, rfl⟩
      have hsl : stp < 18446744073709551616 := by rw [hstp]; exact u64_lt _
      have hse : IntKind.u64.wrap ((sstep : Int) + IntKind.u64.wrap dd) = (stp : Int) := by rw [hstp]; exact step_add sstep dd
      rw [← hstp] at hN
      clear hstp
      have HTN := Lib.hid (fun (W : World) (hK : Rk W (fun k => ok k ∧ k < N0) q g σ1 ⟨sn, st, sv, stp, sw⟩) => rkturn W _ q g σ1 _ hK hw)
      have hxl := (turnT_bd sw σ1 hw).1
      generalize turnT sw σ1 = T at HTN hxl hN
      obtain ⟨x, w2, σ2⟩ := T
      simp only at HTN hxl hN
      obtain ⟨v, hv2⟩ : ∃ v, v = sv ^^^ x := ⟨_, rfl⟩
      have hxo : bits .xor .u64 (sv : Int) (x : Int) = (v : Int) := by rw [hv2]; exact xor_u sv x hv hxl
      rw [← hv2] at hN
      clear hv2
      obtain ⟨t, ht⟩ : ∃ t, t = wrap64 (st + stp) := ⟨_, rfl⟩
      have ht1 : wrap64 (IntKind.u64.wrap (IntKind.u64.wrap st + (stp : Int))) = t := by rw [ht]; exact t_add st stp
      have ht2 : IntKind.i64.wrap (IntKind.u64.wrap (IntKind.u64.wrap st + (stp : Int))) = t := by rw [← ht1, IntKind.wrap_i64]; unfold wrap64; omega
      rw [← ht] at hN
      have HN := Lib.hid hN
      clear hN ht
      go_enter Tryd.func33, Tryd.ntmps33
      go_upto_region 2 with fail
      rw [← HW.out.1, ← HW.out.2.1, ← HW.out.2.2]
      have HD2 := Lib.hid (H2.out.drewN 1)
      have hdr : W2.drewN 1 = W2.drew := rfl
      rw [hdr] at HD2
      clear hdr
      have p4 : W2.drew.cell? ⟨q, 4, none⟩ = some (.int .u64 (sstep : Nat)) := (blk_cell HD2.out.blk 4).trans rfl
      go_upto_region 3 with fail
      refine start_ (n := 13) (S := fun w' => w'.cell? ⟨q, 4, none⟩ = some (.int .u64 (sstep : Nat))) (ds := [12]) #[false, false, false, false, false, false, false, false, false, false, false, false, false] (by kernel_rfl) rfl rfl (p4) (fun hHeld => ?_)
      refine pure_ (i := 0) (N := some 10) (v := ?_) (a' := ?_) #[true, false, false, false, false, false, false, false, false, false, false, false, false] rfl rfl (by kernel_rfl) (fun _ _ _ h => h) (Or.inl ⟨by rfl, ?_⟩) ?_ ?_
      rotate_left
      · intro w'
        go_simp
        with_reducible rfl
      rotate_left
      · simp only [Act.put, List.setIfInBounds_toArray, List.set_cons_zero, List.set_cons_succ, i64_w, i32_w]
        rfl
      refine pure_ (i := 1) (N := some 11) (v := ?_) (a' := ?_) #[true, true, false, false, false, false, false, false, false, false, false, false, false] rfl rfl (by kernel_rfl) (fun _ _ _ h => h) (Or.inl ⟨by rfl, ?_⟩) ?_ ?_
      rotate_left
      · intro w'
        go_simp
        with_reducible rfl
      rotate_left
      · simp only [Act.put, List.setIfInBounds_toArray, List.set_cons_zero, List.set_cons_succ, i64_w, i32_w]
        rfl
      refine pure_ (i := 2) (N := some 12) (v := ?_) (a' := ?_) #[true, true, true, false, false, false, false, false, false, false, false, false, false] rfl rfl (by kernel_rfl) (fun _ _ _ h => h) (Or.inl ⟨by rfl, ?_⟩) ?_ ?_
      rotate_left
      · intro w'
        go_simp
        with_reducible rfl
      rotate_left
      · simp only [Act.put, List.setIfInBounds_toArray, List.set_cons_zero, List.set_cons_succ, i64_w, i32_w]
        rfl
      refine pure_ (i := 3) (N := some 13) (v := ?_) (a' := ?_) #[true, true, true, true, false, false, false, false, false, false, false, false, false] rfl rfl (by kernel_rfl) (fun _ _ _ h => h) (Or.inl ⟨by rfl, ?_⟩) ?_ ?_
      rotate_left
      · intro w'
        go_simp
        with_reducible rfl
      rotate_left
      · simp only [Act.put, List.setIfInBounds_toArray, List.set_cons_zero, List.set_cons_succ, i64_w, i32_w]
        rfl
      refine pure_ (i := 5) (N := some 15) (v := ?_) (a' := ?_) #[true, true, true, true, false, true, false, false, false, false, false, false, false] rfl rfl (by kernel_rfl) (fun _ _ _ h => h) (Or.inl ⟨by rfl, ?_⟩) ?_ ?_
      rotate_left
      · intro w'
        go_simp
        with_reducible rfl
      rotate_left
      · simp only [Act.put, List.setIfInBounds_toArray, List.set_cons_zero, List.set_cons_succ, i64_w, i32_w]
        rfl
      refine take_ (i := 4) (N := some 14) (v := ?_) (a' := ?_) #[true, true, true, true, true, true, false, false, false, false, false, false, false] rfl rfl (by kernel_rfl) (fun _ _ _ h => h) (Or.inl ⟨by rfl, ?_⟩) hHeld ?_ ?_
      rotate_left
      · intro w' s0
        go_simp
        with_reducible rfl
      rotate_left
      · simp only [Act.put, List.setIfInBounds_toArray, List.set_cons_zero, List.set_cons_succ, i64_w, i32_w]
        rfl
      refine one_ (i := 6) (N := some 16) #[true, true, true, true, true, true, true, false, false, false, false, false, false] rfl rfl (by kernel_rfl) (by decide) (fun K hK => ?_)
      refine goes_ Tryd.func56 (by kernel_rfl) rfl #[.pointer (some ⟨q, 0, none⟩)] (by rfl) rfl rfl (by simp only [List.map_toArray, List.map_cons, List.map_nil]; rfl) ?_
      with_reducible refine (HC.out W2.drew HD2.out).mono ?_
      rintro e w3 ⟨rfl, h3, m3⟩
      refine ⟨_, rfl, ?_⟩
      have g4 : w3.cell? ⟨q, 4, none⟩ = some (.int .u64 (sstep : Nat)) := (blk_cell h3.blk 4).trans rfl
      have fb4 := blk_frozen h3.blk 4
      have H3 := Lib.hid h3
      have X3 := Lib.hid (m3.blk (w := W2.drew) HX2.out.2 (by rintro (h | h) <;> omega))
      have Y3 := Lib.hid (m3.blk (w := W2.drew) HX2.out.1 (by rintro (h | h) <;> omega))
      have M3 := Lib.hid (M2.out.drew.trans m3 (fun _ _ h => h))
      clear h3 m3
      refine hK.out _ _ (g4) (fun hHeld => ?_)
      clear hK K
      refine norm_ (a' := ?_) ?_ ?_
      rotate_left
      · show Act.put _ (some 16) _ = _
        simp only [Act.put, List.setIfInBounds_toArray, List.set_cons_zero, List.set_cons_succ, i64_w, i32_w]
        rfl
      refine pure_ (i := 7) (N := some 17) (v := ?_) (a' := ?_) #[true, true, true, true, true, true, true, true, false, false, false, false, false] rfl rfl (by kernel_rfl) (fun _ _ _ h => h) (Or.inl ⟨by rfl, ?_⟩) ?_ ?_
      rotate_left
      · intro w'
        go_simp
        with_reducible rfl
      rotate_left
      · simp only [Act.put, List.setIfInBounds_toArray, List.set_cons_zero, List.set_cons_succ, i64_w, i32_w]
        rfl
      refine pure_ (i := 8) (N := some 18) (v := ?_) (a' := ?_) #[true, true, true, true, true, true, true, true, true, false, false, false, false] rfl rfl (by kernel_rfl) (fun _ _ _ h => h) (Or.inl ⟨by rfl, ?_⟩) ?_ ?_
      rotate_left
      · intro w'
        go_simp
        with_reducible rfl
      rotate_left
      · simp only [Act.put, List.setIfInBounds_toArray, List.set_cons_zero, List.set_cons_succ, i64_w, i32_w]
        rfl
      refine pure_ (i := 9) (N := some 19) (v := ?_) (a' := ?_) #[true, true, true, true, true, true, true, true, true, true, false, false, false] rfl rfl (by kernel_rfl) (fun _ _ _ h => h) (Or.inl ⟨by rfl, ?_⟩) ?_ ?_
      rotate_left
      · intro w'
        go_simp
        with_reducible rfl
      rotate_left
      · simp only [Act.put, List.setIfInBounds_toArray, List.set_cons_zero, List.set_cons_succ, i64_w, i32_w]
        rfl
      refine pure_ (i := 10) (N := some 20) (v := ?_) (a' := ?_) #[true, true, true, true, true, true, true, true, true, true, true, false, false] rfl rfl (by kernel_rfl) (fun _ _ _ h => h) (Or.inl ⟨by rfl, ?_⟩) ?_ ?_
      rotate_left
      · intro w'
        go_simp
        with_reducible rfl
      rotate_left
      · simp only [Act.put, List.setIfInBounds_toArray, List.set_cons_zero, List.set_cons_succ, i64_w, i32_w]
        rfl
      refine pure_ (i := 11) (N := some 21) (v := ?_) (a' := ?_) #[true, true, true, true, true, true, true, true, true, true, true, true, false] rfl rfl (by kernel_rfl) (fun _ _ _ h => h) (Or.inl ⟨by rfl, ?_⟩) ?_ ?_
      rotate_left
      · intro w'
        go_simp
        with_reducible rfl
      rotate_left
      · simp only [Act.put, List.setIfInBounds_toArray, List.set_cons_zero, List.set_cons_succ, i64_w, i32_w]
        rfl
      refine last_ (i := 12) (N := none) #[true, true, true, true, true, true, true, true, true, true, true, true, true] rfl rfl (by kernel_rfl) (by decide) (fun K hK => ?_)
      refine skip_ (w1 := ?_) (by rfl) rfl ?_ ?_
      rotate_left
      · go_simp
        rfl
      refine hK.out _ _ ?_
      clear hK K
      refine done_ (by kernel_rfl) ?_
      obtain ⟨W5, hW5⟩ : ∃ W5, W5 = w3.setCell ⟨q, 4, none⟩ (.int .u64 (stp : Nat)) := ⟨_, rfl⟩
      obtain ⟨h5, m5⟩ := H3.out.stepped stp
      rw [← hW5] at h5 m5 ⊢
      have H5 := Lib.hid h5
      have X5 := Lib.hid (m5.blk X3.out (by rintro (h | h) <;> omega))
      have Y5 := Lib.hid (m5.blk Y3.out (by rintro (h | h) <;> omega))
      have M5 := Lib.hid (M3.out.trans m5 (fun _ _ h => h))
      clear h5 m5 hW5 p4 g4 fb4
      have HD5 := Lib.hid (H5.out.drewN 1)
      have hdr : W5.drewN 1 = W5.drew := rfl
      rw [hdr] at HD5
      have XD5 : Hid (W5.drew.heap[b3]? = some (.cells #[.int .i64 0, .int .u64 0] 39 (0, 0))) := Lib.hid X5.out
      clear hdr
      have p2 : W5.drew.cell? ⟨q, 2, none⟩ = some (.int .i64 st) := (blk_cell HD5.out.blk 2).trans rfl
      have p4 : W5.drew.cell? ⟨q, 4, none⟩ = some (.int .u64 (stp : Nat)) := (blk_cell HD5.out.blk 4).trans rfl
      have zc0 : W5.drew.cell? ⟨b3, 0, none⟩ = some (.int .i64 0) := (blk_cell XD5.out 0).trans rfl
      have fb0 := blk_frozen XD5.out 0
      have zd0 : W5.cell? ⟨b3, 0, none⟩ = some (.int .i64 0) := zc0
      have fd0 : W5.frozen? ⟨b3, 0, none⟩ = false := fb0
      go_upto_region 4 with fail
      refine start_ (n := 16) (S := fun w' => w'.cell? ⟨q, 2, none⟩ = some (.int .i64 st) ∧ w'.cell? ⟨q, 4, none⟩ = some (.int .u64 (stp : Nat))) (ds := [15]) #[false, false, false, false, false, false, false, false, false, false, false, false, false, false, false, false] (by kernel_rfl) rfl rfl ⟨p2, p4⟩ (fun hHeld => ?_)
      refine pure_ (i := 0) (N := some 22) (v := ?_) (a' := ?_) #[true, false, false, false, false, false, false, false, false, false, false, false, false, false, false, false] rfl rfl (by kernel_rfl) (fun _ _ _ h => h) (Or.inl ⟨by rfl, ?_⟩) ?_ ?_
      rotate_left
      · intro w'
        go_simp
        with_reducible rfl
      rotate_left
      · simp only [Act.put, List.setIfInBounds_toArray, List.set_cons_zero, List.set_cons_succ, i64_w, i32_w]
        rfl
      refine pure_ (i := 1) (N := some 23) (v := ?_) (a' := ?_) #[true, true, false, false, false, false, false, false, false, false, false, false, false, false, false, false] rfl rfl (by kernel_rfl) (fun _ _ _ h => h) (Or.inl ⟨by rfl, ?_⟩) ?_ ?_
      rotate_left
      · intro w'
        go_simp
        with_reducible rfl
      rotate_left
      · simp only [Act.put, List.setIfInBounds_toArray, List.set_cons_zero, List.set_cons_succ, i64_w, i32_w]
        rfl
      refine pure_ (i := 2) (N := some 24) (v := ?_) (a' := ?_) #[true, true, true, false, false, false, false, false, false, false, false, false, false, false, false, false] rfl rfl (by kernel_rfl) (fun _ _ _ h => h) (Or.inl ⟨by rfl, ?_⟩) ?_ ?_
      rotate_left
      · intro w'
        go_simp
        with_reducible rfl
      rotate_left
      · simp only [Act.put, List.setIfInBounds_toArray, List.set_cons_zero, List.set_cons_succ, i64_w, i32_w]
        rfl
      refine pure_ (i := 3) (N := some 25) (v := ?_) (a' := ?_) #[true, true, true, true, false, false, false, false, false, false, false, false, false, false, false, false] rfl rfl (by kernel_rfl) (fun _ _ _ h => h) (Or.inl ⟨by rfl, ?_⟩) ?_ ?_
      rotate_left
      · intro w'
        go_simp
        with_reducible rfl
      rotate_left
      · simp only [Act.put, List.setIfInBounds_toArray, List.set_cons_zero, List.set_cons_succ, i64_w, i32_w]
        rfl
      refine pure_ (i := 4) (N := some 26) (v := ?_) (a' := ?_) #[true, true, true, true, true, false, false, false, false, false, false, false, false, false, false, false] rfl rfl (by kernel_rfl) (fun _ _ _ h => h) (Or.inl ⟨by rfl, ?_⟩) ?_ ?_
      rotate_left
      · intro w'
        go_simp
        with_reducible rfl
      rotate_left
      · simp only [Act.put, List.setIfInBounds_toArray, List.set_cons_zero, List.set_cons_succ, i64_w, i32_w]
        rfl
      refine pure_ (i := 7) (N := some 29) (v := ?_) (a' := ?_) #[true, true, true, true, true, false, false, true, false, false, false, false, false, false, false, false] rfl rfl (by kernel_rfl) (fun _ _ _ h => h) (Or.inl ⟨by rfl, ?_⟩) ?_ ?_
      rotate_left
      · intro w'
        go_simp
        with_reducible rfl
      rotate_left
      · simp only [Act.put, List.setIfInBounds_toArray, List.set_cons_zero, List.set_cons_succ, i64_w, i32_w]
        rfl
      refine pure_ (i := 8) (N := some 30) (v := ?_) (a' := ?_) #[true, true, true, true, true, false, false, true, true, false, false, false, false, false, false, false] rfl rfl (by kernel_rfl) (fun _ _ _ h => h) (Or.inl ⟨by rfl, ?_⟩) ?_ ?_
      rotate_left
      · intro w'
        go_simp
        with_reducible rfl
      rotate_left
      · simp only [Act.put, List.setIfInBounds_toArray, List.set_cons_zero, List.set_cons_succ, i64_w, i32_w]
        rfl
      refine pure_ (i := 9) (N := some 31) (v := ?_) (a' := ?_) #[true, true, true, true, true, false, false, true, true, true, false, false, false, false, false, false] rfl rfl (by kernel_rfl) (fun _ _ _ h => h) (Or.inl ⟨by rfl, ?_⟩) ?_ ?_
      rotate_left
      · intro w'
        go_simp
        with_reducible rfl
      rotate_left
      · simp only [Act.put, List.setIfInBounds_toArray, List.set_cons_zero, List.set_cons_succ, i64_w, i32_w]
        rfl
      refine pure_ (i := 10) (N := some 32) (v := ?_) (a' := ?_) #[true, true, true, true, true, false, false, true, true, true, true, false, false, false, false, false] rfl rfl (by kernel_rfl) (fun _ _ _ h => h) (Or.inl ⟨by rfl, ?_⟩) ?_ ?_
      rotate_left
      · intro w'
        go_simp
        with_reducible rfl
      rotate_left
      · simp only [Act.put, List.setIfInBounds_toArray, List.set_cons_zero, List.set_cons_succ, i64_w, i32_w]
        rfl
      refine take_ (i := 5) (N := some 27) (v := ?_) (a' := ?_) #[true, true, true, true, true, true, false, true, true, true, true, false, false, false, false, false] rfl rfl (by kernel_rfl) (fun _ _ _ h => h) (Or.inl ⟨by rfl, ?_⟩) hHeld ?_ ?_
      rotate_left
      · rintro w' ⟨s0, s1⟩
        go_simp
        with_reducible rfl
      rotate_left
      · simp only [Act.put, List.setIfInBounds_toArray, List.set_cons_zero, List.set_cons_succ, i64_w, i32_w]
        rfl
      refine pure_ (i := 6) (N := some 28) (v := ?_) (a' := ?_) #[true, true, true, true, true, true, true, true, true, true, true, false, false, false, false, false] rfl rfl (by kernel_rfl) (fun _ _ _ h => h) (Or.inl ⟨by rfl, ?_⟩) ?_ ?_
      rotate_left
      · intro w'
        go_simp
        with_reducible rfl
      rotate_left
      · simp only [Act.put, List.setIfInBounds_toArray, List.set_cons_zero, List.set_cons_succ, i64_w, i32_w]
        rfl
      refine take_ (i := 11) (N := some 33) (v := ?_) (a' := ?_) #[true, true, true, true, true, true, true, true, true, true, true, true, false, false, false, false] rfl rfl (by kernel_rfl) (fun _ _ _ h => h) (Or.inl ⟨by rfl, ?_⟩) hHeld ?_ ?_
      rotate_left
      · rintro w' ⟨s0, s1⟩
        go_simp
        with_reducible rfl
      rotate_left
      · simp only [Act.put, List.setIfInBounds_toArray, List.set_cons_zero, List.set_cons_succ, i64_w, i32_w]
        rfl
      refine pure_ (i := 12) (N := some 34) (v := ?_) (a' := ?_) #[true, true, true, true, true, true, true, true, true, true, true, true, true, false, false, false] rfl rfl (by kernel_rfl) (fun _ _ _ h => h) (Or.inl ⟨by rfl, ?_⟩) ?_ ?_
      rotate_left
      · intro w'
        go_simp
        with_reducible rfl
      rotate_left
      · simp only [Act.put, List.setIfInBounds_toArray, List.set_cons_zero, List.set_cons_succ, i64_w, i32_w]
        rfl
      refine pure_ (i := 13) (N := some 35) (v := ?_) (a' := ?_) #[true, true, true, true, true, true, true, true, true, true, true, true, true, true, false, false] rfl rfl (by kernel_rfl) (fun _ _ _ h => h) (Or.inl ⟨by rfl, ?_⟩) ?_ ?_
      rotate_left
      · intro w'
        go_simp
        with_reducible rfl
      rotate_left
      · simp only [Act.put, List.setIfInBounds_toArray, List.set_cons_zero, List.set_cons_succ, i64_w, i32_w]
        rfl
      refine pure_ (i := 14) (N := some 36) (v := ?_) (a' := ?_) #[true, true, true, true, true, true, true, true, true, true, true, true, true, true, true, false] rfl rfl (by kernel_rfl) (fun _ _ _ h => h) (Or.inl ⟨by rfl, ?_⟩) ?_ ?_
      rotate_left
      · intro w'
        go_simp
        with_reducible rfl
      rotate_left
      · simp only [Act.put, List.setIfInBounds_toArray, List.set_cons_zero, List.set_cons_succ, i64_w, i32_w]
        rfl
      refine last_ (i := 15) (N := none) #[true, true, true, true, true, true, true, true, true, true, true, true, true, true, true, true] rfl rfl (by kernel_rfl) (by decide) (fun K hK => ?_)
      refine skip_ (w1 := ?_) (by rfl) rfl ?_ ?_
      rotate_left
      · go_simp
        rfl
      refine hK.out _ _ ?_
      clear hK K
      refine done_ (by kernel_rfl) ?_
      obtain ⟨W6, hW6⟩ : ∃ W6, W6 = (W5.setCell ⟨b3, 0, none⟩ (.int .i64 t)).drew := ⟨_, rfl⟩
      have hm6 : Mod (fun k => k = b3) W5 W6 := by rw [hW6]; exact ((Mod.refl (fun k => k = b3) W5).setCell (p := ⟨b3, 0, none⟩) (.inl rfl) _).drew
      have H6 : Hid (Rk W6 (fun k => ok k ∧ k < N0) q g σ1 ⟨sn, st, sv, stp, sw⟩) := Lib.hid (by rw [hW6]; exact (H5.out.other ⟨b3, 0, none⟩ (.int .i64 t) n3q nb3).drewN 1)
      have X6 : Hid (W6.heap[b3]? = some (.cells #[.int .i64 t, .int .u64 0] 39 (0, 0))) := Lib.hid (by rw [hW6]; exact blk_put X5.out 0 (.int .i64 t) rfl)
      have Y6 := Lib.hid (hm6.blk Y5.out (fun e => n30 e.symm))
      have M6 : Hid (Mod (TwoB g q) w W6) := Lib.hid (by rw [hW6]; exact (M5.out.setCell (p := ⟨b3, 0, none⟩) (.inr (by rw [← HW.out.2.1]; exact nb3)) _).drew)
      rw [← hW6]
      clear hW6 hm6 zc0 fb0 zd0 fd0 p2 p4
      have HD6 := Lib.hid (H6.out.drewN 1)
      have hdr : W6.drewN 1 = W6.drew := rfl
      rw [hdr] at HD6
      clear hdr
      have p3 : W6.drew.cell? ⟨q, 3, none⟩ = some (.int .u64 (sv : Nat)) := (blk_cell HD6.out.blk 3).trans rfl
      go_upto_region 5 with fail
      refine start_ (n := 11) (S := fun w' => w'.cell? ⟨q, 3, none⟩ = some (.int .u64 (sv : Nat))) (ds := [10]) #[false, false, false, false, false, false, false, false, false, false, false] (by kernel_rfl) rfl rfl (p3) (fun hHeld => ?_)
      refine pure_ (i := 0) (N := some 37) (v := ?_) (a' := ?_) #[true, false, false, false, false, false, false, false, false, false, false] rfl rfl (by kernel_rfl) (fun _ _ _ h => h) (Or.inl ⟨by rfl, ?_⟩) ?_ ?_
      rotate_left
      · intro w'
        go_simp
        with_reducible rfl
      rotate_left
      · simp only [Act.put, List.setIfInBounds_toArray, List.set_cons_zero, List.set_cons_succ, i64_w, i32_w]
        rfl
      refine pure_ (i := 1) (N := some 38) (v := ?_) (a' := ?_) #[true, true, false, false, false, false, false, false, false, false, false] rfl rfl (by kernel_rfl) (fun _ _ _ h => h) (Or.inl ⟨by rfl, ?_⟩) ?_ ?_
      rotate_left
      · intro w'
        go_simp
        with_reducible rfl
      rotate_left
      · simp only [Act.put, List.setIfInBounds_toArray, List.set_cons_zero, List.set_cons_succ, i64_w, i32_w]
        rfl
      refine pure_ (i := 2) (N := some 39) (v := ?_) (a' := ?_) #[true, true, true, false, false, false, false, false, false, false, false] rfl rfl (by kernel_rfl) (fun _ _ _ h => h) (Or.inl ⟨by rfl, ?_⟩) ?_ ?_
      rotate_left
      · intro w'
        go_simp
        with_reducible rfl
      rotate_left
      · simp only [Act.put, List.setIfInBounds_toArray, List.set_cons_zero, List.set_cons_succ, i64_w, i32_w]
        rfl
      refine pure_ (i := 3) (N := some 40) (v := ?_) (a' := ?_) #[true, true, true, true, false, false, false, false, false, false, false] rfl rfl (by kernel_rfl) (fun _ _ _ h => h) (Or.inl ⟨by rfl, ?_⟩) ?_ ?_
      rotate_left
      · intro w'
        go_simp
        with_reducible rfl
      rotate_left
      · simp only [Act.put, List.setIfInBounds_toArray, List.set_cons_zero, List.set_cons_succ, i64_w, i32_w]
        rfl
      refine pure_ (i := 4) (N := some 41) (v := ?_) (a' := ?_) #[true, true, true, true, true, false, false, false, false, false, false] rfl rfl (by kernel_rfl) (fun _ _ _ h => h) (Or.inl ⟨by rfl, ?_⟩) ?_ ?_
      rotate_left
      · intro w'
        go_simp
        with_reducible rfl
      rotate_left
      · simp only [Act.put, List.setIfInBounds_toArray, List.set_cons_zero, List.set_cons_succ, i64_w, i32_w]
        rfl
      refine pure_ (i := 6) (N := some 43) (v := ?_) (a' := ?_) #[true, true, true, true, true, false, true, false, false, false, false] rfl rfl (by kernel_rfl) (fun _ _ _ h => h) (Or.inl ⟨by rfl, ?_⟩) ?_ ?_
      rotate_left
      · intro w'
        go_simp
        with_reducible rfl
      rotate_left
      · simp only [Act.put, List.setIfInBounds_toArray, List.set_cons_zero, List.set_cons_succ, i64_w, i32_w]
        rfl
      refine take_ (i := 5) (N := some 42) (v := ?_) (a' := ?_) #[true, true, true, true, true, true, true, false, false, false, false] rfl rfl (by kernel_rfl) (fun _ _ _ h => h) (Or.inl ⟨by rfl, ?_⟩) hHeld ?_ ?_
      rotate_left
      · intro w' s0
        go_simp
        with_reducible rfl
      rotate_left
      · simp only [Act.put, List.setIfInBounds_toArray, List.set_cons_zero, List.set_cons_succ, i64_w, i32_w]
        rfl
      refine one_ (i := 7) (N := some 44) #[true, true, true, true, true, true, true, true, false, false, false] rfl rfl (by kernel_rfl) (by decide) (fun K hK => ?_)
      refine goes_ Tryd.func55 (by kernel_rfl) rfl #[.pointer (some ⟨q, 0, none⟩)] (by rfl) rfl rfl (by simp only [List.map_toArray, List.map_cons, List.map_nil]; rfl) ?_
      with_reducible refine (HTN.out W6.drew HD6.out).mono ?_
      rintro e w7 ⟨rfl, h7, m7⟩
      refine ⟨_, rfl, ?_⟩
      have g3 : w7.cell? ⟨q, 3, none⟩ = some (.int .u64 (sv : Nat)) := (blk_cell h7.blk 3).trans rfl
      have H7 := Lib.hid h7
      have X7 := Lib.hid (m7.blk (w := W6.drew) X6.out (by rintro (h | h) <;> omega))
      have Y7 := Lib.hid (m7.blk (w := W6.drew) Y6.out (by rintro (h | h) <;> omega))
      have M7 := Lib.hid (M6.out.drew.trans m7 (fun _ _ h => h))
      have zc1 : w7.cell? ⟨b3, 1, none⟩ = some (.int .u64 0) := (blk_cell X7.out 1).trans rfl
      have fb1 := blk_frozen X7.out 1
      clear h7 m7
      refine hK.out _ _ (g3) (fun hHeld => ?_)
      clear hK K
      refine norm_ (a' := ?_) ?_ ?_
      rotate_left
      · show Act.put _ (some 44) _ = _
        simp only [Act.put, List.setIfInBounds_toArray, List.set_cons_zero, List.set_cons_succ, i64_w, i32_w]
        rfl
      refine pure_ (i := 8) (N := some 45) (v := ?_) (a' := ?_) #[true, true, true, true, true, true, true, true, true, false, false] rfl rfl (by kernel_rfl) (fun _ _ _ h => h) (Or.inl ⟨by rfl, ?_⟩) ?_ ?_
      rotate_left
      · intro w'
        go_simp
        with_reducible rfl
      rotate_left
      · simp only [Act.put, List.setIfInBounds_toArray, List.set_cons_zero, List.set_cons_succ, i64_w, i32_w]
        rfl
      refine pure_ (i := 9) (N := some 46) (v := ?_) (a' := ?_) #[true, true, true, true, true, true, true, true, true, true, false] rfl rfl (by kernel_rfl) (fun _ _ _ h => h) (Or.inl ⟨by rfl, ?_⟩) ?_ ?_
      rotate_left
      · intro w'
        go_simp
        with_reducible rfl
      rotate_left
      · simp only [Act.put, List.setIfInBounds_toArray, List.set_cons_zero, List.set_cons_succ, i64_w, i32_w]
        rfl
      refine last_ (i := 10) (N := none) #[true, true, true, true, true, true, true, true, true, true, true] rfl rfl (by kernel_rfl) (by decide) (fun K hK => ?_)
      refine skip_ (w1 := ?_) (by rfl) rfl ?_ ?_
      rotate_left
      · go_simp
        rfl
      refine hK.out _ _ ?_
      clear hK K
      refine done_ (by kernel_rfl) ?_
      obtain ⟨W8a, hW8a⟩ : ∃ W8a, W8a = w7.setCell ⟨b3, 1, none⟩ (.int .u64 (v : Nat)) := ⟨_, rfl⟩
      have hm8 : Mod (fun k => k = b3) w7 W8a := by rw [hW8a]; exact (Mod.refl (fun k => k = b3) w7).setCell (p := ⟨b3, 1, none⟩) (.inl rfl) _
      have H8a : Hid (Rk W8a (fun k => ok k ∧ k < N0) q g σ2 ⟨sn, st, sv, stp, w2⟩) := Lib.hid (by rw [hW8a]; exact H7.out.other _ _ n3q nb3)
      have X8 : Hid (W8a.heap[b3]? = some (.cells #[.int .i64 t, .int .u64 (v : Nat)] 39 (0, 0))) := Lib.hid (by rw [hW8a]; exact blk_put X7.out 1 _ rfl)
      have Y8a := Lib.hid (hm8.blk Y7.out (fun e => n30 e.symm))
      have M8a : Hid (Mod (TwoB g q) w W8a) := Lib.hid (by rw [hW8a]; exact M7.out.setCell (p := ⟨b3, 1, none⟩) (.inr (by rw [← HW.out.2.1]; exact nb3)) _)
      rw [← hW8a]
      clear hW8a hm8 zc1 fb1
      have z0 : W8a.cell? ⟨b3, 0, none⟩ = some (.int .i64 t) := (blk_cell X8.out 0).trans rfl
      have z1 : W8a.cell? ⟨b3, 1, none⟩ = some (.int .u64 (v : Nat)) := (blk_cell X8.out 1).trans rfl
      obtain ⟨u1, zp1⟩ : ∃ u1, W8a.cell? ⟨q, 1, none⟩ = some (.int .i64 (sn : Nat)) ∧ u1 = 0 := ⟨0, (blk_cell H8a.out.blk 1).trans rfl, rfl⟩
      obtain ⟨zp1, _⟩ := zp1
      obtain ⟨u2, zp2⟩ : ∃ u2, W8a.cell? ⟨q, 2, none⟩ = some u2 := ⟨_, (blk_cell H8a.out.blk 2).trans rfl⟩
      obtain ⟨u3, zp3⟩ : ∃ u3, W8a.cell? ⟨q, 3, none⟩ = some u3 := ⟨_, (blk_cell H8a.out.blk 3).trans rfl⟩
      have f1 := blk_frozen H8a.out.blk 1
      have f2 := blk_frozen H8a.out.blk 2
      have f3 := blk_frozen H8a.out.blk 3
      go_upto_region 15 with fail
      obtain ⟨h8, m8⟩ := H8a.out.lastly t v (sn + 1)
      obtain ⟨W8, hW8⟩ : ∃ W8, W8 = ((W8a.setCell ⟨q, 2, none⟩ (.int .i64 t)).setCell ⟨q, 3, none⟩ (.int .u64 (v : Nat))).setCell ⟨q, 1, none⟩ (.int .i64 ((sn : Int) + 1)) := ⟨_, rfl⟩
      rw [← hW8]
      have eW8 : ((W8a.setCell ⟨q, 2, none⟩ (.int .i64 t)).setCell ⟨q, 3, none⟩ (.int .u64 (v : Nat))).setCell ⟨q, 1, none⟩ (.int .i64 ((sn + 1 : Nat))) = W8 := hW8.symm
      rw [eW8] at h8 m8
      have x8 := m8.blk X8.out (by rintro (h | h) <;> omega)
      have y8 := m8.blk Y8a.out (by rintro (h | h) <;> omega)
      have H8 := Lib.hid h8
      have M8 := Lib.hid (M8a.out.trans m8 (fun _ _ h => h))
      have z8 : W8.cell? ⟨b3, 0, none⟩ = some (.int .i64 t) := (blk_cell x8 0).trans rfl
      have z9 : W8.cell? ⟨b3, 1, none⟩ = some (.int .u64 (v : Nat)) := (blk_cell x8 1).trans rfl
      have v8 : W8.cell? ⟨N0, 0, none⟩ = some (.int .i64 0) := (blk_cell y8 0).trans rfl
      have v9 : W8.cell? ⟨N0, 1, none⟩ = some (.int .u64 0) := (blk_cell y8 1).trans rfl
      have g0 := blk_frozen y8 0
      have g1 := blk_frozen y8 1
      have Y8 := Lib.hid y8
      clear h8 m8 x8 y8 hW8 eW8 z0 z1 zp1 zp2 zp3 f1 f2 f3
      go_wp2
      refine bodyPost_ret (results_cell_row rfl _ _ N0 39 #[.int .i64 t, .int .u64 (v : Nat)] (0, 0) _ rfl (blk_put (blk_put Y8.out 0 _ rfl) 1 _ rfl) Tryd.underlying39 rfl (by kernel_rfl)) rfl ?_
      have h9 := ((H8.out.other ⟨N0, 0, none⟩ (.int .i64 t) n0q (Nat.le_refl _)).other ⟨N0, 1, none⟩ (.int .u64 (v : Nat)) n0q (Nat.le_refl _)).back (fun k hk => hk.1) HQ.out
      have hN0w : w.heap.size = N0 := by rw [HW.out.2.1]
      have m9 := (M8.out.setCell (p := ⟨N0, 0, none⟩) (.inr (Nat.le_of_eq hN0w)) (.int .i64 t)).setCell (p := ⟨N0, 1, none⟩) (.inr (Nat.le_of_eq hN0w)) (.int .u64 (v : Nat))
      rw [HN.out]
      exact ⟨rfl, h9, m9⟩
end Go.Proofs.YtmllgglcdlcdhaaDoor
