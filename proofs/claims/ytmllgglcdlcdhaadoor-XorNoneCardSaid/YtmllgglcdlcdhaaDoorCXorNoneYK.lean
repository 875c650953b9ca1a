import Derived.Test.YtmllgglcdlcdhaaDoorCXorNoneYM
import Derived.Test.YtmllgglcdlcdhaaDoorCXorNoneYD
import Derived.Test.YtmllgglcdlcdhaaDoorCXorNoneYH
namespace Go.Proofs.YtmllgglcdlcdhaaDoor.Bq
end Go.Proofs.YtmllgglcdlcdhaaDoor.Bq
namespace Go.Proofs.YtmllgglcdlcdhaaDoor
open Go Go.RowKit Go.Proofs.YtmllgglcdlcdhaaDoorW.PrintWords Go.Proofs.YtmllgglcdlcdhaaDoorW.PrintMore Go.Proofs.YtmllgglcdlcdhaaDoorW.PrintLast Bq Xs
set_option linter.unusedVariables false
set_option maxRecDepth 100000
set_option linter.unusedSimpArgs false
attribute [local go_sem ↓] Go.wp_at_zero Go.wp_at_succ
abbrev sets3 (w : World) (b : Nat) (x y z : Value) : World := ((w.setCell ⟨b, 0, none⟩ x).setCell ⟨b, 1, none⟩ y).setCell ⟨b, 2, none⟩ z
theorem Rr.fin {w : World} {ok : Nat → Prop} {q b N0 : Nat} {σ : Sg} (h : Rr w (fun k => ok k ∧ k < N0) q σ) (hb : N0 ≤ b) (hq : b ≠ q) (hok : ¬ ok q) (x y z : Value) : Rr (sets3 w b x y z) ok q σ := by
  have hm : Mod (fun k => k = b) w (sets3 w b x y z) := (((Mod.refl (fun k => k = b) w).setCell (p := ⟨b, 0, none⟩) (.inl rfl) x).setCell (p := ⟨b, 1, none⟩) (.inl rfl) y).setCell (p := ⟨b, 2, none⟩) (.inl rfl) z
  exact (h.kept hm (fun e => hq e.symm) (fun k ho _ e => by have := ho.2; omega)).back (fun k hk => hk.1) hok
theorem mod_fin {w0 w : World} {q b : Nat} (h : Mod (fun k => k = q) w0 w) (hb : w0.heap.size ≤ b) (x y z : Value) : Mod (fun k => k = q) w0 (sets3 w b x y z) :=
  ((h.setCell (p := ⟨b, 0, none⟩) (.inr hb) x).setCell (p := ⟨b, 1, none⟩) (.inr hb) y).setCell (p := ⟨b, 2, none⟩) (.inr hb) z
set_option maxHeartbeats 8000000 in
theorem rrturn (w : World) (ok : Nat → Prop) (q : Nat) (σ : Sg) (h : Rr w ok q σ) (Wn : Win) (hw : Wn.lead + Wn.trail ≤ 63) :
    Calls Tryd.prog 40 #[.pointer (some ⟨q, 0, none⟩), winV Wn] w fun e w' => e = .returned (.tuple #[.int .u64 ((turnT Wn σ).1 : Nat), winV (turnT Wn σ).2.1]) ∧ Rr w' ok q (turnT Wn σ).2.2 ∧ Mod (fun k => k = q) w w' := by
  obtain ⟨set, lead, trail⟩ := Wn
  simp only at hw
  have hqw := h.qlt
  have HQ := Lib.hid h.okq
  obtain ⟨bw, hbw⟩ : ∃ bw, bw = w.heap.size := ⟨_, rfl⟩
  obtain ⟨b2, hb2⟩ : ∃ b2, b2 = bw + 1 := ⟨_, rfl⟩
  obtain ⟨W2, hW2⟩ : ∃ W2, W2 = (w.alloc (.cells #[.bool set, .int .i64 (lead : Nat), .int .i64 (trail : Nat)] 76)).alloc (.cells #[.bool false, .int .i64 0, .int .i64 0] 76) := ⟨_, rfl⟩
  have hB2 : Below w.heap.size w W2 := by rw [hW2]; exact below_alloc (below_alloc (Below.refl _ _) _) _
  have hx2 : W2.heap[bw]? = some (.cells #[.bool set, .int .i64 (lead : Nat), .int .i64 (trail : Nat)] 76 (0, 0)) := by rw [hW2, hbw]; exact (heap_alloc_old _ _ (by rw [World.size_alloc]; omega)).trans (heap_alloc_new w _)
  have hx3 : W2.heap[b2]? = some (.cells #[.bool false, .int .i64 0, .int .i64 0] 76 (0, 0)) := by
    have e : b2 = (w.alloc (.cells #[.bool set, .int .i64 (lead : Nat), .int .i64 (trail : Nat)] 76)).heap.size := by rw [hb2, hbw, World.size_alloc]
    rw [hW2, e]
    exact heap_alloc_new _ _
  have hk2 : Rr W2 (fun k => ok k ∧ k < bw) q σ := by rw [hbw]; exact h.bound.below hB2
  have nbq : bw ≠ q := by omega
  have n2q : b2 ≠ q := by omega
  have nb2 : bw ≤ b2 := by omega
  have HW := Lib.hid (And.intro hW2 (And.intro hbw hb2))
  have HX := Lib.hid (And.intro hx2 hx3)
  have M2 := Lib.hid (Mod.of_below hB2 (fun k => k = q))
  clear h hqw hbw hb2 hW2 hB2 hx2 hx3
  have hT : turnT ⟨set, lead, trail⟩ σ = if (getT 1 σ).1 = 0 then (0, ⟨set, lead, trail⟩, (getT 1 σ).2) else turnT2 ⟨set, lead, trail⟩ (getT 1 σ).2 := rfl
  have HG1 := Lib.hid (rrget W2 _ q σ hk2 1 1 (fun _ _ => ⟨rfl, by decide, by decide⟩))
  have hn1 := getT_lt 1 σ
  generalize getT 1 σ = G1 at hT HG1 hn1
  obtain ⟨n1, σ1⟩ := G1
  simp only at hT HG1 hn1 ⊢
  clear hk2
  by_cases c1 : n1 = 0
  · subst c1
    rw [if_pos rfl] at hT
    have HT := Lib.hid hT
    clear hT
    go_enter Tryd.func40, Tryd.ntmps40
    go_upto_region 1 with fail
    rw [← HW.out.1, ← HW.out.2.1, ← HW.out.2.2]
    go_wp2_with fail
    refine (HG1.out).mono ?_
    rintro e w3 ⟨rfl, h3, m3⟩
    have H3 := Lib.hid h3
    have X3 := Lib.hid (m3.blk HX.out.1 nbq)
    have Y3 := Lib.hid (m3.blk HX.out.2 n2q)
    have M3 := Lib.hid (M2.out.trans m3 (fun _ _ h => h))
    clear h3 m3
    have z0 : w3.drew.cell? ⟨bw, 0, none⟩ = some (.bool set) := (blk_cell X3.out 0).trans rfl
    have y0 : w3.cell? ⟨bw, 0, none⟩ = some (.bool set) := z0
    have z1 : w3.drew.cell? ⟨bw, 1, none⟩ = some (.int .i64 (lead : Nat)) := (blk_cell X3.out 1).trans rfl
    have y1 : w3.cell? ⟨bw, 1, none⟩ = some (.int .i64 (lead : Nat)) := z1
    have z2 : w3.drew.cell? ⟨bw, 2, none⟩ = some (.int .i64 (trail : Nat)) := (blk_cell X3.out 2).trans rfl
    have y2 : w3.cell? ⟨bw, 2, none⟩ = some (.int .i64 (trail : Nat)) := z2
    have u0 : w3.cell? ⟨b2, 0, none⟩ = some (.bool false) := (blk_cell Y3.out 0).trans rfl
    have f0 : w3.frozen? ⟨b2, 0, none⟩ = false := blk_frozen Y3.out 0
    have v0 : w3.drew.cell? ⟨b2, 0, none⟩ = some (.bool false) := u0
    have g0 : w3.drew.frozen? ⟨b2, 0, none⟩ = false := f0
    have u1 : w3.cell? ⟨b2, 1, none⟩ = some (.int .i64 0) := (blk_cell Y3.out 1).trans rfl
    have f1 : w3.frozen? ⟨b2, 1, none⟩ = false := blk_frozen Y3.out 1
    have v1 : w3.drew.cell? ⟨b2, 1, none⟩ = some (.int .i64 0) := u1
    have g1 : w3.drew.frozen? ⟨b2, 1, none⟩ = false := f1
    have u2 : w3.cell? ⟨b2, 2, none⟩ = some (.int .i64 0) := (blk_cell Y3.out 2).trans rfl
    have f2 : w3.frozen? ⟨b2, 2, none⟩ = false := blk_frozen Y3.out 2
    have v2 : w3.drew.cell? ⟨b2, 2, none⟩ = some (.int .i64 0) := u2
    have g2 : w3.drew.frozen? ⟨b2, 2, none⟩ = false := f2
    go_upto_region 2 with fail
    refine start_ (n := 3) (S := fun w' => w'.cell? ⟨bw, 0, none⟩ = some (.bool set) ∧ w'.cell? ⟨bw, 1, none⟩ = some (.int .i64 (lead : Nat)) ∧ w'.cell? ⟨bw, 2, none⟩ = some (.int .i64 (trail : Nat))) (ds := [2]) #[false, false, false] (by kernel_rfl) rfl rfl ⟨z0, z1, z2⟩ (fun hHeld => ?_)
    refine pure_ (i := 1) (N := some 4) (v := ?_) (a' := ?_) #[false, true, false] rfl rfl (by kernel_rfl) (fun _ _ _ h => h) (Or.inl ⟨by rfl, ?_⟩) ?_ ?_
    rotate_left
    · intro w'
      go_simp
      with_reducible rfl
    rotate_left
    · simp only [Act.put, List.setIfInBounds_toArray, List.set_cons_zero, List.set_cons_succ, i64_w, i32_w]
      rfl
    refine take_ (i := 0) (N := some 12) (v := ?_) (a' := ?_) #[true, true, false] rfl rfl (by kernel_rfl) (fun _ _ _ h => h) (Or.inl ⟨by rfl, ?_⟩) hHeld ?_ ?_
    rotate_left
    · rintro w' ⟨s0, s1, s2⟩
      go_simp
      with_reducible rfl
    rotate_left
    · simp only [Act.put, List.setIfInBounds_toArray, List.set_cons_zero, List.set_cons_succ, i64_w, i32_w]
      rfl
    refine last_ (i := 2) (N := none) #[true, true, true] rfl rfl (by kernel_rfl) (by decide) (fun K hK => ?_)
    refine skip_ (w1 := ?_) (by rfl) rfl ?_ ?_
    rotate_left
    · go_simp
      rfl
    refine hK.out _ _ ?_
    clear hK K
    refine done_ (by kernel_rfl) ?_
    go_wp2
    refine bodyPost_ret (results_tc rfl _ _ b2 76 (winC ⟨set, lead, trail⟩) (0, 0) _ rfl (blk_put (blk_put (blk_put Y3.out 0 _ rfl) 1 _ rfl) 2 _ rfl) Tryd.underlying76 rfl (by kernel_rfl)) rfl ?_
    rw [HT.out]
    have h9 := (H3.out.fin nb2 n2q HQ.out (.bool set) (.int .i64 (lead : Nat)) (.int .i64 (trail : Nat))).drewN 1
    have m9 := (mod_fin M3.out (b := b2) (by have := HW.out.2; omega) (.bool set) (.int .i64 (lead : Nat)) (.int .i64 (trail : Nat))).drewN 1
    refine ⟨rfl, h9, m9⟩
  · rw [if_neg c1] at hT
    have b1 : ((n1 : Int) == 0) = false := beq_false_of_ne (by omega)
    have hT2 : turnT2 ⟨set, lead, trail⟩ σ1 = if (getT 1 σ1).1 = 0 then (if set = true then ((getT (64 - lead - trail) (getT 1 σ1).2).1 * 2 ^ trail, ⟨set, lead, trail⟩, (getT (64 - lead - trail) (getT 1 σ1).2).2) else (0, ⟨set, lead, trail⟩, failT 8 (getT 1 σ1).2)) else turnT4 ⟨set, lead, trail⟩ (getT 5 (getT 1 σ1).2).1 (wideT (getT 6 (getT 5 (getT 1 σ1).2).2).1) (getT 6 (getT 5 (getT 1 σ1).2).2).2 := rfl
    have HG2 := Lib.hid (fun (W : World) (hK : Rr W (fun k => ok k ∧ k < bw) q σ1) => rrget W _ q σ1 hK 1 1 (fun _ _ => ⟨rfl, by decide, by decide⟩))
    have hn2 := getT_lt 1 σ1
    rw [hT2] at hT
    clear hT2
    generalize getT 1 σ1 = G2 at hT HG2 hn2
    obtain ⟨n2, σ2⟩ := G2
    simp only at hT HG2 hn2
    by_cases c2 : n2 = 0
    · subst c2
      rw [if_pos rfl] at hT
      cases σ2 with
      | error e2 =>
        have HT : Hid (turnT ⟨set, lead, trail⟩ σ = (0, ⟨set, lead, trail⟩, .error e2)) := Lib.hid (by
          rw [hT]
          cases set
          · rfl
          · rw [if_pos rfl]
            show (0 * 2 ^ trail, _, _) = _
            rw [Nat.zero_mul]
            rfl)
        clear hT
        obtain ⟨wd, hwd⟩ : ∃ wd : Nat, wd = 64 - lead - trail := ⟨_, rfl⟩
        have e1 : IntKind.u64.wrap (trail : Int) = (trail : Int) := by rw [IntKind.wrap_u64]; omega
        have e2_ : IntKind.i64.wrap (64 - (lead : Int)) = 64 - (lead : Int) := IntWalk.i64_in _ (by omega)
        have e3 : IntKind.i64.wrap (64 - (lead : Int) - (trail : Int)) = (wd : Int) := by rw [IntWalk.i64_in _ (by omega)]; omega
        have hwl : wd + trail ≤ 64 := by omega
        have hw0 : 0 < wd := by omega
        have hmt : min trail 64 = trail := by omega
        have HG3 := Lib.hid (fun (W : World) (hK : Rr W (fun k => ok k ∧ k < bw) q (.error e2)) => rrget W _ q (.error e2) hK wd wd (fun _ h => by cases h))
        rw [getT_er] at HG3
        clear hwd
        go_enter Tryd.func40, Tryd.ntmps40
        go_upto_region 1 with fail
        rw [← HW.out.1, ← HW.out.2.1, ← HW.out.2.2]
        go_wp2_with fail
        refine (HG1.out).mono ?_
        rintro e w3 ⟨rfl, h3, m3⟩
        have H3 := Lib.hid h3
        have X3 := Lib.hid (m3.blk HX.out.1 nbq)
        have Y3 := Lib.hid (m3.blk HX.out.2 n2q)
        have M3 := Lib.hid (M2.out.trans m3 (fun _ _ h => h))
        clear h3 m3
        go_wp2_with fail
        refine (HG2.out w3 H3.out).mono ?_
        rintro e w4 ⟨rfl, h4, m4⟩
        have H4 := Lib.hid h4
        have X4 := Lib.hid (m4.blk X3.out nbq)
        have Y4 := Lib.hid (m4.blk Y3.out n2q)
        have M4 := Lib.hid (M3.out.trans m4 (fun _ _ h => h))
        clear h4 m4
        have d8 : w4.cell? ⟨q, 2, none⟩ = some (.int .i64 e2) := H4.out.err
        have be : (e2 == 0) = false := beq_false_of_ne (H4.out.good e2 rfl)
        have s0 : w4.cell? ⟨bw, 0, none⟩ = some (.bool set) := (blk_cell X4.out 0).trans rfl
        go_upto_region 6 with fail
        have HD := Lib.hid (H4.out.drewN 1)
        have hdr : w4.drewN 1 = w4.drew := rfl
        rw [hdr] at HD
        clear hdr
        have z0 : w4.drew.cell? ⟨bw, 0, none⟩ = some (.bool set) := (blk_cell X4.out 0).trans rfl
        have z1 : w4.drew.cell? ⟨bw, 1, none⟩ = some (.int .i64 (lead : Nat)) := (blk_cell X4.out 1).trans rfl
        have z2 : w4.drew.cell? ⟨bw, 2, none⟩ = some (.int .i64 (trail : Nat)) := (blk_cell X4.out 2).trans rfl
        refine start_ (n := 15) (S := fun w' => w'.cell? ⟨bw, 0, none⟩ = some (.bool set) ∧ w'.cell? ⟨bw, 1, none⟩ = some (.int .i64 (lead : Nat)) ∧ w'.cell? ⟨bw, 2, none⟩ = some (.int .i64 (trail : Nat))) (ds := [14]) #[false, false, false, false, false, false, false, false, false, false, false, false, false, false, false] (by kernel_rfl) rfl rfl ⟨z0, z1, z2⟩ (fun hHeld => ?_)
        refine pure_ (i := 0) (N := some 29) (v := ?_) (a' := ?_) #[true, false, false, false, false, false, false, false, false, false, false, false, false, false, false] rfl rfl (by kernel_rfl) (fun _ _ _ h => h) (Or.inl ⟨by rfl, ?_⟩) ?_ ?_
        rotate_left
        · intro w'
          go_simp
          with_reducible rfl
        rotate_left
        · simp only [Act.put, List.setIfInBounds_toArray, List.set_cons_zero, List.set_cons_succ, i64_w, i32_w]
          rfl
        refine pure_ (i := 1) (N := some 30) (v := ?_) (a' := ?_) #[true, true, false, false, false, false, false, false, false, false, false, false, false, false, false] rfl rfl (by kernel_rfl) (fun _ _ _ h => h) (Or.inl ⟨by rfl, ?_⟩) ?_ ?_
        rotate_left
        · intro w'
          go_simp
          with_reducible rfl
        rotate_left
        · simp only [Act.put, List.setIfInBounds_toArray, List.set_cons_zero, List.set_cons_succ, i64_w, i32_w]
          rfl
        refine pure_ (i := 4) (N := some 33) (v := ?_) (a' := ?_) #[true, true, false, false, true, false, false, false, false, false, false, false, false, false, false] rfl rfl (by kernel_rfl) (fun _ _ _ h => h) (Or.inl ⟨by rfl, ?_⟩) ?_ ?_
        rotate_left
        · intro w'
          go_simp
          with_reducible rfl
        rotate_left
        · simp only [Act.put, List.setIfInBounds_toArray, List.set_cons_zero, List.set_cons_succ, i64_w, i32_w]
          rfl
        refine pure_ (i := 8) (N := some 37) (v := ?_) (a' := ?_) #[true, true, false, false, true, false, false, false, true, false, false, false, false, false, false] rfl rfl (by kernel_rfl) (fun _ _ _ h => h) (Or.inl ⟨by rfl, ?_⟩) ?_ ?_
        rotate_left
        · intro w'
          go_simp
          with_reducible rfl
        rotate_left
        · simp only [Act.put, List.setIfInBounds_toArray, List.set_cons_zero, List.set_cons_succ, i64_w, i32_w]
          rfl
        refine take_ (i := 2) (N := some 31) (v := ?_) (a' := ?_) #[true, true, true, false, true, false, false, false, true, false, false, false, false, false, false] rfl rfl (by kernel_rfl) (fun _ _ _ h => h) (Or.inl ⟨by rfl, ?_⟩) hHeld ?_ ?_
        rotate_left
        · rintro w' ⟨s0, s1, s2⟩
          go_simp
          with_reducible rfl
        rotate_left
        · simp only [Act.put, List.setIfInBounds_toArray, List.set_cons_zero, List.set_cons_succ, i64_w, i32_w]
          rfl
        refine pure_ (i := 3) (N := some 32) (v := ?_) (a' := ?_) #[true, true, true, true, true, false, false, false, true, false, false, false, false, false, false] rfl rfl (by kernel_rfl) (fun _ _ _ h => h) (Or.inl ⟨by rfl, ?_⟩) ?_ ?_
        rotate_left
        · intro w'
          go_simp
          with_reducible rfl
        rotate_left
        · simp only [Act.put, List.setIfInBounds_toArray, List.set_cons_zero, List.set_cons_succ, i64_w, i32_w]
          rfl
        refine take_ (i := 5) (N := some 34) (v := ?_) (a' := ?_) #[true, true, true, true, true, true, false, false, true, false, false, false, false, false, false] rfl rfl (by kernel_rfl) (fun _ _ _ h => h) (Or.inl ⟨by rfl, ?_⟩) hHeld ?_ ?_
        rotate_left
        · rintro w' ⟨s0, s1, s2⟩
          go_simp
          with_reducible rfl
        rotate_left
        · simp only [Act.put, List.setIfInBounds_toArray, List.set_cons_zero, List.set_cons_succ, i64_w, i32_w]
          rfl
        refine pure_ (i := 6) (N := some 35) (v := ?_) (a' := ?_) #[true, true, true, true, true, true, true, false, true, false, false, false, false, false, false] rfl rfl (by kernel_rfl) (fun _ _ _ h => h) (Or.inl ⟨by rfl, ?_⟩) ?_ ?_
        rotate_left
        · intro w'
          go_simp
          with_reducible rfl
        rotate_left
        · simp only [Act.put, List.setIfInBounds_toArray, List.set_cons_zero, List.set_cons_succ, i64_w, i32_w]
          rfl
        refine take_ (i := 9) (N := some 38) (v := ?_) (a' := ?_) #[true, true, true, true, true, true, true, false, true, true, false, false, false, false, false] rfl rfl (by kernel_rfl) (fun _ _ _ h => h) (Or.inl ⟨by rfl, ?_⟩) hHeld ?_ ?_
        rotate_left
        · rintro w' ⟨s0, s1, s2⟩
          go_simp
          with_reducible rfl
        rotate_left
        · simp only [Act.put, List.setIfInBounds_toArray, List.set_cons_zero, List.set_cons_succ, i64_w, i32_w]
          rfl
        refine pure_ (i := 10) (N := some 39) (v := ?_) (a' := ?_) #[true, true, true, true, true, true, true, false, true, true, true, false, false, false, false] rfl rfl (by kernel_rfl) (fun _ _ _ h => h) (Or.inl ⟨by rfl, ?_⟩) ?_ ?_
        rotate_left
        · intro w'
          go_simp
          with_reducible rfl
        rotate_left
        · simp only [Act.put, List.setIfInBounds_toArray, List.set_cons_zero, List.set_cons_succ, i64_w, i32_w]
          rfl
        refine take_ (i := 12) (N := some 41) (v := ?_) (a' := ?_) #[true, true, true, true, true, true, true, false, true, true, true, false, true, false, false] rfl rfl (by kernel_rfl) (fun _ _ _ h => h) (Or.inl ⟨by rfl, ?_⟩) hHeld ?_ ?_
        rotate_left
        · rintro w' ⟨s0, s1, s2⟩
          go_simp
          with_reducible rfl
        rotate_left
        · simp only [Act.put, List.setIfInBounds_toArray, List.set_cons_zero, List.set_cons_succ, i64_w, i32_w]
          rfl
        refine one_ (i := 7) (N := some 36) #[true, true, true, true, true, true, true, true, true, true, true, false, true, false, false] rfl rfl (by kernel_rfl) (by decide) (fun K hK => ?_)
        refine goes_ Tryd.func36 (by kernel_rfl) rfl #[.pointer (some ⟨q, 0, none⟩), .int .i64 wd] (by rfl) rfl rfl (by simp only [List.map_toArray, List.map_cons, List.map_nil]; rfl) ?_
        with_reducible refine (HG3.out w4.drew HD.out).mono ?_
        rintro e w6 ⟨rfl, h6, m6⟩
        refine ⟨_, rfl, ?_⟩
        have H6 := Lib.hid h6
        have X6 := Lib.hid (m6.blk (w := w4.drew) X4.out nbq)
        have Y6 := Lib.hid (m6.blk (w := w4.drew) Y4.out n2q)
        have M6 := Lib.hid ((M4.out.drewN 1).trans m6 (fun _ _ h => h))
        have r0 : w6.cell? ⟨bw, 0, none⟩ = some (.bool set) := (blk_cell X6.out 0).trans rfl
        have r1 : w6.cell? ⟨bw, 1, none⟩ = some (.int .i64 (lead : Nat)) := (blk_cell X6.out 1).trans rfl
        have r2_ : w6.cell? ⟨bw, 2, none⟩ = some (.int .i64 (trail : Nat)) := (blk_cell X6.out 2).trans rfl
        have u0 : w6.cell? ⟨b2, 0, none⟩ = some (.bool false) := (blk_cell Y6.out 0).trans rfl
        have f0 : w6.frozen? ⟨b2, 0, none⟩ = false := blk_frozen Y6.out 0
        have u1 : w6.cell? ⟨b2, 1, none⟩ = some (.int .i64 0) := (blk_cell Y6.out 1).trans rfl
        have f1 : w6.frozen? ⟨b2, 1, none⟩ = false := blk_frozen Y6.out 1
        have u2 : w6.cell? ⟨b2, 2, none⟩ = some (.int .i64 0) := (blk_cell Y6.out 2).trans rfl
        have f2 : w6.frozen? ⟨b2, 2, none⟩ = false := blk_frozen Y6.out 2
        clear h6 m6
        refine hK.out _ _ ⟨r0, r1, r2_⟩ (fun hHeld => ?_)
        clear hK K
        refine norm_ (a' := ?_) ?_ ?_
        rotate_left
        · show Act.put _ (some 36) _ = _
          simp only [Act.put, List.setIfInBounds_toArray, List.set_cons_zero, List.set_cons_succ, i64_w, i32_w]
          rfl
        refine pure_ (i := 11) (N := some 40) (v := ?_) (a' := ?_) #[true, true, true, true, true, true, true, true, true, true, true, true, true, false, false] rfl rfl (by kernel_rfl) (fun _ _ _ h => h) (Or.inl ⟨by rfl, ?_⟩) ?_ ?_
        rotate_left
        · intro w'
          go_simp
          with_reducible rfl
        rotate_left
        · simp only [Act.put, List.setIfInBounds_toArray, List.set_cons_zero, List.set_cons_succ, i64_w, i32_w]
          rfl
        refine pure_ (i := 13) (N := some 4) (v := ?_) (a' := ?_) #[true, true, true, true, true, true, true, true, true, true, true, true, true, true, false] rfl rfl (by kernel_rfl) (fun _ _ _ h => h) (Or.inl ⟨by rfl, ?_⟩) ?_ ?_
        rotate_left
        · intro w'
          go_simp
          with_reducible rfl
        rotate_left
        · simp only [Act.put, List.setIfInBounds_toArray, List.set_cons_zero, List.set_cons_succ, i64_w, i32_w]
          rfl
        refine last_ (i := 14) (N := none) #[true, true, true, true, true, true, true, true, true, true, true, true, true, true, true] rfl rfl (by kernel_rfl) (by decide) (fun K hK => ?_)
        refine skip_ (w1 := ?_) (by rfl) rfl ?_ ?_
        rotate_left
        · go_simp
          rfl
        refine hK.out _ _ ?_
        clear hK K
        refine done_ (by kernel_rfl) ?_
        go_wp2
        refine bodyPost_ret (results_tc rfl _ _ b2 76 (winC ⟨set, lead, trail⟩) (0, 0) _ rfl (blk_put (blk_put (blk_put Y6.out 0 _ rfl) 1 _ rfl) 2 _ rfl) Tryd.underlying76 rfl (by kernel_rfl)) rfl ?_
        rw [HT.out]
        have h9 := (H6.out.fin nb2 n2q HQ.out (.bool set) (.int .i64 (lead : Nat)) (.int .i64 (trail : Nat)))
        have m9 := (mod_fin M6.out (b := b2) (by have := HW.out.2; omega) (.bool set) (.int .i64 (lead : Nat)) (.int .i64 (trail : Nat)))
        refine ⟨(by first | rfl | (simp; done)), h9, m9⟩
      | ok r2 =>
        cases set with
        | true =>
          obtain ⟨wd, hwd⟩ : ∃ wd : Nat, wd = 64 - lead - trail := ⟨_, rfl⟩
          have e1 : IntKind.u64.wrap (trail : Int) = (trail : Int) := by rw [IntKind.wrap_u64]; omega
          have e2_ : IntKind.i64.wrap (64 - (lead : Int)) = 64 - (lead : Int) := IntWalk.i64_in _ (by omega)
          have e3 : IntKind.i64.wrap (64 - (lead : Int) - (trail : Int)) = (wd : Int) := by rw [IntWalk.i64_in _ (by omega)]; omega
          have hwl : wd + trail ≤ 64 := by omega
          have hw0 : 0 < wd := by omega
          have hmt : min trail 64 = trail := by omega
          rw [if_pos rfl, ← hwd] at hT
          have HG3 := Lib.hid (fun (W : World) (hK : Rr W (fun k => ok k ∧ k < bw) q (.ok r2)) => rrget W _ q (.ok r2) hK wd wd (fun _ _ => ⟨rfl, hw0, by omega⟩))
          have hn3 := getT_lt wd (.ok r2)
          generalize getT wd (.ok r2) = G3 at hT HG3 hn3
          obtain ⟨n3, σ3⟩ := G3
          simp only at hT HG3 hn3
          have hsh := shl_ok n3 trail wd hn3 hwl
          have HT := Lib.hid hT
          have HN3 := Lib.hid hn3
          clear hT hwd hn3
          go_enter Tryd.func40, Tryd.ntmps40
          go_upto_region 1 with fail
          rw [← HW.out.1, ← HW.out.2.1, ← HW.out.2.2]
          go_wp2_with fail
          refine (HG1.out).mono ?_
          rintro e w3 ⟨rfl, h3, m3⟩
          have H3 := Lib.hid h3
          have X3 := Lib.hid (m3.blk HX.out.1 nbq)
          have Y3 := Lib.hid (m3.blk HX.out.2 n2q)
          have M3 := Lib.hid (M2.out.trans m3 (fun _ _ h => h))
          clear h3 m3
          go_wp2_with fail
          refine (HG2.out w3 H3.out).mono ?_
          rintro e w4 ⟨rfl, h4, m4⟩
          have H4 := Lib.hid h4
          have X4 := Lib.hid (m4.blk X3.out nbq)
          have Y4 := Lib.hid (m4.blk Y3.out n2q)
          have M4 := Lib.hid (M3.out.trans m4 (fun _ _ h => h))
          clear h4 m4
          have d8 : w4.cell? ⟨q, 2, none⟩ = some (.int .i64 0) := H4.out.err
          have s0 : w4.cell? ⟨bw, 0, none⟩ = some (.bool true) := (blk_cell X4.out 0).trans rfl
          go_upto_region 6 with fail
          have HD := Lib.hid (H4.out.drewN 1)
          have hdr : w4.drewN 1 = w4.drew := rfl
          rw [hdr] at HD
          clear hdr
          have z0 : w4.drew.cell? ⟨bw, 0, none⟩ = some (.bool true) := (blk_cell X4.out 0).trans rfl
          have z1 : w4.drew.cell? ⟨bw, 1, none⟩ = some (.int .i64 (lead : Nat)) := (blk_cell X4.out 1).trans rfl
          have z2 : w4.drew.cell? ⟨bw, 2, none⟩ = some (.int .i64 (trail : Nat)) := (blk_cell X4.out 2).trans rfl
          refine start_ (n := 15) (S := fun w' => w'.cell? ⟨bw, 0, none⟩ = some (.bool true) ∧ w'.cell? ⟨bw, 1, none⟩ = some (.int .i64 (lead : Nat)) ∧ w'.cell? ⟨bw, 2, none⟩ = some (.int .i64 (trail : Nat))) (ds := [14]) #[false, false, false, false, false, false, false, false, false, false, false, false, false, false, false] (by kernel_rfl) rfl rfl ⟨z0, z1, z2⟩ (fun hHeld => ?_)
          refine pure_ (i := 0) (N := some 29) (v := ?_) (a' := ?_) #[true, false, false, false, false, false, false, false, false, false, false, false, false, false, false] rfl rfl (by kernel_rfl) (fun _ _ _ h => h) (Or.inl ⟨by rfl, ?_⟩) ?_ ?_
          rotate_left
          · intro w'
            go_simp
            with_reducible rfl
          rotate_left
          · simp only [Act.put, List.setIfInBounds_toArray, List.set_cons_zero, List.set_cons_succ, i64_w, i32_w]
            rfl
          refine pure_ (i := 1) (N := some 30) (v := ?_) (a' := ?_) #[true, true, false, false, false, false, false, false, false, false, false, false, false, false, false] rfl rfl (by kernel_rfl) (fun _ _ _ h => h) (Or.inl ⟨by rfl, ?_⟩) ?_ ?_
          rotate_left
          · intro w'
            go_simp
            with_reducible rfl
          rotate_left
          · simp only [Act.put, List.setIfInBounds_toArray, List.set_cons_zero, List.set_cons_succ, i64_w, i32_w]
            rfl
          refine pure_ (i := 4) (N := some 33) (v := ?_) (a' := ?_) #[true, true, false, false, true, false, false, false, false, false, false, false, false, false, false] rfl rfl (by kernel_rfl) (fun _ _ _ h => h) (Or.inl ⟨by rfl, ?_⟩) ?_ ?_
          rotate_left
          · intro w'
            go_simp
            with_reducible rfl
          rotate_left
          · simp only [Act.put, List.setIfInBounds_toArray, List.set_cons_zero, List.set_cons_succ, i64_w, i32_w]
            rfl
          refine pure_ (i := 8) (N := some 37) (v := ?_) (a' := ?_) #[true, true, false, false, true, false, false, false, true, false, false, false, false, false, false] rfl rfl (by kernel_rfl) (fun _ _ _ h => h) (Or.inl ⟨by rfl, ?_⟩) ?_ ?_
          rotate_left
          · intro w'
            go_simp
            with_reducible rfl
          rotate_left
          · simp only [Act.put, List.setIfInBounds_toArray, List.set_cons_zero, List.set_cons_succ, i64_w, i32_w]
            rfl
          refine take_ (i := 2) (N := some 31) (v := ?_) (a' := ?_) #[true, true, true, false, true, false, false, false, true, false, false, false, false, false, false] rfl rfl (by kernel_rfl) (fun _ _ _ h => h) (Or.inl ⟨by rfl, ?_⟩) hHeld ?_ ?_
          rotate_left
          · rintro w' ⟨s0, s1, s2⟩
            go_simp
            with_reducible rfl
          rotate_left
          · simp only [Act.put, List.setIfInBounds_toArray, List.set_cons_zero, List.set_cons_succ, i64_w, i32_w]
            rfl
          refine pure_ (i := 3) (N := some 32) (v := ?_) (a' := ?_) #[true, true, true, true, true, false, false, false, true, false, false, false, false, false, false] rfl rfl (by kernel_rfl) (fun _ _ _ h => h) (Or.inl ⟨by rfl, ?_⟩) ?_ ?_
          rotate_left
          · intro w'
            go_simp
            with_reducible rfl
          rotate_left
          · simp only [Act.put, List.setIfInBounds_toArray, List.set_cons_zero, List.set_cons_succ, i64_w, i32_w]
            rfl
          refine take_ (i := 5) (N := some 34) (v := ?_) (a' := ?_) #[true, true, true, true, true, true, false, false, true, false, false, false, false, false, false] rfl rfl (by kernel_rfl) (fun _ _ _ h => h) (Or.inl ⟨by rfl, ?_⟩) hHeld ?_ ?_
          rotate_left
          · rintro w' ⟨s0, s1, s2⟩
            go_simp
            with_reducible rfl
          rotate_left
          · simp only [Act.put, List.setIfInBounds_toArray, List.set_cons_zero, List.set_cons_succ, i64_w, i32_w]
            rfl
          refine pure_ (i := 6) (N := some 35) (v := ?_) (a' := ?_) #[true, true, true, true, true, true, true, false, true, false, false, false, false, false, false] rfl rfl (by kernel_rfl) (fun _ _ _ h => h) (Or.inl ⟨by rfl, ?_⟩) ?_ ?_
          rotate_left
          · intro w'
            go_simp
            with_reducible rfl
          rotate_left
          · simp only [Act.put, List.setIfInBounds_toArray, List.set_cons_zero, List.set_cons_succ, i64_w, i32_w]
            rfl
          refine take_ (i := 9) (N := some 38) (v := ?_) (a' := ?_) #[true, true, true, true, true, true, true, false, true, true, false, false, false, false, false] rfl rfl (by kernel_rfl) (fun _ _ _ h => h) (Or.inl ⟨by rfl, ?_⟩) hHeld ?_ ?_
          rotate_left
          · rintro w' ⟨s0, s1, s2⟩
            go_simp
            with_reducible rfl
          rotate_left
          · simp only [Act.put, List.setIfInBounds_toArray, List.set_cons_zero, List.set_cons_succ, i64_w, i32_w]
            rfl
          refine pure_ (i := 10) (N := some 39) (v := ?_) (a' := ?_) #[true, true, true, true, true, true, true, false, true, true, true, false, false, false, false] rfl rfl (by kernel_rfl) (fun _ _ _ h => h) (Or.inl ⟨by rfl, ?_⟩) ?_ ?_
          rotate_left
          · intro w'
            go_simp
            with_reducible rfl
          rotate_left
          · simp only [Act.put, List.setIfInBounds_toArray, List.set_cons_zero, List.set_cons_succ, i64_w, i32_w]
            rfl
          refine take_ (i := 12) (N := some 41) (v := ?_) (a' := ?_) #[true, true, true, true, true, true, true, false, true, true, true, false, true, false, false] rfl rfl (by kernel_rfl) (fun _ _ _ h => h) (Or.inl ⟨by rfl, ?_⟩) hHeld ?_ ?_
          rotate_left
          · rintro w' ⟨s0, s1, s2⟩
            go_simp
            with_reducible rfl
          rotate_left
          · simp only [Act.put, List.setIfInBounds_toArray, List.set_cons_zero, List.set_cons_succ, i64_w, i32_w]
            rfl
          refine one_ (i := 7) (N := some 36) #[true, true, true, true, true, true, true, true, true, true, true, false, true, false, false] rfl rfl (by kernel_rfl) (by decide) (fun K hK => ?_)
          refine goes_ Tryd.func36 (by kernel_rfl) rfl #[.pointer (some ⟨q, 0, none⟩), .int .i64 wd] (by rfl) rfl rfl (by simp only [List.map_toArray, List.map_cons, List.map_nil]; rfl) ?_
          with_reducible refine (HG3.out w4.drew HD.out).mono ?_
          rintro e w6 ⟨rfl, h6, m6⟩
          refine ⟨_, rfl, ?_⟩
          have H6 := Lib.hid h6
          have X6 := Lib.hid (m6.blk (w := w4.drew) X4.out nbq)
          have Y6 := Lib.hid (m6.blk (w := w4.drew) Y4.out n2q)
          have M6 := Lib.hid ((M4.out.drewN 1).trans m6 (fun _ _ h => h))
          have r0 : w6.cell? ⟨bw, 0, none⟩ = some (.bool true) := (blk_cell X6.out 0).trans rfl
          have r1 : w6.cell? ⟨bw, 1, none⟩ = some (.int .i64 (lead : Nat)) := (blk_cell X6.out 1).trans rfl
          have r2_ : w6.cell? ⟨bw, 2, none⟩ = some (.int .i64 (trail : Nat)) := (blk_cell X6.out 2).trans rfl
          have u0 : w6.cell? ⟨b2, 0, none⟩ = some (.bool false) := (blk_cell Y6.out 0).trans rfl
          have f0 : w6.frozen? ⟨b2, 0, none⟩ = false := blk_frozen Y6.out 0
          have u1 : w6.cell? ⟨b2, 1, none⟩ = some (.int .i64 0) := (blk_cell Y6.out 1).trans rfl
          have f1 : w6.frozen? ⟨b2, 1, none⟩ = false := blk_frozen Y6.out 1
          have u2 : w6.cell? ⟨b2, 2, none⟩ = some (.int .i64 0) := (blk_cell Y6.out 2).trans rfl
          have f2 : w6.frozen? ⟨b2, 2, none⟩ = false := blk_frozen Y6.out 2
          clear h6 m6
          refine hK.out _ _ ⟨r0, r1, r2_⟩ (fun hHeld => ?_)
          clear hK K
          refine norm_ (a' := ?_) ?_ ?_
          rotate_left
          · show Act.put _ (some 36) _ = _
            simp only [Act.put, List.setIfInBounds_toArray, List.set_cons_zero, List.set_cons_succ, i64_w, i32_w]
            rfl
          refine pure_ (i := 11) (N := some 40) (v := ?_) (a' := ?_) #[true, true, true, true, true, true, true, true, true, true, true, true, true, false, false] rfl rfl (by kernel_rfl) (fun _ _ _ h => h) (Or.inl ⟨by rfl, ?_⟩) ?_ ?_
          rotate_left
          · intro w'
            go_simp
            with_reducible rfl
          rotate_left
          · simp only [Act.put, List.setIfInBounds_toArray, List.set_cons_zero, List.set_cons_succ, i64_w, i32_w]
            rfl
          refine pure_ (i := 13) (N := some 4) (v := ?_) (a' := ?_) #[true, true, true, true, true, true, true, true, true, true, true, true, true, true, false] rfl rfl (by kernel_rfl) (fun _ _ _ h => h) (Or.inl ⟨by rfl, ?_⟩) ?_ ?_
          rotate_left
          · intro w'
            go_simp
            with_reducible rfl
          rotate_left
          · simp only [Act.put, List.setIfInBounds_toArray, List.set_cons_zero, List.set_cons_succ, i64_w, i32_w]
            rfl
          refine last_ (i := 14) (N := none) #[true, true, true, true, true, true, true, true, true, true, true, true, true, true, true] rfl rfl (by kernel_rfl) (by decide) (fun K hK => ?_)
          refine skip_ (w1 := ?_) (by rfl) rfl ?_ ?_
          rotate_left
          · go_simp
            rfl
          refine hK.out _ _ ?_
          clear hK K
          refine done_ (by kernel_rfl) ?_
          go_wp2
          refine bodyPost_ret (results_tc rfl _ _ b2 76 (winC ⟨true, lead, trail⟩) (0, 0) _ rfl (blk_put (blk_put (blk_put Y6.out 0 _ rfl) 1 _ rfl) 2 _ rfl) Tryd.underlying76 rfl (by kernel_rfl)) rfl ?_
          rw [HT.out]
          have h9 := (H6.out.fin nb2 n2q HQ.out (.bool true) (.int .i64 (lead : Nat)) (.int .i64 (trail : Nat)))
          have m9 := (mod_fin M6.out (b := b2) (by have := HW.out.2; omega) (.bool true) (.int .i64 (lead : Nat)) (.int .i64 (trail : Nat)))
          refine ⟨(by first | rfl | (rw [← hsh]; done) | (simp only [hsh]; done)), h9, m9⟩
        | false =>
          rw [if_neg (by decide)] at hT
          have HT : Hid (turnT ⟨false, lead, trail⟩ σ = (0, ⟨false, lead, trail⟩, .error 8)) := Lib.hid hT
          clear hT
          obtain ⟨wd, hwd⟩ : ∃ wd : Nat, wd = 64 - lead - trail := ⟨_, rfl⟩
          have e1 : IntKind.u64.wrap (trail : Int) = (trail : Int) := by rw [IntKind.wrap_u64]; omega
          have e2_ : IntKind.i64.wrap (64 - (lead : Int)) = 64 - (lead : Int) := IntWalk.i64_in _ (by omega)
          have e3 : IntKind.i64.wrap (64 - (lead : Int) - (trail : Int)) = (wd : Int) := by rw [IntWalk.i64_in _ (by omega)]; omega
          have hwl : wd + trail ≤ 64 := by omega
          have hw0 : 0 < wd := by omega
          have hmt : min trail 64 = trail := by omega
          have HG3 := Lib.hid (fun (W : World) (hK : Rr W (fun k => ok k ∧ k < bw) q (.error 8)) => rrget W _ q (.error 8) hK wd wd (fun _ h => by cases h))
          rw [getT_er] at HG3
          clear hwd
          go_enter Tryd.func40, Tryd.ntmps40
          go_upto_region 1 with fail
          rw [← HW.out.1, ← HW.out.2.1, ← HW.out.2.2]
          go_wp2_with fail
          refine (HG1.out).mono ?_
          rintro e w3 ⟨rfl, h3, m3⟩
          have H3 := Lib.hid h3
          have X3 := Lib.hid (m3.blk HX.out.1 nbq)
          have Y3 := Lib.hid (m3.blk HX.out.2 n2q)
          have M3 := Lib.hid (M2.out.trans m3 (fun _ _ h => h))
          clear h3 m3
          go_wp2_with fail
          refine (HG2.out w3 H3.out).mono ?_
          rintro e w4 ⟨rfl, h4, m4⟩
          have H4 := Lib.hid h4
          have X4 := Lib.hid (m4.blk X3.out nbq)
          have Y4 := Lib.hid (m4.blk Y3.out n2q)
          have M4 := Lib.hid (M3.out.trans m4 (fun _ _ h => h))
          clear h4 m4
          have d8 : w4.cell? ⟨q, 2, none⟩ = some (.int .i64 0) := H4.out.err
          have s0 : w4.cell? ⟨bw, 0, none⟩ = some (.bool false) := (blk_cell X4.out 0).trans rfl
          have fq := H4.out.frz
          go_upto_region 6 with fail
          obtain ⟨h5, m5⟩ := H4.out.failed 8 (by decide)
          obtain ⟨w5, hw5⟩ : ∃ w5, w5 = w4.setCell ⟨q, 2, none⟩ (.int .i64 8) := ⟨_, rfl⟩
          rw [← hw5] at h5 m5 ⊢
          have H5 := Lib.hid h5
          have X5 := Lib.hid (m5.blk X4.out nbq)
          have Y5 := Lib.hid (m5.blk Y4.out n2q)
          have M5 := Lib.hid (M4.out.trans m5 (fun _ _ h => h))
          clear h5 m5 hw5
          have HD := Lib.hid (H5.out.drewN 1)
          have hdr : w5.drewN 1 = w5.drew := rfl
          rw [hdr] at HD
          clear hdr
          have z0 : w5.drew.cell? ⟨bw, 0, none⟩ = some (.bool false) := (blk_cell X5.out 0).trans rfl
          have z1 : w5.drew.cell? ⟨bw, 1, none⟩ = some (.int .i64 (lead : Nat)) := (blk_cell X5.out 1).trans rfl
          have z2 : w5.drew.cell? ⟨bw, 2, none⟩ = some (.int .i64 (trail : Nat)) := (blk_cell X5.out 2).trans rfl
          refine start_ (n := 15) (S := fun w' => w'.cell? ⟨bw, 0, none⟩ = some (.bool false) ∧ w'.cell? ⟨bw, 1, none⟩ = some (.int .i64 (lead : Nat)) ∧ w'.cell? ⟨bw, 2, none⟩ = some (.int .i64 (trail : Nat))) (ds := [14]) #[false, false, false, false, false, false, false, false, false, false, false, false, false, false, false] (by kernel_rfl) rfl rfl ⟨z0, z1, z2⟩ (fun hHeld => ?_)
          refine pure_ (i := 0) (N := some 29) (v := ?_) (a' := ?_) #[true, false, false, false, false, false, false, false, false, false, false, false, false, false, false] rfl rfl (by kernel_rfl) (fun _ _ _ h => h) (Or.inl ⟨by rfl, ?_⟩) ?_ ?_
          rotate_left
          · intro w'
            go_simp
            with_reducible rfl
          rotate_left
          · simp only [Act.put, List.setIfInBounds_toArray, List.set_cons_zero, List.set_cons_succ, i64_w, i32_w]
            rfl
          refine pure_ (i := 1) (N := some 30) (v := ?_) (a' := ?_) #[true, true, false, false, false, false, false, false, false, false, false, false, false, false, false] rfl rfl (by kernel_rfl) (fun _ _ _ h => h) (Or.inl ⟨by rfl, ?_⟩) ?_ ?_
          rotate_left
          · intro w'
            go_simp
            with_reducible rfl
          rotate_left
          · simp only [Act.put, List.setIfInBounds_toArray, List.set_cons_zero, List.set_cons_succ, i64_w, i32_w]
            rfl
          refine pure_ (i := 4) (N := some 33) (v := ?_) (a' := ?_) #[true, true, false, false, true, false, false, false, false, false, false, false, false, false, false] rfl rfl (by kernel_rfl) (fun _ _ _ h => h) (Or.inl ⟨by rfl, ?_⟩) ?_ ?_
          rotate_left
          · intro w'
            go_simp
            with_reducible rfl
          rotate_left
          · simp only [Act.put, List.setIfInBounds_toArray, List.set_cons_zero, List.set_cons_succ, i64_w, i32_w]
            rfl
          refine pure_ (i := 8) (N := some 37) (v := ?_) (a' := ?_) #[true, true, false, false, true, false, false, false, true, false, false, false, false, false, false] rfl rfl (by kernel_rfl) (fun _ _ _ h => h) (Or.inl ⟨by rfl, ?_⟩) ?_ ?_
          rotate_left
          · intro w'
            go_simp
            with_reducible rfl
          rotate_left
          · simp only [Act.put, List.setIfInBounds_toArray, List.set_cons_zero, List.set_cons_succ, i64_w, i32_w]
            rfl
          refine take_ (i := 2) (N := some 31) (v := ?_) (a' := ?_) #[true, true, true, false, true, false, false, false, true, false, false, false, false, false, false] rfl rfl (by kernel_rfl) (fun _ _ _ h => h) (Or.inl ⟨by rfl, ?_⟩) hHeld ?_ ?_
          rotate_left
          · rintro w' ⟨s0, s1, s2⟩
            go_simp
            with_reducible rfl
          rotate_left
          · simp only [Act.put, List.setIfInBounds_toArray, List.set_cons_zero, List.set_cons_succ, i64_w, i32_w]
            rfl
          refine pure_ (i := 3) (N := some 32) (v := ?_) (a' := ?_) #[true, true, true, true, true, false, false, false, true, false, false, false, false, false, false] rfl rfl (by kernel_rfl) (fun _ _ _ h => h) (Or.inl ⟨by rfl, ?_⟩) ?_ ?_
          rotate_left
          · intro w'
            go_simp
            with_reducible rfl
          rotate_left
          · simp only [Act.put, List.setIfInBounds_toArray, List.set_cons_zero, List.set_cons_succ, i64_w, i32_w]
            rfl
          refine take_ (i := 5) (N := some 34) (v := ?_) (a' := ?_) #[true, true, true, true, true, true, false, false, true, false, false, false, false, false, false] rfl rfl (by kernel_rfl) (fun _ _ _ h => h) (Or.inl ⟨by rfl, ?_⟩) hHeld ?_ ?_
          rotate_left
          · rintro w' ⟨s0, s1, s2⟩
            go_simp
            with_reducible rfl
          rotate_left
          · simp only [Act.put, List.setIfInBounds_toArray, List.set_cons_zero, List.set_cons_succ, i64_w, i32_w]
            rfl
          refine pure_ (i := 6) (N := some 35) (v := ?_) (a' := ?_) #[true, true, true, true, true, true, true, false, true, false, false, false, false, false, false] rfl rfl (by kernel_rfl) (fun _ _ _ h => h) (Or.inl ⟨by rfl, ?_⟩) ?_ ?_
          rotate_left
          · intro w'
            go_simp
            with_reducible rfl
          rotate_left
          · simp only [Act.put, List.setIfInBounds_toArray, List.set_cons_zero, List.set_cons_succ, i64_w, i32_w]
            rfl
          refine take_ (i := 9) (N := some 38) (v := ?_) (a' := ?_) #[true, true, true, true, true, true, true, false, true, true, false, false, false, false, false] rfl rfl (by kernel_rfl) (fun _ _ _ h => h) (Or.inl ⟨by rfl, ?_⟩) hHeld ?_ ?_
          rotate_left
          · rintro w' ⟨s0, s1, s2⟩
            go_simp
            with_reducible rfl
          rotate_left
          · simp only [Act.put, List.setIfInBounds_toArray, List.set_cons_zero, List.set_cons_succ, i64_w, i32_w]
            rfl
          refine pure_ (i := 10) (N := some 39) (v := ?_) (a' := ?_) #[true, true, true, true, true, true, true, false, true, true, true, false, false, false, false] rfl rfl (by kernel_rfl) (fun _ _ _ h => h) (Or.inl ⟨by rfl, ?_⟩) ?_ ?_
          rotate_left
          · intro w'
            go_simp
            with_reducible rfl
          rotate_left
          · simp only [Act.put, List.setIfInBounds_toArray, List.set_cons_zero, List.set_cons_succ, i64_w, i32_w]
            rfl
          refine take_ (i := 12) (N := some 41) (v := ?_) (a' := ?_) #[true, true, true, true, true, true, true, false, true, true, true, false, true, false, false] rfl rfl (by kernel_rfl) (fun _ _ _ h => h) (Or.inl ⟨by rfl, ?_⟩) hHeld ?_ ?_
          rotate_left
          · rintro w' ⟨s0, s1, s2⟩
            go_simp
            with_reducible rfl
          rotate_left
          · simp only [Act.put, List.setIfInBounds_toArray, List.set_cons_zero, List.set_cons_succ, i64_w, i32_w]
            rfl
          refine one_ (i := 7) (N := some 36) #[true, true, true, true, true, true, true, true, true, true, true, false, true, false, false] rfl rfl (by kernel_rfl) (by decide) (fun K hK => ?_)
          refine goes_ Tryd.func36 (by kernel_rfl) rfl #[.pointer (some ⟨q, 0, none⟩), .int .i64 wd] (by rfl) rfl rfl (by simp only [List.map_toArray, List.map_cons, List.map_nil]; rfl) ?_
          with_reducible refine (HG3.out w5.drew HD.out).mono ?_
          rintro e w6 ⟨rfl, h6, m6⟩
          refine ⟨_, rfl, ?_⟩
          have H6 := Lib.hid h6
          have X6 := Lib.hid (m6.blk (w := w5.drew) X5.out nbq)
          have Y6 := Lib.hid (m6.blk (w := w5.drew) Y5.out n2q)
          have M6 := Lib.hid ((M5.out.drewN 1).trans m6 (fun _ _ h => h))
          have r0 : w6.cell? ⟨bw, 0, none⟩ = some (.bool false) := (blk_cell X6.out 0).trans rfl
          have r1 : w6.cell? ⟨bw, 1, none⟩ = some (.int .i64 (lead : Nat)) := (blk_cell X6.out 1).trans rfl
          have r2_ : w6.cell? ⟨bw, 2, none⟩ = some (.int .i64 (trail : Nat)) := (blk_cell X6.out 2).trans rfl
          have u0 : w6.cell? ⟨b2, 0, none⟩ = some (.bool false) := (blk_cell Y6.out 0).trans rfl
          have f0 : w6.frozen? ⟨b2, 0, none⟩ = false := blk_frozen Y6.out 0
          have u1 : w6.cell? ⟨b2, 1, none⟩ = some (.int .i64 0) := (blk_cell Y6.out 1).trans rfl
          have f1 : w6.frozen? ⟨b2, 1, none⟩ = false := blk_frozen Y6.out 1
          have u2 : w6.cell? ⟨b2, 2, none⟩ = some (.int .i64 0) := (blk_cell Y6.out 2).trans rfl
          have f2 : w6.frozen? ⟨b2, 2, none⟩ = false := blk_frozen Y6.out 2
          clear h6 m6
          refine hK.out _ _ ⟨r0, r1, r2_⟩ (fun hHeld => ?_)
          clear hK K
          refine norm_ (a' := ?_) ?_ ?_
          rotate_left
          · show Act.put _ (some 36) _ = _
            simp only [Act.put, List.setIfInBounds_toArray, List.set_cons_zero, List.set_cons_succ, i64_w, i32_w]
            rfl
          refine pure_ (i := 11) (N := some 40) (v := ?_) (a' := ?_) #[true, true, true, true, true, true, true, true, true, true, true, true, true, false, false] rfl rfl (by kernel_rfl) (fun _ _ _ h => h) (Or.inl ⟨by rfl, ?_⟩) ?_ ?_
          rotate_left
          · intro w'
            go_simp
            with_reducible rfl
          rotate_left
          · simp only [Act.put, List.setIfInBounds_toArray, List.set_cons_zero, List.set_cons_succ, i64_w, i32_w]
            rfl
          refine pure_ (i := 13) (N := some 4) (v := ?_) (a' := ?_) #[true, true, true, true, true, true, true, true, true, true, true, true, true, true, false] rfl rfl (by kernel_rfl) (fun _ _ _ h => h) (Or.inl ⟨by rfl, ?_⟩) ?_ ?_
          rotate_left
          · intro w'
            go_simp
            with_reducible rfl
          rotate_left
          · simp only [Act.put, List.setIfInBounds_toArray, List.set_cons_zero, List.set_cons_succ, i64_w, i32_w]
            rfl
          refine last_ (i := 14) (N := none) #[true, true, true, true, true, true, true, true, true, true, true, true, true, true, true] rfl rfl (by kernel_rfl) (by decide) (fun K hK => ?_)
          refine skip_ (w1 := ?_) (by rfl) rfl ?_ ?_
          rotate_left
          · go_simp
            rfl
          refine hK.out _ _ ?_
          clear hK K
          refine done_ (by kernel_rfl) ?_
          go_wp2
          refine bodyPost_ret (results_tc rfl _ _ b2 76 (winC ⟨false, lead, trail⟩) (0, 0) _ rfl (blk_put (blk_put (blk_put Y6.out 0 _ rfl) 1 _ rfl) 2 _ rfl) Tryd.underlying76 rfl (by kernel_rfl)) rfl ?_
          rw [HT.out]
          have h9 := (H6.out.fin nb2 n2q HQ.out (.bool false) (.int .i64 (lead : Nat)) (.int .i64 (trail : Nat)))
          have m9 := (mod_fin M6.out (b := b2) (by have := HW.out.2; omega) (.bool false) (.int .i64 (lead : Nat)) (.int .i64 (trail : Nat)))
          refine ⟨(by first | rfl | (simp; done)), h9, m9⟩
    · rw [if_neg c2] at hT
      have b2_ : ((n2 : Int) == 0) = false := beq_false_of_ne (by omega)
      have HG3 := Lib.hid (fun (W : World) (hK : Rr W (fun k => ok k ∧ k < bw) q σ2) => rrget W _ q σ2 hK 5 5 (fun _ _ => ⟨rfl, by decide, by decide⟩))
      have hn3 := getT_lt 5 σ2
      generalize getT 5 σ2 = G3 at hT HG3 hn3
      obtain ⟨l, σ3⟩ := G3
      simp only at hT HG3 hn3
      have HG4 := Lib.hid (fun (W : World) (hK : Rr W (fun k => ok k ∧ k < bw) q σ3) => rrget W _ q σ3 hK 6 6 (fun _ _ => ⟨rfl, by decide, by decide⟩))
      have hn4 := getT_lt 6 σ3
      generalize getT 6 σ3 = G4 at hT HG4 hn4
      obtain ⟨m0, σ4⟩ := G4
      simp only at hT HG4 hn4
      have k1 : IntKind.i64.wrap (l : Int) = (l : Int) := IntWalk.i64_in _ (by omega)
      have k2 : IntKind.i64.wrap (m0 : Int) = (m0 : Int) := IntWalk.i64_in _ (by omega)
      have hm : (m0 = 0 ∧ wideT m0 = 64) ∨ (m0 ≠ 0 ∧ wideT m0 = m0) := by
        unfold wideT
        by_cases h : m0 = 0
        · exact .inl ⟨h, if_pos h⟩
        · exact .inr ⟨h, if_neg h⟩
      rcases hm with ⟨hm1, hm2⟩ | ⟨hm1, hm2⟩
      · rw [hm2] at hT
        have bm : ((m0 : Int) == 0) = true := by rw [hm1]; rfl
        clear hm2
        cases σ4 with
        | error e4 =>
          have HT : Hid (turnT ⟨set, lead, trail⟩ σ = (0, ⟨set, lead, trail⟩, .error e4)) := Lib.hid (by rw [hT]; unfold turnT4; rw [formT_er]; rfl)
          have e5 : IntKind.i64.wrap ((l : Int) + 64) = (l : Int) + 64 := IntWalk.i64_in _ (by omega)
          clear hT
          by_cases hbg : (l : Int) + 64 > 64
          · go_enter Tryd.func40, Tryd.ntmps40
            go_upto_region 1 with fail
            rw [← HW.out.1, ← HW.out.2.1, ← HW.out.2.2]
            go_wp2_with fail
            refine (HG1.out).mono ?_
            rintro e w3 ⟨rfl, h3, m3⟩
            have H3 := Lib.hid h3
            have X3 := Lib.hid (m3.blk HX.out.1 nbq)
            have Y3 := Lib.hid (m3.blk HX.out.2 n2q)
            have M3 := Lib.hid (M2.out.trans m3 (fun _ _ h => h))
            clear h3 m3
            go_wp2_with fail
            refine (HG2.out w3 H3.out).mono ?_
            rintro e w4 ⟨rfl, h4, m4⟩
            have H4 := Lib.hid h4
            have X4 := Lib.hid (m4.blk X3.out nbq)
            have Y4 := Lib.hid (m4.blk Y3.out n2q)
            have M4 := Lib.hid (M3.out.trans m4 (fun _ _ h => h))
            clear h4 m4
            go_wp2_with fail
            refine (HG3.out w4 H4.out).mono ?_
            rintro e w5 ⟨rfl, h5, m5⟩
            have H5 := Lib.hid h5
            have X5 := Lib.hid (m5.blk X4.out nbq)
            have Y5 := Lib.hid (m5.blk Y4.out n2q)
            have M5 := Lib.hid (M4.out.trans m5 (fun _ _ h => h))
            clear h5 m5
            go_wp2_with fail
            refine (HG4.out w5 H5.out).mono ?_
            rintro e w6 ⟨rfl, h6, m6⟩
            have H6 := Lib.hid h6
            have X6 := Lib.hid (m6.blk X5.out nbq)
            have Y6 := Lib.hid (m6.blk Y5.out n2q)
            have M6 := Lib.hid (M5.out.trans m6 (fun _ _ h => h))
            clear h6 m6
            have d8 : w6.cell? ⟨q, 2, none⟩ = some (.int .i64 e4) := H6.out.err
            have be : (e4 == 0) = false := beq_false_of_ne (H6.out.good e4 rfl)
            have z0 : w6.drew.cell? ⟨bw, 0, none⟩ = some (.bool set) := (blk_cell X6.out 0).trans rfl
            have y0 : w6.cell? ⟨bw, 0, none⟩ = some (.bool set) := z0
            have z1 : w6.drew.cell? ⟨bw, 1, none⟩ = some (.int .i64 (lead : Nat)) := (blk_cell X6.out 1).trans rfl
            have y1 : w6.cell? ⟨bw, 1, none⟩ = some (.int .i64 (lead : Nat)) := z1
            have z2 : w6.drew.cell? ⟨bw, 2, none⟩ = some (.int .i64 (trail : Nat)) := (blk_cell X6.out 2).trans rfl
            have y2 : w6.cell? ⟨bw, 2, none⟩ = some (.int .i64 (trail : Nat)) := z2
            have u0 : w6.cell? ⟨b2, 0, none⟩ = some (.bool false) := (blk_cell Y6.out 0).trans rfl
            have f0 : w6.frozen? ⟨b2, 0, none⟩ = false := blk_frozen Y6.out 0
            have v0 : w6.drew.cell? ⟨b2, 0, none⟩ = some (.bool false) := u0
            have g0 : w6.drew.frozen? ⟨b2, 0, none⟩ = false := f0
            have u1 : w6.cell? ⟨b2, 1, none⟩ = some (.int .i64 0) := (blk_cell Y6.out 1).trans rfl
            have f1 : w6.frozen? ⟨b2, 1, none⟩ = false := blk_frozen Y6.out 1
            have v1 : w6.drew.cell? ⟨b2, 1, none⟩ = some (.int .i64 0) := u1
            have g1 : w6.drew.frozen? ⟨b2, 1, none⟩ = false := f1
            have u2 : w6.cell? ⟨b2, 2, none⟩ = some (.int .i64 0) := (blk_cell Y6.out 2).trans rfl
            have f2 : w6.frozen? ⟨b2, 2, none⟩ = false := blk_frozen Y6.out 2
            have v2 : w6.drew.cell? ⟨b2, 2, none⟩ = some (.int .i64 0) := u2
            have g2 : w6.drew.frozen? ⟨b2, 2, none⟩ = false := f2
            go_upto_region 14 with fail
            refine start_ (n := 3) (S := fun w' => w'.cell? ⟨bw, 0, none⟩ = some (.bool set) ∧ w'.cell? ⟨bw, 1, none⟩ = some (.int .i64 (lead : Nat)) ∧ w'.cell? ⟨bw, 2, none⟩ = some (.int .i64 (trail : Nat))) (ds := [2]) #[false, false, false] (by kernel_rfl) rfl rfl ⟨z0, z1, z2⟩ (fun hHeld => ?_)
            refine pure_ (i := 1) (N := some 4) (v := ?_) (a' := ?_) #[false, true, false] rfl rfl (by kernel_rfl) (fun _ _ _ h => h) (Or.inl ⟨by rfl, ?_⟩) ?_ ?_
            rotate_left
            · intro w'
              go_simp
              with_reducible rfl
            rotate_left
            · simp only [Act.put, List.setIfInBounds_toArray, List.set_cons_zero, List.set_cons_succ, i64_w, i32_w]
              rfl
            refine take_ (i := 0) (N := some 69) (v := ?_) (a' := ?_) #[true, true, false] rfl rfl (by kernel_rfl) (fun _ _ _ h => h) (Or.inl ⟨by rfl, ?_⟩) hHeld ?_ ?_
            rotate_left
            · rintro w' ⟨s0, s1, s2⟩
              go_simp
              with_reducible rfl
            rotate_left
            · simp only [Act.put, List.setIfInBounds_toArray, List.set_cons_zero, List.set_cons_succ, i64_w, i32_w]
              rfl
            refine last_ (i := 2) (N := none) #[true, true, true] rfl rfl (by kernel_rfl) (by decide) (fun K hK => ?_)
            refine skip_ (w1 := ?_) (by rfl) rfl ?_ ?_
            rotate_left
            · go_simp
              rfl
            refine hK.out _ _ ?_
            clear hK K
            refine done_ (by kernel_rfl) ?_
            go_wp2
            refine bodyPost_ret (results_tc rfl _ _ b2 76 (winC ⟨set, lead, trail⟩) (0, 0) _ rfl (blk_put (blk_put (blk_put Y6.out 0 _ rfl) 1 _ rfl) 2 _ rfl) Tryd.underlying76 rfl (by kernel_rfl)) rfl ?_
            rw [HT.out]
            have h9 := (H6.out.fin nb2 n2q HQ.out (.bool set) (.int .i64 (lead : Nat)) (.int .i64 (trail : Nat))).drewN 1
            have m9 := (mod_fin M6.out (b := b2) (by have := HW.out.2; omega) (.bool set) (.int .i64 (lead : Nat)) (.int .i64 (trail : Nat))).drewN 1
            refine ⟨rfl, h9, m9⟩
          · go_enter Tryd.func40, Tryd.ntmps40
            go_upto_region 1 with fail
            rw [← HW.out.1, ← HW.out.2.1, ← HW.out.2.2]
            go_wp2_with fail
            refine (HG1.out).mono ?_
            rintro e w3 ⟨rfl, h3, m3⟩
            have H3 := Lib.hid h3
            have X3 := Lib.hid (m3.blk HX.out.1 nbq)
            have Y3 := Lib.hid (m3.blk HX.out.2 n2q)
            have M3 := Lib.hid (M2.out.trans m3 (fun _ _ h => h))
            clear h3 m3
            go_wp2_with fail
            refine (HG2.out w3 H3.out).mono ?_
            rintro e w4 ⟨rfl, h4, m4⟩
            have H4 := Lib.hid h4
            have X4 := Lib.hid (m4.blk X3.out nbq)
            have Y4 := Lib.hid (m4.blk Y3.out n2q)
            have M4 := Lib.hid (M3.out.trans m4 (fun _ _ h => h))
            clear h4 m4
            go_wp2_with fail
            refine (HG3.out w4 H4.out).mono ?_
            rintro e w5 ⟨rfl, h5, m5⟩
            have H5 := Lib.hid h5
            have X5 := Lib.hid (m5.blk X4.out nbq)
            have Y5 := Lib.hid (m5.blk Y4.out n2q)
            have M5 := Lib.hid (M4.out.trans m5 (fun _ _ h => h))
            clear h5 m5
            go_wp2_with fail
            refine (HG4.out w5 H5.out).mono ?_
            rintro e w6 ⟨rfl, h6, m6⟩
            have H6 := Lib.hid h6
            have X6 := Lib.hid (m6.blk X5.out nbq)
            have Y6 := Lib.hid (m6.blk Y5.out n2q)
            have M6 := Lib.hid (M5.out.trans m6 (fun _ _ h => h))
            clear h6 m6
            have d8 : w6.cell? ⟨q, 2, none⟩ = some (.int .i64 e4) := H6.out.err
            have be : (e4 == 0) = false := beq_false_of_ne (H6.out.good e4 rfl)
            have z0 : w6.drew.cell? ⟨bw, 0, none⟩ = some (.bool set) := (blk_cell X6.out 0).trans rfl
            have y0 : w6.cell? ⟨bw, 0, none⟩ = some (.bool set) := z0
            have z1 : w6.drew.cell? ⟨bw, 1, none⟩ = some (.int .i64 (lead : Nat)) := (blk_cell X6.out 1).trans rfl
            have y1 : w6.cell? ⟨bw, 1, none⟩ = some (.int .i64 (lead : Nat)) := z1
            have z2 : w6.drew.cell? ⟨bw, 2, none⟩ = some (.int .i64 (trail : Nat)) := (blk_cell X6.out 2).trans rfl
            have y2 : w6.cell? ⟨bw, 2, none⟩ = some (.int .i64 (trail : Nat)) := z2
            have u0 : w6.cell? ⟨b2, 0, none⟩ = some (.bool false) := (blk_cell Y6.out 0).trans rfl
            have f0 : w6.frozen? ⟨b2, 0, none⟩ = false := blk_frozen Y6.out 0
            have v0 : w6.drew.cell? ⟨b2, 0, none⟩ = some (.bool false) := u0
            have g0 : w6.drew.frozen? ⟨b2, 0, none⟩ = false := f0
            have u1 : w6.cell? ⟨b2, 1, none⟩ = some (.int .i64 0) := (blk_cell Y6.out 1).trans rfl
            have f1 : w6.frozen? ⟨b2, 1, none⟩ = false := blk_frozen Y6.out 1
            have v1 : w6.drew.cell? ⟨b2, 1, none⟩ = some (.int .i64 0) := u1
            have g1 : w6.drew.frozen? ⟨b2, 1, none⟩ = false := f1
            have u2 : w6.cell? ⟨b2, 2, none⟩ = some (.int .i64 0) := (blk_cell Y6.out 2).trans rfl
            have f2 : w6.frozen? ⟨b2, 2, none⟩ = false := blk_frozen Y6.out 2
            have v2 : w6.drew.cell? ⟨b2, 2, none⟩ = some (.int .i64 0) := u2
            have g2 : w6.drew.frozen? ⟨b2, 2, none⟩ = false := f2
            go_upto_region 14 with fail
            refine start_ (n := 3) (S := fun w' => w'.cell? ⟨bw, 0, none⟩ = some (.bool set) ∧ w'.cell? ⟨bw, 1, none⟩ = some (.int .i64 (lead : Nat)) ∧ w'.cell? ⟨bw, 2, none⟩ = some (.int .i64 (trail : Nat))) (ds := [2]) #[false, false, false] (by kernel_rfl) rfl rfl ⟨z0, z1, z2⟩ (fun hHeld => ?_)
            refine pure_ (i := 1) (N := some 4) (v := ?_) (a' := ?_) #[false, true, false] rfl rfl (by kernel_rfl) (fun _ _ _ h => h) (Or.inl ⟨by rfl, ?_⟩) ?_ ?_
            rotate_left
            · intro w'
              go_simp
              with_reducible rfl
            rotate_left
            · simp only [Act.put, List.setIfInBounds_toArray, List.set_cons_zero, List.set_cons_succ, i64_w, i32_w]
              rfl
            refine take_ (i := 0) (N := some 69) (v := ?_) (a' := ?_) #[true, true, false] rfl rfl (by kernel_rfl) (fun _ _ _ h => h) (Or.inl ⟨by rfl, ?_⟩) hHeld ?_ ?_
            rotate_left
            · rintro w' ⟨s0, s1, s2⟩
              go_simp
              with_reducible rfl
            rotate_left
            · simp only [Act.put, List.setIfInBounds_toArray, List.set_cons_zero, List.set_cons_succ, i64_w, i32_w]
              rfl
            refine last_ (i := 2) (N := none) #[true, true, true] rfl rfl (by kernel_rfl) (by decide) (fun K hK => ?_)
            refine skip_ (w1 := ?_) (by rfl) rfl ?_ ?_
            rotate_left
            · go_simp
              rfl
            refine hK.out _ _ ?_
            clear hK K
            refine done_ (by kernel_rfl) ?_
            go_wp2
            refine bodyPost_ret (results_tc rfl _ _ b2 76 (winC ⟨set, lead, trail⟩) (0, 0) _ rfl (blk_put (blk_put (blk_put Y6.out 0 _ rfl) 1 _ rfl) 2 _ rfl) Tryd.underlying76 rfl (by kernel_rfl)) rfl ?_
            rw [HT.out]
            have h9 := (H6.out.fin nb2 n2q HQ.out (.bool set) (.int .i64 (lead : Nat)) (.int .i64 (trail : Nat))).drewN 1
            have m9 := (mod_fin M6.out (b := b2) (by have := HW.out.2; omega) (.bool set) (.int .i64 (lead : Nat)) (.int .i64 (trail : Nat))).drewN 1
            refine ⟨rfl, h9, m9⟩
        | ok r4 =>
          have e5 : IntKind.i64.wrap ((l : Int) + 64) = (l : Int) + 64 := IntWalk.i64_in _ (by omega)
          by_cases hbad : 64 < l + 64
          · have HT : Hid (turnT ⟨set, lead, trail⟩ σ = (0, ⟨set, lead, trail⟩, .error 8)) := Lib.hid (by rw [hT]; unfold turnT4; rw [formT_bad hbad]; rfl)
            have hb2 : (l : Int) + 64 > 64 := by omega
            clear hT
            go_enter Tryd.func40, Tryd.ntmps40
            go_upto_region 1 with fail
            rw [← HW.out.1, ← HW.out.2.1, ← HW.out.2.2]
            go_wp2_with fail
            refine (HG1.out).mono ?_
            rintro e w3 ⟨rfl, h3, m3⟩
            have H3 := Lib.hid h3
            have X3 := Lib.hid (m3.blk HX.out.1 nbq)
            have Y3 := Lib.hid (m3.blk HX.out.2 n2q)
            have M3 := Lib.hid (M2.out.trans m3 (fun _ _ h => h))
            clear h3 m3
            go_wp2_with fail
            refine (HG2.out w3 H3.out).mono ?_
            rintro e w4 ⟨rfl, h4, m4⟩
            have H4 := Lib.hid h4
            have X4 := Lib.hid (m4.blk X3.out nbq)
            have Y4 := Lib.hid (m4.blk Y3.out n2q)
            have M4 := Lib.hid (M3.out.trans m4 (fun _ _ h => h))
            clear h4 m4
            go_wp2_with fail
            refine (HG3.out w4 H4.out).mono ?_
            rintro e w5 ⟨rfl, h5, m5⟩
            have H5 := Lib.hid h5
            have X5 := Lib.hid (m5.blk X4.out nbq)
            have Y5 := Lib.hid (m5.blk Y4.out n2q)
            have M5 := Lib.hid (M4.out.trans m5 (fun _ _ h => h))
            clear h5 m5
            go_wp2_with fail
            refine (HG4.out w5 H5.out).mono ?_
            rintro e w6 ⟨rfl, h6, m6⟩
            have H6 := Lib.hid h6
            have X6 := Lib.hid (m6.blk X5.out nbq)
            have Y6 := Lib.hid (m6.blk Y5.out n2q)
            have M6 := Lib.hid (M5.out.trans m6 (fun _ _ h => h))
            clear h6 m6
            have d8 : w6.cell? ⟨q, 2, none⟩ = some (.int .i64 0) := H6.out.err
            have fq := H6.out.frz
            go_upto_region 13 with fail
            obtain ⟨h7, m7⟩ := H6.out.failed 8 (by decide)
            obtain ⟨w7, hw7⟩ : ∃ w7, w7 = w6.setCell ⟨q, 2, none⟩ (.int .i64 8) := ⟨_, rfl⟩
            rw [← hw7] at h7 m7 ⊢
            have H7 := Lib.hid h7
            have X7 := Lib.hid (m7.blk X6.out nbq)
            have Y7 := Lib.hid (m7.blk Y6.out n2q)
            have M7 := Lib.hid (M6.out.trans m7 (fun _ _ h => h))
            have d9 : w7.cell? ⟨q, 2, none⟩ = some (.int .i64 8) := h7.err
            clear h7 m7 hw7
            have z0 : w7.drew.cell? ⟨bw, 0, none⟩ = some (.bool set) := (blk_cell X7.out 0).trans rfl
            have y0 : w7.cell? ⟨bw, 0, none⟩ = some (.bool set) := z0
            have z1 : w7.drew.cell? ⟨bw, 1, none⟩ = some (.int .i64 (lead : Nat)) := (blk_cell X7.out 1).trans rfl
            have y1 : w7.cell? ⟨bw, 1, none⟩ = some (.int .i64 (lead : Nat)) := z1
            have z2 : w7.drew.cell? ⟨bw, 2, none⟩ = some (.int .i64 (trail : Nat)) := (blk_cell X7.out 2).trans rfl
            have y2 : w7.cell? ⟨bw, 2, none⟩ = some (.int .i64 (trail : Nat)) := z2
            have u0 : w7.cell? ⟨b2, 0, none⟩ = some (.bool false) := (blk_cell Y7.out 0).trans rfl
            have f0 : w7.frozen? ⟨b2, 0, none⟩ = false := blk_frozen Y7.out 0
            have v0 : w7.drew.cell? ⟨b2, 0, none⟩ = some (.bool false) := u0
            have g0 : w7.drew.frozen? ⟨b2, 0, none⟩ = false := f0
            have u1 : w7.cell? ⟨b2, 1, none⟩ = some (.int .i64 0) := (blk_cell Y7.out 1).trans rfl
            have f1 : w7.frozen? ⟨b2, 1, none⟩ = false := blk_frozen Y7.out 1
            have v1 : w7.drew.cell? ⟨b2, 1, none⟩ = some (.int .i64 0) := u1
            have g1 : w7.drew.frozen? ⟨b2, 1, none⟩ = false := f1
            have u2 : w7.cell? ⟨b2, 2, none⟩ = some (.int .i64 0) := (blk_cell Y7.out 2).trans rfl
            have f2 : w7.frozen? ⟨b2, 2, none⟩ = false := blk_frozen Y7.out 2
            have v2 : w7.drew.cell? ⟨b2, 2, none⟩ = some (.int .i64 0) := u2
            have g2 : w7.drew.frozen? ⟨b2, 2, none⟩ = false := f2
            go_upto_region 14 with fail
            refine start_ (n := 3) (S := fun w' => w'.cell? ⟨bw, 0, none⟩ = some (.bool set) ∧ w'.cell? ⟨bw, 1, none⟩ = some (.int .i64 (lead : Nat)) ∧ w'.cell? ⟨bw, 2, none⟩ = some (.int .i64 (trail : Nat))) (ds := [2]) #[false, false, false] (by kernel_rfl) rfl rfl ⟨z0, z1, z2⟩ (fun hHeld => ?_)
            refine pure_ (i := 1) (N := some 4) (v := ?_) (a' := ?_) #[false, true, false] rfl rfl (by kernel_rfl) (fun _ _ _ h => h) (Or.inl ⟨by rfl, ?_⟩) ?_ ?_
            rotate_left
            · intro w'
              go_simp
              with_reducible rfl
            rotate_left
            · simp only [Act.put, List.setIfInBounds_toArray, List.set_cons_zero, List.set_cons_succ, i64_w, i32_w]
              rfl
            refine take_ (i := 0) (N := some 69) (v := ?_) (a' := ?_) #[true, true, false] rfl rfl (by kernel_rfl) (fun _ _ _ h => h) (Or.inl ⟨by rfl, ?_⟩) hHeld ?_ ?_
            rotate_left
            · rintro w' ⟨s0, s1, s2⟩
              go_simp
              with_reducible rfl
            rotate_left
            · simp only [Act.put, List.setIfInBounds_toArray, List.set_cons_zero, List.set_cons_succ, i64_w, i32_w]
              rfl
            refine last_ (i := 2) (N := none) #[true, true, true] rfl rfl (by kernel_rfl) (by decide) (fun K hK => ?_)
            refine skip_ (w1 := ?_) (by rfl) rfl ?_ ?_
            rotate_left
            · go_simp
              rfl
            refine hK.out _ _ ?_
            clear hK K
            refine done_ (by kernel_rfl) ?_
            go_wp2
            refine bodyPost_ret (results_tc rfl _ _ b2 76 (winC ⟨set, lead, trail⟩) (0, 0) _ rfl (blk_put (blk_put (blk_put Y7.out 0 _ rfl) 1 _ rfl) 2 _ rfl) Tryd.underlying76 rfl (by kernel_rfl)) rfl ?_
            rw [HT.out]
            have h9 := (H7.out.fin nb2 n2q HQ.out (.bool set) (.int .i64 (lead : Nat)) (.int .i64 (trail : Nat))).drewN 1
            have m9 := (mod_fin M7.out (b := b2) (by have := HW.out.2; omega) (.bool set) (.int .i64 (lead : Nat)) (.int .i64 (trail : Nat))).drewN 1
            refine ⟨rfl, h9, m9⟩
          · have hb2 : ¬ (l : Int) + 64 > 64 := by omega
            obtain ⟨tr, htr⟩ : ∃ tr : Nat, tr = 64 - l - 64 := ⟨_, rfl⟩
            have hT3 : turnT ⟨set, lead, trail⟩ σ = ((getT 64 (.ok r4)).1 * 2 ^ tr, ⟨true, l, tr⟩, (getT 64 (.ok r4)).2) := by rw [hT, htr]; unfold turnT4; rw [formT_fine hbad]; rfl
            have HG5 := Lib.hid (fun (W : World) (hK : Rr W (fun k => ok k ∧ k < bw) q (.ok r4)) => rrget W _ q (.ok r4) hK 64 64 (fun _ _ => ⟨rfl, by omega, by omega⟩))
            have hn5 := getT_lt 64 (.ok r4)
            generalize getT 64 (.ok r4) = G5 at hT3 HG5 hn5
            obtain ⟨n5, σ5⟩ := G5
            simp only at hT3 HG5 hn5
            have hsh := shl_ok n5 tr 64 hn5 (by omega)
            have hmt : min tr 64 = tr := by omega
            have HT := Lib.hid hT3
            have e6 : IntKind.i64.wrap (64 - (l : Int)) = 64 - (l : Int) := IntWalk.i64_in _ (by omega)
            have e7 : IntKind.i64.wrap (64 - (l : Int) - 64) = (tr : Int) := by rw [IntWalk.i64_in _ (by omega)]; omega
            have e8 : IntKind.u64.wrap (tr : Int) = (tr : Int) := by rw [IntKind.wrap_u64]; omega
            clear hT hT3 htr hbad hn5
            go_enter Tryd.func40, Tryd.ntmps40
            go_upto_region 1 with fail
            rw [← HW.out.1, ← HW.out.2.1, ← HW.out.2.2]
            go_wp2_with fail
            refine (HG1.out).mono ?_
            rintro e w3 ⟨rfl, h3, m3⟩
            have H3 := Lib.hid h3
            have X3 := Lib.hid (m3.blk HX.out.1 nbq)
            have Y3 := Lib.hid (m3.blk HX.out.2 n2q)
            have M3 := Lib.hid (M2.out.trans m3 (fun _ _ h => h))
            clear h3 m3
            go_wp2_with fail
            refine (HG2.out w3 H3.out).mono ?_
            rintro e w4 ⟨rfl, h4, m4⟩
            have H4 := Lib.hid h4
            have X4 := Lib.hid (m4.blk X3.out nbq)
            have Y4 := Lib.hid (m4.blk Y3.out n2q)
            have M4 := Lib.hid (M3.out.trans m4 (fun _ _ h => h))
            clear h4 m4
            go_wp2_with fail
            refine (HG3.out w4 H4.out).mono ?_
            rintro e w5 ⟨rfl, h5, m5⟩
            have H5 := Lib.hid h5
            have X5 := Lib.hid (m5.blk X4.out nbq)
            have Y5 := Lib.hid (m5.blk Y4.out n2q)
            have M5 := Lib.hid (M4.out.trans m5 (fun _ _ h => h))
            clear h5 m5
            go_wp2_with fail
            refine (HG4.out w5 H5.out).mono ?_
            rintro e w6 ⟨rfl, h6, m6⟩
            have H6 := Lib.hid h6
            have X6 := Lib.hid (m6.blk X5.out nbq)
            have Y6 := Lib.hid (m6.blk Y5.out n2q)
            have M6 := Lib.hid (M5.out.trans m6 (fun _ _ h => h))
            clear h6 m6
            have d8 : w6.cell? ⟨q, 2, none⟩ = some (.int .i64 0) := H6.out.err
            go_wp2_with fail
            refine (HG5.out w6 H6.out).mono ?_
            rintro e w7 ⟨rfl, h7, m7⟩
            have H7 := Lib.hid h7
            have X7 := Lib.hid (m7.blk X6.out nbq)
            have Y7 := Lib.hid (m7.blk Y6.out n2q)
            have M7 := Lib.hid (M6.out.trans m7 (fun _ _ h => h))
            clear h7 m7
            have u0 : w7.cell? ⟨b2, 0, none⟩ = some (.bool false) := (blk_cell Y7.out 0).trans rfl
            have f0 : w7.frozen? ⟨b2, 0, none⟩ = false := blk_frozen Y7.out 0
            have u1 : w7.cell? ⟨b2, 1, none⟩ = some (.int .i64 0) := (blk_cell Y7.out 1).trans rfl
            have f1 : w7.frozen? ⟨b2, 1, none⟩ = false := blk_frozen Y7.out 1
            have u2 : w7.cell? ⟨b2, 2, none⟩ = some (.int .i64 0) := (blk_cell Y7.out 2).trans rfl
            have f2 : w7.frozen? ⟨b2, 2, none⟩ = false := blk_frozen Y7.out 2
            go_wp2
            refine bodyPost_ret (results_tc rfl _ _ b2 76 (winC ⟨true, l, tr⟩) (0, 0) _ rfl (blk_put (blk_put (blk_put Y7.out 0 _ rfl) 1 _ rfl) 2 _ rfl) Tryd.underlying76 rfl (by kernel_rfl)) rfl ?_
            rw [HT.out]
            have h9 := (H7.out.fin nb2 n2q HQ.out (.bool true) (.int .i64 (l : Nat)) (.int .i64 (tr : Nat)))
            have m9 := (mod_fin M7.out (b := b2) (by have := HW.out.2; omega) (.bool true) (.int .i64 (l : Nat)) (.int .i64 (tr : Nat)))
            refine ⟨(by first | rfl | (rw [← hsh]; done) | (simp only [hsh]; done)), h9, m9⟩
      · rw [hm2] at hT
        have bm : ((m0 : Int) == 0) = false := beq_false_of_ne (by omega)
        clear hm2
        cases σ4 with
        | error e4 =>
          have HT : Hid (turnT ⟨set, lead, trail⟩ σ = (0, ⟨set, lead, trail⟩, .error e4)) := Lib.hid (by rw [hT]; unfold turnT4; rw [formT_er]; rfl)
          have e5 : IntKind.i64.wrap ((l : Int) + (m0 : Int)) = (l : Int) + (m0 : Int) := IntWalk.i64_in _ (by omega)
          clear hT
          by_cases hbg : (l : Int) + (m0 : Int) > 64
          · go_enter Tryd.func40, Tryd.ntmps40
            go_upto_region 1 with fail
            rw [← HW.out.1, ← HW.out.2.1, ← HW.out.2.2]
            go_wp2_with fail
            refine (HG1.out).mono ?_
            rintro e w3 ⟨rfl, h3, m3⟩
            have H3 := Lib.hid h3
            have X3 := Lib.hid (m3.blk HX.out.1 nbq)
            have Y3 := Lib.hid (m3.blk HX.out.2 n2q)
            have M3 := Lib.hid (M2.out.trans m3 (fun _ _ h => h))
            clear h3 m3
            go_wp2_with fail
            refine (HG2.out w3 H3.out).mono ?_
            rintro e w4 ⟨rfl, h4, m4⟩
            have H4 := Lib.hid h4
            have X4 := Lib.hid (m4.blk X3.out nbq)
            have Y4 := Lib.hid (m4.blk Y3.out n2q)
            have M4 := Lib.hid (M3.out.trans m4 (fun _ _ h => h))
            clear h4 m4
            go_wp2_with fail
            refine (HG3.out w4 H4.out).mono ?_
            rintro e w5 ⟨rfl, h5, m5⟩
            have H5 := Lib.hid h5
            have X5 := Lib.hid (m5.blk X4.out nbq)
            have Y5 := Lib.hid (m5.blk Y4.out n2q)
            have M5 := Lib.hid (M4.out.trans m5 (fun _ _ h => h))
            clear h5 m5
            go_wp2_with fail
            refine (HG4.out w5 H5.out).mono ?_
            rintro e w6 ⟨rfl, h6, m6⟩
            have H6 := Lib.hid h6
            have X6 := Lib.hid (m6.blk X5.out nbq)
            have Y6 := Lib.hid (m6.blk Y5.out n2q)
            have M6 := Lib.hid (M5.out.trans m6 (fun _ _ h => h))
            clear h6 m6
            have d8 : w6.cell? ⟨q, 2, none⟩ = some (.int .i64 e4) := H6.out.err
            have be : (e4 == 0) = false := beq_false_of_ne (H6.out.good e4 rfl)
            have z0 : w6.drew.cell? ⟨bw, 0, none⟩ = some (.bool set) := (blk_cell X6.out 0).trans rfl
            have y0 : w6.cell? ⟨bw, 0, none⟩ = some (.bool set) := z0
            have z1 : w6.drew.cell? ⟨bw, 1, none⟩ = some (.int .i64 (lead : Nat)) := (blk_cell X6.out 1).trans rfl
            have y1 : w6.cell? ⟨bw, 1, none⟩ = some (.int .i64 (lead : Nat)) := z1
            have z2 : w6.drew.cell? ⟨bw, 2, none⟩ = some (.int .i64 (trail : Nat)) := (blk_cell X6.out 2).trans rfl
            have y2 : w6.cell? ⟨bw, 2, none⟩ = some (.int .i64 (trail : Nat)) := z2
            have u0 : w6.cell? ⟨b2, 0, none⟩ = some (.bool false) := (blk_cell Y6.out 0).trans rfl
            have f0 : w6.frozen? ⟨b2, 0, none⟩ = false := blk_frozen Y6.out 0
            have v0 : w6.drew.cell? ⟨b2, 0, none⟩ = some (.bool false) := u0
            have g0 : w6.drew.frozen? ⟨b2, 0, none⟩ = false := f0
            have u1 : w6.cell? ⟨b2, 1, none⟩ = some (.int .i64 0) := (blk_cell Y6.out 1).trans rfl
            have f1 : w6.frozen? ⟨b2, 1, none⟩ = false := blk_frozen Y6.out 1
            have v1 : w6.drew.cell? ⟨b2, 1, none⟩ = some (.int .i64 0) := u1
            have g1 : w6.drew.frozen? ⟨b2, 1, none⟩ = false := f1
            have u2 : w6.cell? ⟨b2, 2, none⟩ = some (.int .i64 0) := (blk_cell Y6.out 2).trans rfl
            have f2 : w6.frozen? ⟨b2, 2, none⟩ = false := blk_frozen Y6.out 2
            have v2 : w6.drew.cell? ⟨b2, 2, none⟩ = some (.int .i64 0) := u2
            have g2 : w6.drew.frozen? ⟨b2, 2, none⟩ = false := f2
            go_upto_region 14 with fail
            refine start_ (n := 3) (S := fun w' => w'.cell? ⟨bw, 0, none⟩ = some (.bool set) ∧ w'.cell? ⟨bw, 1, none⟩ = some (.int .i64 (lead : Nat)) ∧ w'.cell? ⟨bw, 2, none⟩ = some (.int .i64 (trail : Nat))) (ds := [2]) #[false, false, false] (by kernel_rfl) rfl rfl ⟨z0, z1, z2⟩ (fun hHeld => ?_)
            refine pure_ (i := 1) (N := some 4) (v := ?_) (a' := ?_) #[false, true, false] rfl rfl (by kernel_rfl) (fun _ _ _ h => h) (Or.inl ⟨by rfl, ?_⟩) ?_ ?_
            rotate_left
            · intro w'
              go_simp
              with_reducible rfl
            rotate_left
            · simp only [Act.put, List.setIfInBounds_toArray, List.set_cons_zero, List.set_cons_succ, i64_w, i32_w]
              rfl
            refine take_ (i := 0) (N := some 69) (v := ?_) (a' := ?_) #[true, true, false] rfl rfl (by kernel_rfl) (fun _ _ _ h => h) (Or.inl ⟨by rfl, ?_⟩) hHeld ?_ ?_
            rotate_left
            · rintro w' ⟨s0, s1, s2⟩
              go_simp
              with_reducible rfl
            rotate_left
            · simp only [Act.put, List.setIfInBounds_toArray, List.set_cons_zero, List.set_cons_succ, i64_w, i32_w]
              rfl
            refine last_ (i := 2) (N := none) #[true, true, true] rfl rfl (by kernel_rfl) (by decide) (fun K hK => ?_)
            refine skip_ (w1 := ?_) (by rfl) rfl ?_ ?_
            rotate_left
            · go_simp
              rfl
            refine hK.out _ _ ?_
            clear hK K
            refine done_ (by kernel_rfl) ?_
            go_wp2
            refine bodyPost_ret (results_tc rfl _ _ b2 76 (winC ⟨set, lead, trail⟩) (0, 0) _ rfl (blk_put (blk_put (blk_put Y6.out 0 _ rfl) 1 _ rfl) 2 _ rfl) Tryd.underlying76 rfl (by kernel_rfl)) rfl ?_
            rw [HT.out]
            have h9 := (H6.out.fin nb2 n2q HQ.out (.bool set) (.int .i64 (lead : Nat)) (.int .i64 (trail : Nat))).drewN 1
            have m9 := (mod_fin M6.out (b := b2) (by have := HW.out.2; omega) (.bool set) (.int .i64 (lead : Nat)) (.int .i64 (trail : Nat))).drewN 1
            refine ⟨rfl, h9, m9⟩
          · go_enter Tryd.func40, Tryd.ntmps40
            go_upto_region 1 with fail
            rw [← HW.out.1, ← HW.out.2.1, ← HW.out.2.2]
            go_wp2_with fail
            refine (HG1.out).mono ?_
            rintro e w3 ⟨rfl, h3, m3⟩
            have H3 := Lib.hid h3
            have X3 := Lib.hid (m3.blk HX.out.1 nbq)
            have Y3 := Lib.hid (m3.blk HX.out.2 n2q)
            have M3 := Lib.hid (M2.out.trans m3 (fun _ _ h => h))
            clear h3 m3
            go_wp2_with fail
            refine (HG2.out w3 H3.out).mono ?_
            rintro e w4 ⟨rfl, h4, m4⟩
            have H4 := Lib.hid h4
            have X4 := Lib.hid (m4.blk X3.out nbq)
            have Y4 := Lib.hid (m4.blk Y3.out n2q)
            have M4 := Lib.hid (M3.out.trans m4 (fun _ _ h => h))
            clear h4 m4
            go_wp2_with fail
            refine (HG3.out w4 H4.out).mono ?_
            rintro e w5 ⟨rfl, h5, m5⟩
            have H5 := Lib.hid h5
            have X5 := Lib.hid (m5.blk X4.out nbq)
            have Y5 := Lib.hid (m5.blk Y4.out n2q)
            have M5 := Lib.hid (M4.out.trans m5 (fun _ _ h => h))
            clear h5 m5
            go_wp2_with fail
            refine (HG4.out w5 H5.out).mono ?_
            rintro e w6 ⟨rfl, h6, m6⟩
            have H6 := Lib.hid h6
            have X6 := Lib.hid (m6.blk X5.out nbq)
            have Y6 := Lib.hid (m6.blk Y5.out n2q)
            have M6 := Lib.hid (M5.out.trans m6 (fun _ _ h => h))
            clear h6 m6
            have d8 : w6.cell? ⟨q, 2, none⟩ = some (.int .i64 e4) := H6.out.err
            have be : (e4 == 0) = false := beq_false_of_ne (H6.out.good e4 rfl)
            have z0 : w6.drew.cell? ⟨bw, 0, none⟩ = some (.bool set) := (blk_cell X6.out 0).trans rfl
            have y0 : w6.cell? ⟨bw, 0, none⟩ = some (.bool set) := z0
            have z1 : w6.drew.cell? ⟨bw, 1, none⟩ = some (.int .i64 (lead : Nat)) := (blk_cell X6.out 1).trans rfl
            have y1 : w6.cell? ⟨bw, 1, none⟩ = some (.int .i64 (lead : Nat)) := z1
            have z2 : w6.drew.cell? ⟨bw, 2, none⟩ = some (.int .i64 (trail : Nat)) := (blk_cell X6.out 2).trans rfl
            have y2 : w6.cell? ⟨bw, 2, none⟩ = some (.int .i64 (trail : Nat)) := z2
            have u0 : w6.cell? ⟨b2, 0, none⟩ = some (.bool false) := (blk_cell Y6.out 0).trans rfl
            have f0 : w6.frozen? ⟨b2, 0, none⟩ = false := blk_frozen Y6.out 0
            have v0 : w6.drew.cell? ⟨b2, 0, none⟩ = some (.bool false) := u0
            have g0 : w6.drew.frozen? ⟨b2, 0, none⟩ = false := f0
            have u1 : w6.cell? ⟨b2, 1, none⟩ = some (.int .i64 0) := (blk_cell Y6.out 1).trans rfl
            have f1 : w6.frozen? ⟨b2, 1, none⟩ = false := blk_frozen Y6.out 1
            have v1 : w6.drew.cell? ⟨b2, 1, none⟩ = some (.int .i64 0) := u1
            have g1 : w6.drew.frozen? ⟨b2, 1, none⟩ = false := f1
            have u2 : w6.cell? ⟨b2, 2, none⟩ = some (.int .i64 0) := (blk_cell Y6.out 2).trans rfl
            have f2 : w6.frozen? ⟨b2, 2, none⟩ = false := blk_frozen Y6.out 2
            have v2 : w6.drew.cell? ⟨b2, 2, none⟩ = some (.int .i64 0) := u2
            have g2 : w6.drew.frozen? ⟨b2, 2, none⟩ = false := f2
            go_upto_region 14 with fail
            refine start_ (n := 3) (S := fun w' => w'.cell? ⟨bw, 0, none⟩ = some (.bool set) ∧ w'.cell? ⟨bw, 1, none⟩ = some (.int .i64 (lead : Nat)) ∧ w'.cell? ⟨bw, 2, none⟩ = some (.int .i64 (trail : Nat))) (ds := [2]) #[false, false, false] (by kernel_rfl) rfl rfl ⟨z0, z1, z2⟩ (fun hHeld => ?_)
            refine pure_ (i := 1) (N := some 4) (v := ?_) (a' := ?_) #[false, true, false] rfl rfl (by kernel_rfl) (fun _ _ _ h => h) (Or.inl ⟨by rfl, ?_⟩) ?_ ?_
            rotate_left
            · intro w'
              go_simp
              with_reducible rfl
            rotate_left
            · simp only [Act.put, List.setIfInBounds_toArray, List.set_cons_zero, List.set_cons_succ, i64_w, i32_w]
              rfl
            refine take_ (i := 0) (N := some 69) (v := ?_) (a' := ?_) #[true, true, false] rfl rfl (by kernel_rfl) (fun _ _ _ h => h) (Or.inl ⟨by rfl, ?_⟩) hHeld ?_ ?_
            rotate_left
            · rintro w' ⟨s0, s1, s2⟩
              go_simp
              with_reducible rfl
            rotate_left
            · simp only [Act.put, List.setIfInBounds_toArray, List.set_cons_zero, List.set_cons_succ, i64_w, i32_w]
              rfl
            refine last_ (i := 2) (N := none) #[true, true, true] rfl rfl (by kernel_rfl) (by decide) (fun K hK => ?_)
            refine skip_ (w1 := ?_) (by rfl) rfl ?_ ?_
            rotate_left
            · go_simp
              rfl
            refine hK.out _ _ ?_
            clear hK K
            refine done_ (by kernel_rfl) ?_
            go_wp2
            refine bodyPost_ret (results_tc rfl _ _ b2 76 (winC ⟨set, lead, trail⟩) (0, 0) _ rfl (blk_put (blk_put (blk_put Y6.out 0 _ rfl) 1 _ rfl) 2 _ rfl) Tryd.underlying76 rfl (by kernel_rfl)) rfl ?_
            rw [HT.out]
            have h9 := (H6.out.fin nb2 n2q HQ.out (.bool set) (.int .i64 (lead : Nat)) (.int .i64 (trail : Nat))).drewN 1
            have m9 := (mod_fin M6.out (b := b2) (by have := HW.out.2; omega) (.bool set) (.int .i64 (lead : Nat)) (.int .i64 (trail : Nat))).drewN 1
            refine ⟨rfl, h9, m9⟩
        | ok r4 =>
          have e5 : IntKind.i64.wrap ((l : Int) + (m0 : Int)) = (l : Int) + (m0 : Int) := IntWalk.i64_in _ (by omega)
          by_cases hbad : 64 < l + m0
          · have HT : Hid (turnT ⟨set, lead, trail⟩ σ = (0, ⟨set, lead, trail⟩, .error 8)) := Lib.hid (by rw [hT]; unfold turnT4; rw [formT_bad hbad]; rfl)
            have hb2 : (l : Int) + (m0 : Int) > 64 := by omega
            clear hT
            go_enter Tryd.func40, Tryd.ntmps40
            go_upto_region 1 with fail
            rw [← HW.out.1, ← HW.out.2.1, ← HW.out.2.2]
            go_wp2_with fail
            refine (HG1.out).mono ?_
            rintro e w3 ⟨rfl, h3, m3⟩
            have H3 := Lib.hid h3
            have X3 := Lib.hid (m3.blk HX.out.1 nbq)
            have Y3 := Lib.hid (m3.blk HX.out.2 n2q)
            have M3 := Lib.hid (M2.out.trans m3 (fun _ _ h => h))
            clear h3 m3
            go_wp2_with fail
            refine (HG2.out w3 H3.out).mono ?_
            rintro e w4 ⟨rfl, h4, m4⟩
            have H4 := Lib.hid h4
            have X4 := Lib.hid (m4.blk X3.out nbq)
            have Y4 := Lib.hid (m4.blk Y3.out n2q)
            have M4 := Lib.hid (M3.out.trans m4 (fun _ _ h => h))
            clear h4 m4
            go_wp2_with fail
            refine (HG3.out w4 H4.out).mono ?_
            rintro e w5 ⟨rfl, h5, m5⟩
            have H5 := Lib.hid h5
            have X5 := Lib.hid (m5.blk X4.out nbq)
            have Y5 := Lib.hid (m5.blk Y4.out n2q)
            have M5 := Lib.hid (M4.out.trans m5 (fun _ _ h => h))
            clear h5 m5
            go_wp2_with fail
            refine (HG4.out w5 H5.out).mono ?_
            rintro e w6 ⟨rfl, h6, m6⟩
            have H6 := Lib.hid h6
            have X6 := Lib.hid (m6.blk X5.out nbq)
            have Y6 := Lib.hid (m6.blk Y5.out n2q)
            have M6 := Lib.hid (M5.out.trans m6 (fun _ _ h => h))
            clear h6 m6
            have d8 : w6.cell? ⟨q, 2, none⟩ = some (.int .i64 0) := H6.out.err
            have fq := H6.out.frz
            go_upto_region 13 with fail
            obtain ⟨h7, m7⟩ := H6.out.failed 8 (by decide)
            obtain ⟨w7, hw7⟩ : ∃ w7, w7 = w6.setCell ⟨q, 2, none⟩ (.int .i64 8) := ⟨_, rfl⟩
            rw [← hw7] at h7 m7 ⊢
            have H7 := Lib.hid h7
            have X7 := Lib.hid (m7.blk X6.out nbq)
            have Y7 := Lib.hid (m7.blk Y6.out n2q)
            have M7 := Lib.hid (M6.out.trans m7 (fun _ _ h => h))
            have d9 : w7.cell? ⟨q, 2, none⟩ = some (.int .i64 8) := h7.err
            clear h7 m7 hw7
            have z0 : w7.drew.cell? ⟨bw, 0, none⟩ = some (.bool set) := (blk_cell X7.out 0).trans rfl
            have y0 : w7.cell? ⟨bw, 0, none⟩ = some (.bool set) := z0
            have z1 : w7.drew.cell? ⟨bw, 1, none⟩ = some (.int .i64 (lead : Nat)) := (blk_cell X7.out 1).trans rfl
            have y1 : w7.cell? ⟨bw, 1, none⟩ = some (.int .i64 (lead : Nat)) := z1
            have z2 : w7.drew.cell? ⟨bw, 2, none⟩ = some (.int .i64 (trail : Nat)) := (blk_cell X7.out 2).trans rfl
            have y2 : w7.cell? ⟨bw, 2, none⟩ = some (.int .i64 (trail : Nat)) := z2
            have u0 : w7.cell? ⟨b2, 0, none⟩ = some (.bool false) := (blk_cell Y7.out 0).trans rfl
            have f0 : w7.frozen? ⟨b2, 0, none⟩ = false := blk_frozen Y7.out 0
            have v0 : w7.drew.cell? ⟨b2, 0, none⟩ = some (.bool false) := u0
            have g0 : w7.drew.frozen? ⟨b2, 0, none⟩ = false := f0
            have u1 : w7.cell? ⟨b2, 1, none⟩ = some (.int .i64 0) := (blk_cell Y7.out 1).trans rfl
            have f1 : w7.frozen? ⟨b2, 1, none⟩ = false := blk_frozen Y7.out 1
            have v1 : w7.drew.cell? ⟨b2, 1, none⟩ = some (.int .i64 0) := u1
            have g1 : w7.drew.frozen? ⟨b2, 1, none⟩ = false := f1
            have u2 : w7.cell? ⟨b2, 2, none⟩ = some (.int .i64 0) := (blk_cell Y7.out 2).trans rfl
            have f2 : w7.frozen? ⟨b2, 2, none⟩ = false := blk_frozen Y7.out 2
            have v2 : w7.drew.cell? ⟨b2, 2, none⟩ = some (.int .i64 0) := u2
            have g2 : w7.drew.frozen? ⟨b2, 2, none⟩ = false := f2
            go_upto_region 14 with fail
            refine start_ (n := 3) (S := fun w' => w'.cell? ⟨bw, 0, none⟩ = some (.bool set) ∧ w'.cell? ⟨bw, 1, none⟩ = some (.int .i64 (lead : Nat)) ∧ w'.cell? ⟨bw, 2, none⟩ = some (.int .i64 (trail : Nat))) (ds := [2]) #[false, false, false] (by kernel_rfl) rfl rfl ⟨z0, z1, z2⟩ (fun hHeld => ?_)
            refine pure_ (i := 1) (N := some 4) (v := ?_) (a' := ?_) #[false, true, false] rfl rfl (by kernel_rfl) (fun _ _ _ h => h) (Or.inl ⟨by rfl, ?_⟩) ?_ ?_
            rotate_left
            · intro w'
              go_simp
              with_reducible rfl
            rotate_left
            · simp only [Act.put, List.setIfInBounds_toArray, List.set_cons_zero, List.set_cons_succ, i64_w, i32_w]
              rfl
            refine take_ (i := 0) (N := some 69) (v := ?_) (a' := ?_) #[true, true, false] rfl rfl (by kernel_rfl) (fun _ _ _ h => h) (Or.inl ⟨by rfl, ?_⟩) hHeld ?_ ?_
            rotate_left
            · rintro w' ⟨s0, s1, s2⟩
              go_simp
              with_reducible rfl
            rotate_left
            · simp only [Act.put, List.setIfInBounds_toArray, List.set_cons_zero, List.set_cons_succ, i64_w, i32_w]
              rfl
            refine last_ (i := 2) (N := none) #[true, true, true] rfl rfl (by kernel_rfl) (by decide) (fun K hK => ?_)
            refine skip_ (w1 := ?_) (by rfl) rfl ?_ ?_
            rotate_left
            · go_simp
              rfl
            refine hK.out _ _ ?_
            clear hK K
            refine done_ (by kernel_rfl) ?_
            go_wp2
            refine bodyPost_ret (results_tc rfl _ _ b2 76 (winC ⟨set, lead, trail⟩) (0, 0) _ rfl (blk_put (blk_put (blk_put Y7.out 0 _ rfl) 1 _ rfl) 2 _ rfl) Tryd.underlying76 rfl (by kernel_rfl)) rfl ?_
            rw [HT.out]
            have h9 := (H7.out.fin nb2 n2q HQ.out (.bool set) (.int .i64 (lead : Nat)) (.int .i64 (trail : Nat))).drewN 1
            have m9 := (mod_fin M7.out (b := b2) (by have := HW.out.2; omega) (.bool set) (.int .i64 (lead : Nat)) (.int .i64 (trail : Nat))).drewN 1
            refine ⟨rfl, h9, m9⟩
          · have hb2 : ¬ (l : Int) + (m0 : Int) > 64 := by omega
            obtain ⟨tr, htr⟩ : ∃ tr : Nat, tr = 64 - l - m0 := ⟨_, rfl⟩
            have hT3 : turnT ⟨set, lead, trail⟩ σ = ((getT m0 (.ok r4)).1 * 2 ^ tr, ⟨true, l, tr⟩, (getT m0 (.ok r4)).2) := by rw [hT, htr]; unfold turnT4; rw [formT_fine hbad]; rfl
            have HG5 := Lib.hid (fun (W : World) (hK : Rr W (fun k => ok k ∧ k < bw) q (.ok r4)) => rrget W _ q (.ok r4) hK (m0 : Int) m0 (fun _ _ => ⟨rfl, by omega, by omega⟩))
            have hn5 := getT_lt m0 (.ok r4)
            generalize getT m0 (.ok r4) = G5 at hT3 HG5 hn5
            obtain ⟨n5, σ5⟩ := G5
            simp only at hT3 HG5 hn5
            have hsh := shl_ok n5 tr m0 hn5 (by omega)
            have hmt : min tr 64 = tr := by omega
            have HT := Lib.hid hT3
            have e6 : IntKind.i64.wrap (64 - (l : Int)) = 64 - (l : Int) := IntWalk.i64_in _ (by omega)
            have e7 : IntKind.i64.wrap (64 - (l : Int) - (m0 : Int)) = (tr : Int) := by rw [IntWalk.i64_in _ (by omega)]; omega
            have e8 : IntKind.u64.wrap (tr : Int) = (tr : Int) := by rw [IntKind.wrap_u64]; omega
            clear hT hT3 htr hbad hn5
            go_enter Tryd.func40, Tryd.ntmps40
            go_upto_region 1 with fail
            rw [← HW.out.1, ← HW.out.2.1, ← HW.out.2.2]
            go_wp2_with fail
            refine (HG1.out).mono ?_
            rintro e w3 ⟨rfl, h3, m3⟩
            have H3 := Lib.hid h3
            have X3 := Lib.hid (m3.blk HX.out.1 nbq)
            have Y3 := Lib.hid (m3.blk HX.out.2 n2q)
            have M3 := Lib.hid (M2.out.trans m3 (fun _ _ h => h))
            clear h3 m3
            go_wp2_with fail
            refine (HG2.out w3 H3.out).mono ?_
            rintro e w4 ⟨rfl, h4, m4⟩
            have H4 := Lib.hid h4
            have X4 := Lib.hid (m4.blk X3.out nbq)
            have Y4 := Lib.hid (m4.blk Y3.out n2q)
            have M4 := Lib.hid (M3.out.trans m4 (fun _ _ h => h))
            clear h4 m4
            go_wp2_with fail
            refine (HG3.out w4 H4.out).mono ?_
            rintro e w5 ⟨rfl, h5, m5⟩
            have H5 := Lib.hid h5
            have X5 := Lib.hid (m5.blk X4.out nbq)
            have Y5 := Lib.hid (m5.blk Y4.out n2q)
            have M5 := Lib.hid (M4.out.trans m5 (fun _ _ h => h))
            clear h5 m5
            go_wp2_with fail
            refine (HG4.out w5 H5.out).mono ?_
            rintro e w6 ⟨rfl, h6, m6⟩
            have H6 := Lib.hid h6
            have X6 := Lib.hid (m6.blk X5.out nbq)
            have Y6 := Lib.hid (m6.blk Y5.out n2q)
            have M6 := Lib.hid (M5.out.trans m6 (fun _ _ h => h))
            clear h6 m6
            have d8 : w6.cell? ⟨q, 2, none⟩ = some (.int .i64 0) := H6.out.err
            go_wp2_with fail
            refine (HG5.out w6 H6.out).mono ?_
            rintro e w7 ⟨rfl, h7, m7⟩
            have H7 := Lib.hid h7
            have X7 := Lib.hid (m7.blk X6.out nbq)
            have Y7 := Lib.hid (m7.blk Y6.out n2q)
            have M7 := Lib.hid (M6.out.trans m7 (fun _ _ h => h))
            clear h7 m7
            have u0 : w7.cell? ⟨b2, 0, none⟩ = some (.bool false) := (blk_cell Y7.out 0).trans rfl
            have f0 : w7.frozen? ⟨b2, 0, none⟩ = false := blk_frozen Y7.out 0
            have u1 : w7.cell? ⟨b2, 1, none⟩ = some (.int .i64 0) := (blk_cell Y7.out 1).trans rfl
            have f1 : w7.frozen? ⟨b2, 1, none⟩ = false := blk_frozen Y7.out 1
            have u2 : w7.cell? ⟨b2, 2, none⟩ = some (.int .i64 0) := (blk_cell Y7.out 2).trans rfl
            have f2 : w7.frozen? ⟨b2, 2, none⟩ = false := blk_frozen Y7.out 2
            go_wp2
            refine bodyPost_ret (results_tc rfl _ _ b2 76 (winC ⟨true, l, tr⟩) (0, 0) _ rfl (blk_put (blk_put (blk_put Y7.out 0 _ rfl) 1 _ rfl) 2 _ rfl) Tryd.underlying76 rfl (by kernel_rfl)) rfl ?_
            rw [HT.out]
            have h9 := (H7.out.fin nb2 n2q HQ.out (.bool true) (.int .i64 (l : Nat)) (.int .i64 (tr : Nat)))
            have m9 := (mod_fin M7.out (b := b2) (by have := HW.out.2; omega) (.bool true) (.int .i64 (l : Nat)) (.int .i64 (tr : Nat)))
            refine ⟨(by first | rfl | (rw [← hsh]; done) | (simp only [hsh]; done)), h9, m9⟩
end Go.Proofs.YtmllgglcdlcdhaaDoor
