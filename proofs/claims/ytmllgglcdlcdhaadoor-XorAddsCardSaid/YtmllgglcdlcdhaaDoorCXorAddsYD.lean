import Derived.Test.YtmllgglcdlcdhaaDoorCXorAddsYM
namespace Go.Proofs.YtmllgglcdlcdhaaDoor.Bq
end Go.Proofs.YtmllgglcdlcdhaaDoor.Bq
namespace Go.Proofs.YtmllgglcdlcdhaaDoor
open Go Go.RowKit Go.Proofs.YtmllgglcdlcdhaaDoorW.PrintWords Go.Proofs.YtmllgglcdlcdhaaDoorW.PrintMore Go.Proofs.YtmllgglcdlcdhaaDoorW.PrintLast Bq Xs
set_option linter.unusedVariables false
set_option maxRecDepth 100000
set_option linter.unusedSimpArgs false
attribute [local go_sem ↓] Go.wp_at_zero Go.wp_at_succ
theorem Rk.window {w : World} {ok : Nat → Prop} {q g : Nat} {σ : Sg} {s : St} (h : Rk w ok q g σ s) (L T : Nat) :
    Rk (((w.setCell ⟨q, 5, none⟩ (.int .i64 (L : Nat))).setCell ⟨q, 6, none⟩ (.int .i64 (T : Nat))).setCell ⟨q, 7, none⟩ (.bool true)) ok q g σ ⟨s.n, s.t, s.v, s.step, ⟨true, L, T⟩⟩ ∧ Mod (TwoB g q) w (((w.setCell ⟨q, 5, none⟩ (.int .i64 (L : Nat))).setCell ⟨q, 6, none⟩ (.int .i64 (T : Nat))).setCell ⟨q, 7, none⟩ (.bool true)) := by
  have hm : Mod (fun k => k = q) w (((w.setCell ⟨q, 5, none⟩ (.int .i64 (L : Nat))).setCell ⟨q, 6, none⟩ (.int .i64 (T : Nat))).setCell ⟨q, 7, none⟩ (.bool true)) :=
    (((Mod.refl (fun k => k = q) w).setCell (p := ⟨q, 5, none⟩) (.inl rfl) _).setCell (p := ⟨q, 6, none⟩) (.inl rfl) _).setCell (p := ⟨q, 7, none⟩) (.inl rfl) _
  exact ⟨⟨blk_put (blk_put (blk_put h.blk 5 _ rfl) 6 _ rfl) 7 _ rfl, fun r hr => (h.rd r hr).kept hm (fun k ho _ e => h.okq (e ▸ ho)), h.okq, h.good, h.lt⟩, hm.weaken (fun _ _ h => .inr h)⟩
theorem shl_ok (n T wd : Nat) (hn : n < 2 ^ wd) (h : wd + T ≤ 64) : IntKind.u64.wrap ((n : Int) * 2 ^ T) = ((n * 2 ^ T : Nat) : Int) := by
  have h1 := mul_bound hn h
  have e : (n : Int) * 2 ^ T = ((n * 2 ^ T : Nat) : Int) := by simp
  rw [e, IntKind.wrap_u64]
  omega
theorem formT_bad {l m : Nat} {r : List Bool} (h : 64 < l + m) : formT l m (.ok r) = .error 8 := by unfold formT; rw [if_pos h]; rfl
theorem formT_fine {l m : Nat} {σ : Sg} (h : ¬ 64 < l + m) : formT l m σ = σ := by unfold formT; rw [if_neg h]
set_option maxHeartbeats 8000000 in
theorem rkturn (w : World) (ok : Nat → Prop) (q g : Nat) (σ : Sg) (s : St) (h : Rk w ok q g σ s) (hw : s.w.lead + s.w.trail ≤ 63) :
    Calls Tryd.prog 55 #[.pointer (some ⟨q, 0, none⟩)] w fun e w' => e = .returned (.int .u64 ((turnT s.w σ).1 : Nat)) ∧ Rk w' ok q g (turnT s.w σ).2.2 ⟨s.n, s.t, s.v, s.step, (turnT s.w σ).2.1⟩ ∧ Mod (TwoB g q) w w' := by
  obtain ⟨sn, st, sv, sstep, ⟨set, lead, trail⟩⟩ := s
  simp only at hw
  have hT : turnT ⟨set, lead, trail⟩ σ = if (getT 1 σ).1 = 0 then (0, ⟨set, lead, trail⟩, (getT 1 σ).2) else turnT2 ⟨set, lead, trail⟩ (getT 1 σ).2 := rfl
  have HG1 := Lib.hid (rkget w ok q g σ _ h 1 1 (fun _ _ => ⟨rfl, by decide⟩))
  have hn1 := getT_lt 1 σ
  generalize getT 1 σ = G1 at hT HG1 hn1
  obtain ⟨n1, σ1⟩ := G1
  simp only at hT HG1 hn1 ⊢
  clear h
  by_cases c1 : n1 = 0
  · subst c1
    rw [if_pos rfl] at hT
    have HT := Lib.hid hT
    clear hT
    go_enter Tryd.func55, Tryd.ntmps55
    go_wp2_with (go_at_call 32; refine HG1.out.mono ?_; rintro e w1 ⟨rfl, h1, m1⟩; have H1 := Lib.hid h1; have M1 := Lib.hid m1; clear h1 m1)
    go_ret
    rw [HT.out]
    exact ⟨rfl, H1.out, M1.out⟩
  · rw [if_neg c1] at hT
    have b1 : ((n1 : Int) == 0) = false := beq_false_of_ne (by omega)
    have hT2 : turnT2 ⟨set, lead, trail⟩ σ1 = if (getT 1 σ1).1 = 0 then (if set = true then ((getT (64 - lead - trail) (getT 1 σ1).2).1 * 2 ^ trail, ⟨set, lead, trail⟩, (getT (64 - lead - trail) (getT 1 σ1).2).2) else (0, ⟨set, lead, trail⟩, failT 8 (getT 1 σ1).2)) else turnT4 ⟨set, lead, trail⟩ (getT 5 (getT 1 σ1).2).1 (wideT (getT 6 (getT 5 (getT 1 σ1).2).2).1) (getT 6 (getT 5 (getT 1 σ1).2).2).2 := rfl
    have HG2 := Lib.hid (fun (W : World) (hK : Rk W ok q g σ1 ⟨sn, st, sv, sstep, ⟨set, lead, trail⟩⟩) => rkget W ok q g σ1 _ hK 1 1 (fun _ _ => ⟨rfl, by decide⟩))
    have hn2 := getT_lt 1 σ1
    rw [hT2] at hT
    clear hT2
    generalize getT 1 σ1 = G2 at hT HG2 hn2
    obtain ⟨n2, σ2⟩ := G2
    simp only at hT HG2 hn2
    by_cases c2 : n2 = 0
    · subst c2
      rw [if_pos rfl] at hT
      cases set with
      | false =>
        rw [if_neg (by decide)] at hT
        cases σ2 with
        | error e2 =>
          have HT : Hid (turnT ⟨false, lead, trail⟩ σ = (0, ⟨false, lead, trail⟩, .error e2)) := Lib.hid hT
          clear hT
          go_enter Tryd.func55, Tryd.ntmps55
          go_upto_region 4 with (first
            | (go_at_call 32; refine HG1.out.mono ?_; rintro e w1 ⟨rfl, h1, m1⟩; have H1 := Lib.hid h1; have M1 := Lib.hid m1; clear h1 m1)
            | (go_at_call 32; refine (HG2.out w1 H1.out).mono ?_; rintro e w2 ⟨rfl, h2, m2⟩; have H2 := Lib.hid h2; have M2 := Lib.hid (M1.out.trans m2 (fun _ _ h => h)); clear h2 m2))
          have d7 : w2.cell? ⟨q, 7, none⟩ = some (.bool false) := (blk_cell H2.out.blk 7).trans rfl
          have d8 : w2.cell? ⟨q, 8, none⟩ = some (.int .i64 e2) := (blk_cell H2.out.blk 8).trans rfl
          have be : (e2 == 0) = false := beq_false_of_ne (H2.out.good e2 rfl)
          go_wp2
          go_ret
          rw [HT.out]
          exact ⟨rfl, H2.out, M2.out⟩
        | ok r2 =>
          have HT : Hid (turnT ⟨false, lead, trail⟩ σ = (0, ⟨false, lead, trail⟩, .error 8)) := Lib.hid hT
          clear hT
          go_enter Tryd.func55, Tryd.ntmps55
          go_upto_region 4 with (first
            | (go_at_call 32; refine HG1.out.mono ?_; rintro e w1 ⟨rfl, h1, m1⟩; have H1 := Lib.hid h1; have M1 := Lib.hid m1; clear h1 m1)
            | (go_at_call 32; refine (HG2.out w1 H1.out).mono ?_; rintro e w2 ⟨rfl, h2, m2⟩; have H2 := Lib.hid h2; have M2 := Lib.hid (M1.out.trans m2 (fun _ _ h => h)); clear h2 m2))
          have d7 : w2.cell? ⟨q, 7, none⟩ = some (.bool false) := (blk_cell H2.out.blk 7).trans rfl
          have d8 : w2.cell? ⟨q, 8, none⟩ = some (.int .i64 0) := H2.out.e0
          have f8 := blk_frozen H2.out.blk 8
          go_wp2
          go_ret
          rw [HT.out]
          obtain ⟨h3, m3⟩ := H2.out.failed 8 (by decide)
          exact ⟨rfl, h3, M2.out.trans m3 (fun _ _ h => h)⟩
      | true =>
        rw [if_pos rfl] at hT
        obtain ⟨wd, hwd⟩ : ∃ wd : Nat, wd = 64 - lead - trail := ⟨_, rfl⟩
        have e1 : IntKind.u64.wrap (trail : Int) = (trail : Int) := by rw [IntKind.wrap_u64]; omega
        have e2 : IntKind.i64.wrap (64 - (lead : Int)) = 64 - (lead : Int) := IntWalk.i64_in _ (by omega)
        have e3 : IntKind.i64.wrap (64 - (lead : Int) - (trail : Int)) = (wd : Int) := by rw [IntWalk.i64_in _ (by omega)]; omega
        have hwl : wd + trail ≤ 64 := by omega
        rw [← hwd] at hT
        have HG3 := Lib.hid (fun (W : World) (hK : Rk W ok q g σ2 ⟨sn, st, sv, sstep, ⟨true, lead, trail⟩⟩) => rkget W ok q g σ2 _ hK wd wd (fun _ _ => ⟨rfl, by omega⟩))
        have hn3 := getT_lt wd σ2
        generalize getT wd σ2 = G3 at hT HG3 hn3
        obtain ⟨n3, σ3⟩ := G3
        simp only at hT HG3 hn3
        have hsh := shl_ok n3 trail wd hn3 hwl
        have hmt : min trail 64 = trail := by omega
        have HT := Lib.hid hT
        have HN3 := Lib.hid hn3
        clear hT hwd hn3
        go_enter Tryd.func55, Tryd.ntmps55
        go_upto_region 4 with (first
          | (go_at_call 32; refine HG1.out.mono ?_; rintro e w1 ⟨rfl, h1, m1⟩; have H1 := Lib.hid h1; have M1 := Lib.hid m1; clear h1 m1)
          | (go_at_call 32; refine (HG2.out w1 H1.out).mono ?_; rintro e w2 ⟨rfl, h2, m2⟩; have H2 := Lib.hid h2; have M2 := Lib.hid (M1.out.trans m2 (fun _ _ h => h)); clear h2 m2))
        have HD2 := Lib.hid (H2.out.drewN 1)
        have hdr : w2.drewN 1 = w2.drew := rfl
        rw [hdr] at HD2
        have d7 : w2.cell? ⟨q, 7, none⟩ = some (.bool true) := (blk_cell H2.out.blk 7).trans rfl
        have d5 : w2.drew.cell? ⟨q, 5, none⟩ = some (.int .i64 (lead : Nat)) := (blk_cell HD2.out.blk 5).trans rfl
        have d6 : w2.drew.cell? ⟨q, 6, none⟩ = some (.int .i64 (trail : Nat)) := (blk_cell HD2.out.blk 6).trans rfl
        clear hdr
        go_upto_region 8 with fail
        refine start_ (n := 22) (S := fun w' => w'.cell? ⟨q, 5, none⟩ = some (.int .i64 (lead : Nat)) ∧ w'.cell? ⟨q, 6, none⟩ = some (.int .i64 (trail : Nat))) (ds := []) #[false, false, false, false, false, false, false, false, false, false, false, false, false, false, false, false, false, false, false, false, false, false] (by kernel_rfl) rfl rfl ⟨d5, d6⟩ (fun hHeld => ?_)
        refine pure_ (i := 0) (N := some 25) (v := ?_) (a' := ?_) #[true, false, false, false, false, false, false, false, false, false, false, false, false, false, false, false, false, false, false, false, false, false] rfl rfl (by kernel_rfl) (fun _ _ _ h => h) (Or.inl ⟨by rfl, ?_⟩) ?_ ?_
        rotate_left
        · intro w'
          go_simp
          with_reducible rfl
        rotate_left
        · simp only [Act.put, List.setIfInBounds_toArray, List.set_cons_zero, List.set_cons_succ, i64_w, i32_w]
          rfl
        refine pure_ (i := 1) (N := some 26) (v := ?_) (a' := ?_) #[true, true, false, false, false, false, false, false, false, false, false, false, false, false, false, false, false, false, false, false, false, false] rfl rfl (by kernel_rfl) (fun _ _ _ h => h) (Or.inl ⟨by rfl, ?_⟩) ?_ ?_
        rotate_left
        · intro w'
          go_simp
          with_reducible rfl
        rotate_left
        · simp only [Act.put, List.setIfInBounds_toArray, List.set_cons_zero, List.set_cons_succ, i64_w, i32_w]
          rfl
        refine pure_ (i := 2) (N := some 27) (v := ?_) (a' := ?_) #[true, true, true, false, false, false, false, false, false, false, false, false, false, false, false, false, false, false, false, false, false, false] rfl rfl (by kernel_rfl) (fun _ _ _ h => h) (Or.inl ⟨by rfl, ?_⟩) ?_ ?_
        rotate_left
        · intro w'
          go_simp
          with_reducible rfl
        rotate_left
        · simp only [Act.put, List.setIfInBounds_toArray, List.set_cons_zero, List.set_cons_succ, i64_w, i32_w]
          rfl
        refine pure_ (i := 3) (N := some 28) (v := ?_) (a' := ?_) #[true, true, true, true, false, false, false, false, false, false, false, false, false, false, false, false, false, false, false, false, false, false] rfl rfl (by kernel_rfl) (fun _ _ _ h => h) (Or.inl ⟨by rfl, ?_⟩) ?_ ?_
        rotate_left
        · intro w'
          go_simp
          with_reducible rfl
        rotate_left
        · simp only [Act.put, List.setIfInBounds_toArray, List.set_cons_zero, List.set_cons_succ, i64_w, i32_w]
          rfl
        refine pure_ (i := 4) (N := some 29) (v := ?_) (a' := ?_) #[true, true, true, true, true, false, false, false, false, false, false, false, false, false, false, false, false, false, false, false, false, false] rfl rfl (by kernel_rfl) (fun _ _ _ h => h) (Or.inl ⟨by rfl, ?_⟩) ?_ ?_
        rotate_left
        · intro w'
          go_simp
          with_reducible rfl
        rotate_left
        · simp only [Act.put, List.setIfInBounds_toArray, List.set_cons_zero, List.set_cons_succ, i64_w, i32_w]
          rfl
        refine pure_ (i := 7) (N := some 32) (v := ?_) (a' := ?_) #[true, true, true, true, true, false, false, true, false, false, false, false, false, false, false, false, false, false, false, false, false, false] rfl rfl (by kernel_rfl) (fun _ _ _ h => h) (Or.inl ⟨by rfl, ?_⟩) ?_ ?_
        rotate_left
        · intro w'
          go_simp
          with_reducible rfl
        rotate_left
        · simp only [Act.put, List.setIfInBounds_toArray, List.set_cons_zero, List.set_cons_succ, i64_w, i32_w]
          rfl
        refine pure_ (i := 8) (N := some 33) (v := ?_) (a' := ?_) #[true, true, true, true, true, false, false, true, true, false, false, false, false, false, false, false, false, false, false, false, false, false] rfl rfl (by kernel_rfl) (fun _ _ _ h => h) (Or.inl ⟨by rfl, ?_⟩) ?_ ?_
        rotate_left
        · intro w'
          go_simp
          with_reducible rfl
        rotate_left
        · simp only [Act.put, List.setIfInBounds_toArray, List.set_cons_zero, List.set_cons_succ, i64_w, i32_w]
          rfl
        refine pure_ (i := 9) (N := some 34) (v := ?_) (a' := ?_) #[true, true, true, true, true, false, false, true, true, true, false, false, false, false, false, false, false, false, false, false, false, false] rfl rfl (by kernel_rfl) (fun _ _ _ h => h) (Or.inl ⟨by rfl, ?_⟩) ?_ ?_
        rotate_left
        · intro w'
          go_simp
          with_reducible rfl
        rotate_left
        · simp only [Act.put, List.setIfInBounds_toArray, List.set_cons_zero, List.set_cons_succ, i64_w, i32_w]
          rfl
        refine pure_ (i := 10) (N := some 35) (v := ?_) (a' := ?_) #[true, true, true, true, true, false, false, true, true, true, true, false, false, false, false, false, false, false, false, false, false, false] rfl rfl (by kernel_rfl) (fun _ _ _ h => h) (Or.inl ⟨by rfl, ?_⟩) ?_ ?_
        rotate_left
        · intro w'
          go_simp
          with_reducible rfl
        rotate_left
        · simp only [Act.put, List.setIfInBounds_toArray, List.set_cons_zero, List.set_cons_succ, i64_w, i32_w]
          rfl
        refine pure_ (i := 14) (N := some 39) (v := ?_) (a' := ?_) #[true, true, true, true, true, false, false, true, true, true, true, false, false, false, true, false, false, false, false, false, false, false] rfl rfl (by kernel_rfl) (fun _ _ _ h => h) (Or.inl ⟨by rfl, ?_⟩) ?_ ?_
        rotate_left
        · intro w'
          go_simp
          with_reducible rfl
        rotate_left
        · simp only [Act.put, List.setIfInBounds_toArray, List.set_cons_zero, List.set_cons_succ, i64_w, i32_w]
          rfl
        refine pure_ (i := 15) (N := some 40) (v := ?_) (a' := ?_) #[true, true, true, true, true, false, false, true, true, true, true, false, false, false, true, true, false, false, false, false, false, false] rfl rfl (by kernel_rfl) (fun _ _ _ h => h) (Or.inl ⟨by rfl, ?_⟩) ?_ ?_
        rotate_left
        · intro w'
          go_simp
          with_reducible rfl
        rotate_left
        · simp only [Act.put, List.setIfInBounds_toArray, List.set_cons_zero, List.set_cons_succ, i64_w, i32_w]
          rfl
        refine pure_ (i := 16) (N := some 41) (v := ?_) (a' := ?_) #[true, true, true, true, true, false, false, true, true, true, true, false, false, false, true, true, true, false, false, false, false, false] rfl rfl (by kernel_rfl) (fun _ _ _ h => h) (Or.inl ⟨by rfl, ?_⟩) ?_ ?_
        rotate_left
        · intro w'
          go_simp
          with_reducible rfl
        rotate_left
        · simp only [Act.put, List.setIfInBounds_toArray, List.set_cons_zero, List.set_cons_succ, i64_w, i32_w]
          rfl
        refine pure_ (i := 17) (N := some 42) (v := ?_) (a' := ?_) #[true, true, true, true, true, false, false, true, true, true, true, false, false, false, true, true, true, true, false, false, false, false] rfl rfl (by kernel_rfl) (fun _ _ _ h => h) (Or.inl ⟨by rfl, ?_⟩) ?_ ?_
        rotate_left
        · intro w'
          go_simp
          with_reducible rfl
        rotate_left
        · simp only [Act.put, List.setIfInBounds_toArray, List.set_cons_zero, List.set_cons_succ, i64_w, i32_w]
          rfl
        refine take_ (i := 5) (N := some 30) (v := ?_) (a' := ?_) #[true, true, true, true, true, true, false, true, true, true, true, false, false, false, true, true, true, true, false, false, false, false] rfl rfl (by kernel_rfl) (fun _ _ _ h => h) (Or.inl ⟨by rfl, ?_⟩) hHeld ?_ ?_
        rotate_left
        · rintro w' ⟨s0, s1⟩
          go_simp
          with_reducible rfl
        rotate_left
        · simp only [Act.put, List.setIfInBounds_toArray, List.set_cons_zero, List.set_cons_succ, i64_w, i32_w]
          rfl
        refine pure_ (i := 6) (N := some 31) (v := ?_) (a' := ?_) #[true, true, true, true, true, true, true, true, true, true, true, false, false, false, true, true, true, true, false, false, false, false] rfl rfl (by kernel_rfl) (fun _ _ _ h => h) (Or.inl ⟨by rfl, ?_⟩) ?_ ?_
        rotate_left
        · intro w'
          go_simp
          with_reducible rfl
        rotate_left
        · simp only [Act.put, List.setIfInBounds_toArray, List.set_cons_zero, List.set_cons_succ, i64_w, i32_w]
          rfl
        refine take_ (i := 11) (N := some 36) (v := ?_) (a' := ?_) #[true, true, true, true, true, true, true, true, true, true, true, true, false, false, true, true, true, true, false, false, false, false] rfl rfl (by kernel_rfl) (fun _ _ _ h => h) (Or.inl ⟨by rfl, ?_⟩) hHeld ?_ ?_
        rotate_left
        · rintro w' ⟨s0, s1⟩
          go_simp
          with_reducible rfl
        rotate_left
        · simp only [Act.put, List.setIfInBounds_toArray, List.set_cons_zero, List.set_cons_succ, i64_w, i32_w]
          rfl
        refine pure_ (i := 12) (N := some 37) (v := ?_) (a' := ?_) #[true, true, true, true, true, true, true, true, true, true, true, true, true, false, true, true, true, true, false, false, false, false] rfl rfl (by kernel_rfl) (fun _ _ _ h => h) (Or.inl ⟨by rfl, ?_⟩) ?_ ?_
        rotate_left
        · intro w'
          go_simp
          with_reducible rfl
        rotate_left
        · simp only [Act.put, List.setIfInBounds_toArray, List.set_cons_zero, List.set_cons_succ, i64_w, i32_w]
          rfl
        refine take_ (i := 18) (N := some 43) (v := ?_) (a' := ?_) #[true, true, true, true, true, true, true, true, true, true, true, true, true, false, true, true, true, true, true, false, false, false] rfl rfl (by kernel_rfl) (fun _ _ _ h => h) (Or.inl ⟨by rfl, ?_⟩) hHeld ?_ ?_
        rotate_left
        · rintro w' ⟨s0, s1⟩
          go_simp
          with_reducible rfl
        rotate_left
        · simp only [Act.put, List.setIfInBounds_toArray, List.set_cons_zero, List.set_cons_succ, i64_w, i32_w]
          rfl
        refine pure_ (i := 19) (N := some 44) (v := ?_) (a' := ?_) #[true, true, true, true, true, true, true, true, true, true, true, true, true, false, true, true, true, true, true, true, false, false] rfl rfl (by kernel_rfl) (fun _ _ _ h => h) (Or.inl ⟨by rfl, ?_⟩) ?_ ?_
        rotate_left
        · intro w'
          go_simp
          with_reducible rfl
        rotate_left
        · simp only [Act.put, List.setIfInBounds_toArray, List.set_cons_zero, List.set_cons_succ, i64_w, i32_w]
          rfl
        refine one_ (i := 13) (N := some 38) #[true, true, true, true, true, true, true, true, true, true, true, true, true, true, true, true, true, true, true, true, false, false] rfl rfl (by kernel_rfl) (by decide) (fun K hK => ?_)
        refine goes_ Tryd.func32 (by kernel_rfl) rfl #[.pointer (some ⟨q, 0, none⟩), .int .i64 wd] (by rfl) rfl rfl (by simp only [List.map_toArray, List.map_cons, List.map_nil]; rfl) ?_
        with_reducible refine (HG3.out w2.drew HD2.out).mono ?_
        rintro e w3 ⟨rfl, h3, m3⟩
        refine ⟨_, rfl, ?_⟩
        have g5 : w3.cell? ⟨q, 5, none⟩ = some (.int .i64 (lead : Nat)) := (blk_cell h3.blk 5).trans rfl
        have g6 : w3.cell? ⟨q, 6, none⟩ = some (.int .i64 (trail : Nat)) := (blk_cell h3.blk 6).trans rfl
        have H3 := Lib.hid h3
        have M3 := Lib.hid m3
        clear h3 m3
        refine hK.out _ _ ⟨g5, g6⟩ (fun hHeld => ?_)
        clear hK K
        refine norm_ (a' := ?_) ?_ ?_
        rotate_left
        · show Act.put _ (some 38) _ = _
          simp only [Act.put, List.setIfInBounds_toArray, List.set_cons_zero, List.set_cons_succ, i64_w, i32_w]
          rfl
        refine pure_ (i := 20) (N := some 45) (v := ?_) (a' := ?_) #[true, true, true, true, true, true, true, true, true, true, true, true, true, true, true, true, true, true, true, true, true, false] rfl rfl (by kernel_rfl) (fun _ _ _ h => h) (Or.inl ⟨by rfl, ?_⟩) ?_ ?_
        rotate_left
        · intro w'
          go_simp
          with_reducible rfl
        rotate_left
        · simp only [Act.put, List.setIfInBounds_toArray, List.set_cons_zero, List.set_cons_succ, i64_w, i32_w]
          rfl
        refine pure_ (i := 21) (N := some 2) (v := ?_) (a' := ?_) #[true, true, true, true, true, true, true, true, true, true, true, true, true, true, true, true, true, true, true, true, true, true] rfl rfl (by kernel_rfl) (fun _ _ _ h => h) (Or.inl ⟨by rfl, ?_⟩) ?_ ?_
        rotate_left
        · intro w'
          go_simp
          with_reducible rfl
        rotate_left
        · simp only [Act.put, List.setIfInBounds_toArray, List.set_cons_zero, List.set_cons_succ, i64_w, i32_w]
          rfl
        refine done_ (by kernel_rfl) ?_
        go_wp2
        go_ret
        rw [HT.out]
        refine ⟨?_, H3.out, (M2.out.drewN 1).trans M3.out (fun _ _ h => h)⟩
        first | rfl | (rw [← hsh]; done) | (simp only [hsh]; done)
    · rw [if_neg c2] at hT
      have b2 : ((n2 : Int) == 0) = false := beq_false_of_ne (by omega)
      have HG3 := Lib.hid (fun (W : World) (hK : Rk W ok q g σ2 ⟨sn, st, sv, sstep, ⟨set, lead, trail⟩⟩) => rkget W ok q g σ2 _ hK 5 5 (fun _ _ => ⟨rfl, by decide⟩))
      have hn3 := getT_lt 5 σ2
      generalize getT 5 σ2 = G3 at hT HG3 hn3
      obtain ⟨l, σ3⟩ := G3
      simp only at hT HG3 hn3
      have HG4 := Lib.hid (fun (W : World) (hK : Rk W ok q g σ3 ⟨sn, st, sv, sstep, ⟨set, lead, trail⟩⟩) => rkget W ok q g σ3 _ hK 6 6 (fun _ _ => ⟨rfl, by decide⟩))
      have hn4 := getT_lt 6 σ3
      generalize getT 6 σ3 = G4 at hT HG4 hn4
      obtain ⟨m0, σ4⟩ := G4
      simp only at hT HG4 hn4
      have k1 : IntKind.i64.wrap (l : Int) = (l : Int) := IntWalk.i64_in _ (by omega)
      have k2 : IntKind.i64.wrap (m0 : Int) = (m0 : Int) := IntWalk.i64_in _ (by omega)
      have hm : (m0 = 0 ∧ wideT m0 = 64) ∨ (m0 ≠ 0 ∧ wideT m0 = m0) := by
        unfold wideT
        by_cases h : m0 = 0
        · exact .inl ⟨h, if_pos h⟩
        · exact .inr ⟨h, if_neg h⟩
      rcases hm with ⟨hm1, hm2⟩ | ⟨hm1, hm2⟩
      · rw [hm2] at hT
        have bm : ((m0 : Int) == 0) = true := by rw [hm1]; rfl
        clear hm2
        cases σ4 with
        | error e4 =>
          have HT : Hid (turnT ⟨set, lead, trail⟩ σ = (0, ⟨set, lead, trail⟩, .error e4)) := Lib.hid (by rw [hT]; unfold turnT4; rw [formT_er]; rfl)
          clear hT
          go_enter Tryd.func55, Tryd.ntmps55
          go_wp2_with fail
          refine HG1.out.mono ?_
          rintro e w1 ⟨rfl, h1, m1⟩
          have H1 := Lib.hid h1
          have M1 := Lib.hid m1
          clear h1 m1
          go_wp2_with fail
          refine (HG2.out w1 H1.out).mono ?_
          rintro e w2 ⟨rfl, h2, m2⟩
          have H2 := Lib.hid h2
          have M2 := Lib.hid (M1.out.trans m2 (fun _ _ h => h))
          clear h2 m2
          go_wp2_with fail
          refine (HG3.out w2 H2.out).mono ?_
          rintro e w3 ⟨rfl, h3, m3⟩
          have H3 := Lib.hid h3
          have M3 := Lib.hid (M2.out.trans m3 (fun _ _ h => h))
          clear h3 m3
          go_wp2_with fail
          refine (HG4.out w3 H3.out).mono ?_
          rintro e w4 ⟨rfl, h4, m4⟩
          have H4 := Lib.hid h4
          have M4 := Lib.hid (M3.out.trans m4 (fun _ _ h => h))
          clear h4 m4
          go_upto_region 12 with fail
          have d8 : w4.cell? ⟨q, 8, none⟩ = some (.int .i64 e4) := (blk_cell H4.out.blk 8).trans rfl
          have be : (e4 == 0) = false := beq_false_of_ne (H4.out.good e4 rfl)
          go_wp2
          go_ret
          rw [HT.out]
          exact ⟨rfl, H4.out, M4.out⟩
        | ok r4 =>
          have e5 : IntKind.i64.wrap ((l : Int) + 64) = (l : Int) + 64 := IntWalk.i64_in _ (by omega)
          by_cases hbad : 64 < l + 64
          · have HT : Hid (turnT ⟨set, lead, trail⟩ σ = (0, ⟨set, lead, trail⟩, .error 8)) := Lib.hid (by rw [hT]; unfold turnT4; rw [formT_bad hbad]; rfl)
            have hb2 : (l : Int) + 64 > 64 := by omega
            clear hT
            go_enter Tryd.func55, Tryd.ntmps55
            go_wp2_with fail
            refine HG1.out.mono ?_
            rintro e w1 ⟨rfl, h1, m1⟩
            have H1 := Lib.hid h1
            have M1 := Lib.hid m1
            clear h1 m1
            go_wp2_with fail
            refine (HG2.out w1 H1.out).mono ?_
            rintro e w2 ⟨rfl, h2, m2⟩
            have H2 := Lib.hid h2
            have M2 := Lib.hid (M1.out.trans m2 (fun _ _ h => h))
            clear h2 m2
            go_wp2_with fail
            refine (HG3.out w2 H2.out).mono ?_
            rintro e w3 ⟨rfl, h3, m3⟩
            have H3 := Lib.hid h3
            have M3 := Lib.hid (M2.out.trans m3 (fun _ _ h => h))
            clear h3 m3
            go_wp2_with fail
            refine (HG4.out w3 H3.out).mono ?_
            rintro e w4 ⟨rfl, h4, m4⟩
            have H4 := Lib.hid h4
            have M4 := Lib.hid (M3.out.trans m4 (fun _ _ h => h))
            clear h4 m4
            go_upto_region 12 with fail
            have d8 : w4.cell? ⟨q, 8, none⟩ = some (.int .i64 0) := H4.out.e0
            have f8 := blk_frozen H4.out.blk 8
            obtain ⟨h5, m5⟩ := H4.out.failed 8 (by decide)
            have H5 := Lib.hid h5
            have M5 := Lib.hid m5
            clear h5 m5
            go_wp2
            go_ret
            rw [HT.out]
            exact ⟨rfl, H5.out, M4.out.trans M5.out (fun _ _ h => h)⟩
          · have hb2 : ¬ (l : Int) + 64 > 64 := by omega
            obtain ⟨tr, htr⟩ : ∃ tr : Nat, tr = 64 - l - 64 := ⟨_, rfl⟩
            have hT3 : turnT ⟨set, lead, trail⟩ σ = ((getT 64 (.ok r4)).1 * 2 ^ tr, ⟨true, l, tr⟩, (getT 64 (.ok r4)).2) := by rw [hT, htr]; unfold turnT4; rw [formT_fine hbad]; rfl
            have HG5 := Lib.hid (fun (W : World) (hK : Rk W ok q g (.ok r4) ⟨sn, st, sv, sstep, ⟨true, l, tr⟩⟩) => rkget W ok q g (.ok r4) _ hK 64 64 (fun _ _ => ⟨rfl, by omega⟩))
            have hn5 := getT_lt 64 (.ok r4)
            generalize getT 64 (.ok r4) = G5 at hT3 HG5 hn5
            obtain ⟨n5, σ5⟩ := G5
            simp only at hT3 HG5 hn5
            have hsh := shl_ok n5 tr 64 hn5 (by omega)
            have hmt : min tr 64 = tr := by omega
            have HT := Lib.hid hT3
            have e6 : IntKind.i64.wrap (64 - (l : Int)) = 64 - (l : Int) := IntWalk.i64_in _ (by omega)
            have e7 : IntKind.i64.wrap (64 - (l : Int) - 64) = (tr : Int) := by rw [IntWalk.i64_in _ (by omega)]; omega
            have e8 : IntKind.u64.wrap (tr : Int) = (tr : Int) := by rw [IntKind.wrap_u64]; omega
            clear hT hT3 htr hbad hn5
            go_enter Tryd.func55, Tryd.ntmps55
            go_wp2_with fail
            refine HG1.out.mono ?_
            rintro e w1 ⟨rfl, h1, m1⟩
            have H1 := Lib.hid h1
            have M1 := Lib.hid m1
            clear h1 m1
            go_wp2_with fail
            refine (HG2.out w1 H1.out).mono ?_
            rintro e w2 ⟨rfl, h2, m2⟩
            have H2 := Lib.hid h2
            have M2 := Lib.hid (M1.out.trans m2 (fun _ _ h => h))
            clear h2 m2
            go_wp2_with fail
            refine (HG3.out w2 H2.out).mono ?_
            rintro e w3 ⟨rfl, h3, m3⟩
            have H3 := Lib.hid h3
            have M3 := Lib.hid (M2.out.trans m3 (fun _ _ h => h))
            clear h3 m3
            go_wp2_with fail
            refine (HG4.out w3 H3.out).mono ?_
            rintro e w4 ⟨rfl, h4, m4⟩
            have H4 := Lib.hid h4
            have M4 := Lib.hid (M3.out.trans m4 (fun _ _ h => h))
            clear h4 m4
            go_upto_region 12 with fail
            have d8 : w4.cell? ⟨q, 8, none⟩ = some (.int .i64 0) := H4.out.e0
            obtain ⟨u5, zp5⟩ : ∃ u5, w4.cell? ⟨q, 5, none⟩ = some u5 := ⟨_, (blk_cell H4.out.blk 5).trans rfl⟩
            obtain ⟨u6, zp6⟩ : ∃ u6, w4.cell? ⟨q, 6, none⟩ = some u6 := ⟨_, (blk_cell H4.out.blk 6).trans rfl⟩
            obtain ⟨u7, zp7⟩ : ∃ u7, w4.cell? ⟨q, 7, none⟩ = some u7 := ⟨_, (blk_cell H4.out.blk 7).trans rfl⟩
            have f5 := blk_frozen H4.out.blk 5
            have f6 := blk_frozen H4.out.blk 6
            have f7 := blk_frozen H4.out.blk 7
            go_upto_region 17 with fail
            obtain ⟨h5, m5⟩ := H4.out.window l tr
            obtain ⟨W5, hW5⟩ : ∃ W5, W5 = ((w4.setCell ⟨q, 5, none⟩ (.int .i64 (l : Nat))).setCell ⟨q, 6, none⟩ (.int .i64 (tr : Nat))).setCell ⟨q, 7, none⟩ (.bool true) := ⟨_, rfl⟩
            rw [← hW5] at h5 m5 ⊢
            have H5 := Lib.hid h5
            have M5 := Lib.hid (M4.out.trans m5 (fun _ _ h => h))
            have HD5 := Lib.hid (h5.drewN 1)
            have hdr : W5.drewN 1 = W5.drew := rfl
            rw [hdr] at HD5
            have d6 : W5.drew.cell? ⟨q, 6, none⟩ = some (.int .i64 (tr : Nat)) := (blk_cell HD5.out.blk 6).trans rfl
            clear h5 m5 hW5 hdr d8 zp5 zp6 zp7 f5 f6 f7
            refine start_ (n := 11) (S := fun w' => w'.cell? ⟨q, 6, none⟩ = some (.int .i64 (tr : Nat))) (ds := []) #[false, false, false, false, false, false, false, false, false, false, false] (by kernel_rfl) rfl rfl (d6) (fun hHeld => ?_)
            refine pure_ (i := 0) (N := some 90) (v := ?_) (a' := ?_) #[true, false, false, false, false, false, false, false, false, false, false] rfl rfl (by kernel_rfl) (fun _ _ _ h => h) (Or.inl ⟨by rfl, ?_⟩) ?_ ?_
            rotate_left
            · intro w'
              go_simp
              with_reducible rfl
            rotate_left
            · simp only [Act.put, List.setIfInBounds_toArray, List.set_cons_zero, List.set_cons_succ, i64_w, i32_w]
              rfl
            refine pure_ (i := 1) (N := some 91) (v := ?_) (a' := ?_) #[true, true, false, false, false, false, false, false, false, false, false] rfl rfl (by kernel_rfl) (fun _ _ _ h => h) (Or.inl ⟨by rfl, ?_⟩) ?_ ?_
            rotate_left
            · intro w'
              go_simp
              with_reducible rfl
            rotate_left
            · simp only [Act.put, List.setIfInBounds_toArray, List.set_cons_zero, List.set_cons_succ, i64_w, i32_w]
              rfl
            refine pure_ (i := 3) (N := some 93) (v := ?_) (a' := ?_) #[true, true, false, true, false, false, false, false, false, false, false] rfl rfl (by kernel_rfl) (fun _ _ _ h => h) (Or.inl ⟨by rfl, ?_⟩) ?_ ?_
            rotate_left
            · intro w'
              go_simp
              with_reducible rfl
            rotate_left
            · simp only [Act.put, List.setIfInBounds_toArray, List.set_cons_zero, List.set_cons_succ, i64_w, i32_w]
              rfl
            refine pure_ (i := 4) (N := some 94) (v := ?_) (a' := ?_) #[true, true, false, true, true, false, false, false, false, false, false] rfl rfl (by kernel_rfl) (fun _ _ _ h => h) (Or.inl ⟨by rfl, ?_⟩) ?_ ?_
            rotate_left
            · intro w'
              go_simp
              with_reducible rfl
            rotate_left
            · simp only [Act.put, List.setIfInBounds_toArray, List.set_cons_zero, List.set_cons_succ, i64_w, i32_w]
              rfl
            refine pure_ (i := 5) (N := some 95) (v := ?_) (a' := ?_) #[true, true, false, true, true, true, false, false, false, false, false] rfl rfl (by kernel_rfl) (fun _ _ _ h => h) (Or.inl ⟨by rfl, ?_⟩) ?_ ?_
            rotate_left
            · intro w'
              go_simp
              with_reducible rfl
            rotate_left
            · simp only [Act.put, List.setIfInBounds_toArray, List.set_cons_zero, List.set_cons_succ, i64_w, i32_w]
              rfl
            refine pure_ (i := 6) (N := some 96) (v := ?_) (a' := ?_) #[true, true, false, true, true, true, true, false, false, false, false] rfl rfl (by kernel_rfl) (fun _ _ _ h => h) (Or.inl ⟨by rfl, ?_⟩) ?_ ?_
            rotate_left
            · intro w'
              go_simp
              with_reducible rfl
            rotate_left
            · simp only [Act.put, List.setIfInBounds_toArray, List.set_cons_zero, List.set_cons_succ, i64_w, i32_w]
              rfl
            refine take_ (i := 7) (N := some 97) (v := ?_) (a' := ?_) #[true, true, false, true, true, true, true, true, false, false, false] rfl rfl (by kernel_rfl) (fun _ _ _ h => h) (Or.inl ⟨by rfl, ?_⟩) hHeld ?_ ?_
            rotate_left
            · intro w' s0
              go_simp
              with_reducible rfl
            rotate_left
            · simp only [Act.put, List.setIfInBounds_toArray, List.set_cons_zero, List.set_cons_succ, i64_w, i32_w]
              rfl
            refine pure_ (i := 8) (N := some 98) (v := ?_) (a' := ?_) #[true, true, false, true, true, true, true, true, true, false, false] rfl rfl (by kernel_rfl) (fun _ _ _ h => h) (Or.inl ⟨by rfl, ?_⟩) ?_ ?_
            rotate_left
            · intro w'
              go_simp
              with_reducible rfl
            rotate_left
            · simp only [Act.put, List.setIfInBounds_toArray, List.set_cons_zero, List.set_cons_succ, i64_w, i32_w]
              rfl
            refine one_ (i := 2) (N := some 92) #[true, true, true, true, true, true, true, true, true, false, false] rfl rfl (by kernel_rfl) (by decide) (fun K hK => ?_)
            refine goes_ Tryd.func32 (by kernel_rfl) rfl #[.pointer (some ⟨q, 0, none⟩), .int .i64 64] (by rfl) rfl rfl (by simp only [List.map_toArray, List.map_cons, List.map_nil]; rfl) ?_
            with_reducible refine (HG5.out W5.drew HD5.out).mono ?_
            rintro e w6 ⟨rfl, h6, m6⟩
            refine ⟨_, rfl, ?_⟩
            have g6 : w6.cell? ⟨q, 6, none⟩ = some (.int .i64 (tr : Nat)) := (blk_cell h6.blk 6).trans rfl
            have H6 := Lib.hid h6
            have M6 := Lib.hid m6
            clear h6 m6
            refine hK.out _ _ (g6) (fun hHeld => ?_)
            clear hK K
            refine norm_ (a' := ?_) ?_ ?_
            rotate_left
            · show Act.put _ (some 92) _ = _
              simp only [Act.put, List.setIfInBounds_toArray, List.set_cons_zero, List.set_cons_succ, i64_w, i32_w]
              rfl
            refine pure_ (i := 9) (N := some 99) (v := ?_) (a' := ?_) #[true, true, true, true, true, true, true, true, true, true, false] rfl rfl (by kernel_rfl) (fun _ _ _ h => h) (Or.inl ⟨by rfl, ?_⟩) ?_ ?_
            rotate_left
            · intro w'
              go_simp
              with_reducible rfl
            rotate_left
            · simp only [Act.put, List.setIfInBounds_toArray, List.set_cons_zero, List.set_cons_succ, i64_w, i32_w]
              rfl
            refine pure_ (i := 10) (N := some 2) (v := ?_) (a' := ?_) #[true, true, true, true, true, true, true, true, true, true, true] rfl rfl (by kernel_rfl) (fun _ _ _ h => h) (Or.inl ⟨by rfl, ?_⟩) ?_ ?_
            rotate_left
            · intro w'
              go_simp
              with_reducible rfl
            rotate_left
            · simp only [Act.put, List.setIfInBounds_toArray, List.set_cons_zero, List.set_cons_succ, i64_w, i32_w]
              rfl
            refine done_ (by kernel_rfl) ?_
            go_wp2
            go_ret
            rw [HT.out]
            refine ⟨?_, H6.out, (M5.out.drewN 1).trans M6.out (fun _ _ h => h)⟩
            first | rfl | (rw [← hsh]; done) | (simp only [hsh]; done)
      · rw [hm2] at hT
        have bm : ((m0 : Int) == 0) = false := beq_false_of_ne (by omega)
        clear hm2
        cases σ4 with
        | error e4 =>
          have HT : Hid (turnT ⟨set, lead, trail⟩ σ = (0, ⟨set, lead, trail⟩, .error e4)) := Lib.hid (by rw [hT]; unfold turnT4; rw [formT_er]; rfl)
          clear hT
          go_enter Tryd.func55, Tryd.ntmps55
          go_wp2_with fail
          refine HG1.out.mono ?_
          rintro e w1 ⟨rfl, h1, m1⟩
          have H1 := Lib.hid h1
          have M1 := Lib.hid m1
          clear h1 m1
          go_wp2_with fail
          refine (HG2.out w1 H1.out).mono ?_
          rintro e w2 ⟨rfl, h2, m2⟩
          have H2 := Lib.hid h2
          have M2 := Lib.hid (M1.out.trans m2 (fun _ _ h => h))
          clear h2 m2
          go_wp2_with fail
          refine (HG3.out w2 H2.out).mono ?_
          rintro e w3 ⟨rfl, h3, m3⟩
          have H3 := Lib.hid h3
          have M3 := Lib.hid (M2.out.trans m3 (fun _ _ h => h))
          clear h3 m3
          go_wp2_with fail
          refine (HG4.out w3 H3.out).mono ?_
          rintro e w4 ⟨rfl, h4, m4⟩
          have H4 := Lib.hid h4
          have M4 := Lib.hid (M3.out.trans m4 (fun _ _ h => h))
          clear h4 m4
          go_upto_region 12 with fail
          have d8 : w4.cell? ⟨q, 8, none⟩ = some (.int .i64 e4) := (blk_cell H4.out.blk 8).trans rfl
          have be : (e4 == 0) = false := beq_false_of_ne (H4.out.good e4 rfl)
          go_wp2
          go_ret
          rw [HT.out]
          exact ⟨rfl, H4.out, M4.out⟩
        | ok r4 =>
          have e5 : IntKind.i64.wrap ((l : Int) + (m0 : Int)) = (l : Int) + (m0 : Int) := IntWalk.i64_in _ (by omega)
          by_cases hbad : 64 < l + m0
          · have HT : Hid (turnT ⟨set, lead, trail⟩ σ = (0, ⟨set, lead, trail⟩, .error 8)) := Lib.hid (by rw [hT]; unfold turnT4; rw [formT_bad hbad]; rfl)
            have hb2 : (l : Int) + (m0 : Int) > 64 := by omega
            clear hT
            go_enter Tryd.func55, Tryd.ntmps55
            go_wp2_with fail
            refine HG1.out.mono ?_
            rintro e w1 ⟨rfl, h1, m1⟩
            have H1 := Lib.hid h1
            have M1 := Lib.hid m1
            clear h1 m1
            go_wp2_with fail
            refine (HG2.out w1 H1.out).mono ?_
            rintro e w2 ⟨rfl, h2, m2⟩
            have H2 := Lib.hid h2
            have M2 := Lib.hid (M1.out.trans m2 (fun _ _ h => h))
            clear h2 m2
            go_wp2_with fail
            refine (HG3.out w2 H2.out).mono ?_
            rintro e w3 ⟨rfl, h3, m3⟩
            have H3 := Lib.hid h3
            have M3 := Lib.hid (M2.out.trans m3 (fun _ _ h => h))
            clear h3 m3
            go_wp2_with fail
            refine (HG4.out w3 H3.out).mono ?_
            rintro e w4 ⟨rfl, h4, m4⟩
            have H4 := Lib.hid h4
            have M4 := Lib.hid (M3.out.trans m4 (fun _ _ h => h))
            clear h4 m4
            go_upto_region 12 with fail
            have d8 : w4.cell? ⟨q, 8, none⟩ = some (.int .i64 0) := H4.out.e0
            have f8 := blk_frozen H4.out.blk 8
            obtain ⟨h5, m5⟩ := H4.out.failed 8 (by decide)
            have H5 := Lib.hid h5
            have M5 := Lib.hid m5
            clear h5 m5
            go_wp2
            go_ret
            rw [HT.out]
            exact ⟨rfl, H5.out, M4.out.trans M5.out (fun _ _ h => h)⟩
          · have hb2 : ¬ (l : Int) + (m0 : Int) > 64 := by omega
            obtain ⟨tr, htr⟩ : ∃ tr : Nat, tr = 64 - l - m0 := ⟨_, rfl⟩
            have hT3 : turnT ⟨set, lead, trail⟩ σ = ((getT m0 (.ok r4)).1 * 2 ^ tr, ⟨true, l, tr⟩, (getT m0 (.ok r4)).2) := by rw [hT, htr]; unfold turnT4; rw [formT_fine hbad]; rfl
            have HG5 := Lib.hid (fun (W : World) (hK : Rk W ok q g (.ok r4) ⟨sn, st, sv, sstep, ⟨true, l, tr⟩⟩) => rkget W ok q g (.ok r4) _ hK (m0 : Int) m0 (fun _ _ => ⟨rfl, by omega⟩))
            have hn5 := getT_lt m0 (.ok r4)
            generalize getT m0 (.ok r4) = G5 at hT3 HG5 hn5
            obtain ⟨n5, σ5⟩ := G5
            simp only at hT3 HG5 hn5
            have hsh := shl_ok n5 tr m0 hn5 (by omega)
            have hmt : min tr 64 = tr := by omega
            have HT := Lib.hid hT3
            have e6 : IntKind.i64.wrap (64 - (l : Int)) = 64 - (l : Int) := IntWalk.i64_in _ (by omega)
            have e7 : IntKind.i64.wrap (64 - (l : Int) - (m0 : Int)) = (tr : Int) := by rw [IntWalk.i64_in _ (by omega)]; omega
            have e8 : IntKind.u64.wrap (tr : Int) = (tr : Int) := by rw [IntKind.wrap_u64]; omega
            clear hT hT3 htr hbad hn5
            go_enter Tryd.func55, Tryd.ntmps55
            go_wp2_with fail
            refine HG1.out.mono ?_
            rintro e w1 ⟨rfl, h1, m1⟩
            have H1 := Lib.hid h1
            have M1 := Lib.hid m1
            clear h1 m1
            go_wp2_with fail
            refine (HG2.out w1 H1.out).mono ?_
            rintro e w2 ⟨rfl, h2, m2⟩
            have H2 := Lib.hid h2
            have M2 := Lib.hid (M1.out.trans m2 (fun _ _ h => h))
            clear h2 m2
            go_wp2_with fail
            refine (HG3.out w2 H2.out).mono ?_
            rintro e w3 ⟨rfl, h3, m3⟩
            have H3 := Lib.hid h3
            have M3 := Lib.hid (M2.out.trans m3 (fun _ _ h => h))
            clear h3 m3
            go_wp2_with fail
            refine (HG4.out w3 H3.out).mono ?_
            rintro e w4 ⟨rfl, h4, m4⟩
            have H4 := Lib.hid h4
            have M4 := Lib.hid (M3.out.trans m4 (fun _ _ h => h))
            clear h4 m4
            go_upto_region 12 with fail
            have d8 : w4.cell? ⟨q, 8, none⟩ = some (.int .i64 0) := H4.out.e0
            obtain ⟨u5, zp5⟩ : ∃ u5, w4.cell? ⟨q, 5, none⟩ = some u5 := ⟨_, (blk_cell H4.out.blk 5).trans rfl⟩
            obtain ⟨u6, zp6⟩ : ∃ u6, w4.cell? ⟨q, 6, none⟩ = some u6 := ⟨_, (blk_cell H4.out.blk 6).trans rfl⟩
            obtain ⟨u7, zp7⟩ : ∃ u7, w4.cell? ⟨q, 7, none⟩ = some u7 := ⟨_, (blk_cell H4.out.blk 7).trans rfl⟩
            have f5 := blk_frozen H4.out.blk 5
            have f6 := blk_frozen H4.out.blk 6
            have f7 := blk_frozen H4.out.blk 7
            go_upto_region 17 with fail
            obtain ⟨h5, m5⟩ := H4.out.window l tr
            obtain ⟨W5, hW5⟩ : ∃ W5, W5 = ((w4.setCell ⟨q, 5, none⟩ (.int .i64 (l : Nat))).setCell ⟨q, 6, none⟩ (.int .i64 (tr : Nat))).setCell ⟨q, 7, none⟩ (.bool true) := ⟨_, rfl⟩
            rw [← hW5] at h5 m5 ⊢
            have H5 := Lib.hid h5
            have M5 := Lib.hid (M4.out.trans m5 (fun _ _ h => h))
            have HD5 := Lib.hid (h5.drewN 1)
            have hdr : W5.drewN 1 = W5.drew := rfl
            rw [hdr] at HD5
            have d6 : W5.drew.cell? ⟨q, 6, none⟩ = some (.int .i64 (tr : Nat)) := (blk_cell HD5.out.blk 6).trans rfl
            clear h5 m5 hW5 hdr d8 zp5 zp6 zp7 f5 f6 f7
            refine start_ (n := 11) (S := fun w' => w'.cell? ⟨q, 6, none⟩ = some (.int .i64 (tr : Nat))) (ds := []) #[false, false, false, false, false, false, false, false, false, false, false] (by kernel_rfl) rfl rfl (d6) (fun hHeld => ?_)
            refine pure_ (i := 0) (N := some 90) (v := ?_) (a' := ?_) #[true, false, false, false, false, false, false, false, false, false, false] rfl rfl (by kernel_rfl) (fun _ _ _ h => h) (Or.inl ⟨by rfl, ?_⟩) ?_ ?_
            rotate_left
            · intro w'
              go_simp
              with_reducible rfl
            rotate_left
            · simp only [Act.put, List.setIfInBounds_toArray, List.set_cons_zero, List.set_cons_succ, i64_w, i32_w]
              rfl
            refine pure_ (i := 1) (N := some 91) (v := ?_) (a' := ?_) #[true, true, false, false, false, false, false, false, false, false, false] rfl rfl (by kernel_rfl) (fun _ _ _ h => h) (Or.inl ⟨by rfl, ?_⟩) ?_ ?_
            rotate_left
            · intro w'
              go_simp
              with_reducible rfl
            rotate_left
            · simp only [Act.put, List.setIfInBounds_toArray, List.set_cons_zero, List.set_cons_succ, i64_w, i32_w]
              rfl
            refine pure_ (i := 3) (N := some 93) (v := ?_) (a' := ?_) #[true, true, false, true, false, false, false, false, false, false, false] rfl rfl (by kernel_rfl) (fun _ _ _ h => h) (Or.inl ⟨by rfl, ?_⟩) ?_ ?_
            rotate_left
            · intro w'
              go_simp
              with_reducible rfl
            rotate_left
            · simp only [Act.put, List.setIfInBounds_toArray, List.set_cons_zero, List.set_cons_succ, i64_w, i32_w]
              rfl
            refine pure_ (i := 4) (N := some 94) (v := ?_) (a' := ?_) #[true, true, false, true, true, false, false, false, false, false, false] rfl rfl (by kernel_rfl) (fun _ _ _ h => h) (Or.inl ⟨by rfl, ?_⟩) ?_ ?_
            rotate_left
            · intro w'
              go_simp
              with_reducible rfl
            rotate_left
            · simp only [Act.put, List.setIfInBounds_toArray, List.set_cons_zero, List.set_cons_succ, i64_w, i32_w]
              rfl
            refine pure_ (i := 5) (N := some 95) (v := ?_) (a' := ?_) #[true, true, false, true, true, true, false, false, false, false, false] rfl rfl (by kernel_rfl) (fun _ _ _ h => h) (Or.inl ⟨by rfl, ?_⟩) ?_ ?_
            rotate_left
            · intro w'
              go_simp
              with_reducible rfl
            rotate_left
            · simp only [Act.put, List.setIfInBounds_toArray, List.set_cons_zero, List.set_cons_succ, i64_w, i32_w]
              rfl
            refine pure_ (i := 6) (N := some 96) (v := ?_) (a' := ?_) #[true, true, false, true, true, true, true, false, false, false, false] rfl rfl (by kernel_rfl) (fun _ _ _ h => h) (Or.inl ⟨by rfl, ?_⟩) ?_ ?_
            rotate_left
            · intro w'
              go_simp
              with_reducible rfl
            rotate_left
            · simp only [Act.put, List.setIfInBounds_toArray, List.set_cons_zero, List.set_cons_succ, i64_w, i32_w]
              rfl
            refine take_ (i := 7) (N := some 97) (v := ?_) (a' := ?_) #[true, true, false, true, true, true, true, true, false, false, false] rfl rfl (by kernel_rfl) (fun _ _ _ h => h) (Or.inl ⟨by rfl, ?_⟩) hHeld ?_ ?_
            rotate_left
            · intro w' s0
              go_simp
              with_reducible rfl
            rotate_left
            · simp only [Act.put, List.setIfInBounds_toArray, List.set_cons_zero, List.set_cons_succ, i64_w, i32_w]
              rfl
            refine pure_ (i := 8) (N := some 98) (v := ?_) (a' := ?_) #[true, true, false, true, true, true, true, true, true, false, false] rfl rfl (by kernel_rfl) (fun _ _ _ h => h) (Or.inl ⟨by rfl, ?_⟩) ?_ ?_
            rotate_left
            · intro w'
              go_simp
              with_reducible rfl
            rotate_left
            · simp only [Act.put, List.setIfInBounds_toArray, List.set_cons_zero, List.set_cons_succ, i64_w, i32_w]
              rfl
            refine one_ (i := 2) (N := some 92) #[true, true, true, true, true, true, true, true, true, false, false] rfl rfl (by kernel_rfl) (by decide) (fun K hK => ?_)
            refine goes_ Tryd.func32 (by kernel_rfl) rfl #[.pointer (some ⟨q, 0, none⟩), .int .i64 (m0 : Int)] (by rfl) rfl rfl (by simp only [List.map_toArray, List.map_cons, List.map_nil]; rfl) ?_
            with_reducible refine (HG5.out W5.drew HD5.out).mono ?_
            rintro e w6 ⟨rfl, h6, m6⟩
            refine ⟨_, rfl, ?_⟩
            have g6 : w6.cell? ⟨q, 6, none⟩ = some (.int .i64 (tr : Nat)) := (blk_cell h6.blk 6).trans rfl
            have H6 := Lib.hid h6
            have M6 := Lib.hid m6
            clear h6 m6
            refine hK.out _ _ (g6) (fun hHeld => ?_)
            clear hK K
            refine norm_ (a' := ?_) ?_ ?_
            rotate_left
            · show Act.put _ (some 92) _ = _
              simp only [Act.put, List.setIfInBounds_toArray, List.set_cons_zero, List.set_cons_succ, i64_w, i32_w]
              rfl
            refine pure_ (i := 9) (N := some 99) (v := ?_) (a' := ?_) #[true, true, true, true, true, true, true, true, true, true, false] rfl rfl (by kernel_rfl) (fun _ _ _ h => h) (Or.inl ⟨by rfl, ?_⟩) ?_ ?_
            rotate_left
            · intro w'
              go_simp
              with_reducible rfl
            rotate_left
            · simp only [Act.put, List.setIfInBounds_toArray, List.set_cons_zero, List.set_cons_succ, i64_w, i32_w]
              rfl
            refine pure_ (i := 10) (N := some 2) (v := ?_) (a' := ?_) #[true, true, true, true, true, true, true, true, true, true, true] rfl rfl (by kernel_rfl) (fun _ _ _ h => h) (Or.inl ⟨by rfl, ?_⟩) ?_ ?_
            rotate_left
            · intro w'
              go_simp
              with_reducible rfl
            rotate_left
            · simp only [Act.put, List.setIfInBounds_toArray, List.set_cons_zero, List.set_cons_succ, i64_w, i32_w]
              rfl
            refine done_ (by kernel_rfl) ?_
            go_wp2
            go_ret
            rw [HT.out]
            refine ⟨?_, H6.out, (M5.out.drewN 1).trans M6.out (fun _ _ h => h)⟩
            first | rfl | (rw [← hsh]; done) | (simp only [hsh]; done)
end Go.Proofs.YtmllgglcdlcdhaaDoor
