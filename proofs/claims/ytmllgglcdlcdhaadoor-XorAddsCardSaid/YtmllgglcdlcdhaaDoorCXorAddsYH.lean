import Derived.Test.YtmllgglcdlcdhaaDoorCXorAddsYG
namespace Go.Proofs.YtmllgglcdlcdhaaDoor.Bq
end Go.Proofs.YtmllgglcdlcdhaaDoor.Bq
namespace Go.Proofs.YtmllgglcdlcdhaaDoor
open Go Go.RowKit Go.Proofs.YtmllgglcdlcdhaaDoorW.PrintWords Go.Proofs.YtmllgglcdlcdhaaDoorW.PrintMore Go.Proofs.YtmllgglcdlcdhaaDoorW.PrintLast Bq Xs
set_option linter.unusedVariables false
set_option maxRecDepth 100000
set_option linter.unusedSimpArgs false
attribute [local go_sem ↓] Go.wp_at_zero Go.wp_at_succ
attribute [local go_sem] max2_int min2_int max_two min_two
abbrev winV (W : Win) : Value := .agg #[.bool W.set, .int .i64 (W.lead : Nat), .int .i64 (W.trail : Nat)]
abbrev winC (W : Win) : Array Value := #[.bool W.set, .int .i64 (W.lead : Nat), .int .i64 (W.trail : Nat)]
theorem RB.store {w0 w : World} {base : Nat} {ok : Nat → Prop} {v : Value} {bs : List Bool} {b : Nat} {cs : Array Value} (h : RB w0 w base ok v bs) (hb : w.heap[b]? = some (.cells cs 76 (0, 0))) (hl : w0.heap.size ≤ b) (i : Nat) (u : Value) : RB w0 (w.setCell ⟨b, i, none⟩ u) base ok v bs :=
  ⟨Kd.R_set h.R hb (by decide) i u, h.M.setCell (p := ⟨b, i, none⟩) (.inr hl) u, h.b⟩
theorem RB.win {w0 w : World} {base : Nat} {ok : Nat → Prop} {v : Value} {bs : List Bool} {b : Nat} {cs : Array Value} (h : RB w0 w base ok v bs) (hb : w.heap[b]? = some (.cells cs 76 (0, 0))) (hl : w0.heap.size ≤ b) (x y z : Value) : RB w0 (((w.setCell ⟨b, 0, none⟩ x).setCell ⟨b, 1, none⟩ y).setCell ⟨b, 2, none⟩ z) base ok v bs :=
  ((h.store hb hl 0 x).store (blk_set hb 0 x) hl 1 y).store (blk_set (blk_set hb 0 x) 1 y) hl 2 z
set_option maxHeartbeats 8000000 in
theorem turn08 (w : World) (base : Nat) (ok : Nat → Prop) (v : Value) (bs : List Bool) (x : Nat) (W : Win) (hx : x < 18446744073709551616) (hok : okW W) (hR : Kd.bool.R 4 w base ok v bs) (hb : base ≤ w.heap.size) (hl : bs.length ≤ 90000000) :
    Calls Tryd.prog 51 #[v, .int .u64 (x : Nat), winV W] w fun e w' => ∃ v', e = .returned (.tuple #[v', winV (turnB x W).2]) ∧ RB w w' base ok v' (bs ++ (turnB x W).1) := by
  obtain ⟨set, lead, trail⟩ := W
  obtain ⟨Ab, cb, hvb⟩ := Kd.R_slice hR
  obtain ⟨m0, hm0⟩ : ∃ m0, m0 = bs.length := ⟨_, rfl⟩
  rw [← hm0] at hvb
  subst hvb
  have hml : m0 ≤ 90000000 := by omega
  obtain ⟨bw, hbw⟩ : ∃ bw, bw = w.heap.size := ⟨_, rfl⟩
  obtain ⟨b2, hb2⟩ : ∃ b2, b2 = bw + 1 := ⟨_, rfl⟩
  obtain ⟨W2, hW2⟩ : ∃ W2, W2 = (w.alloc (.cells #[.bool set, .int .i64 (lead : Nat), .int .i64 (trail : Nat)] 76)).alloc (.cells #[.bool false, .int .i64 0, .int .i64 0] 76) := ⟨_, rfl⟩
  have hB2 : Below w.heap.size w W2 := by rw [hW2]; exact below_alloc (below_alloc (Below.refl _ _) _) _
  have hx2 : W2.heap[bw]? = some (.cells #[.bool set, .int .i64 (lead : Nat), .int .i64 (trail : Nat)] 76 (0, 0)) := by rw [hW2, hbw]; exact (heap_alloc_old _ _ (by rw [World.size_alloc]; omega)).trans (heap_alloc_new w _)
  have hx3 : W2.heap[b2]? = some (.cells #[.bool false, .int .i64 0, .int .i64 0] 76 (0, 0)) := by
    have e : b2 = (w.alloc (.cells #[.bool set, .int .i64 (lead : Nat), .int .i64 (trail : Nat)] 76)).heap.size := by rw [hb2, hbw, World.size_alloc]
    rw [hW2, e]
    exact heap_alloc_new _ _
  have h2 : RB W2 W2 base (fun k => ok k ∧ k < w.heap.size) (.slice Ab m0 cb) bs := RB.start (Kd.R_mono (Kd.R_below (Kd.R_bound hR) hB2) (fun k hk => ⟨hk.1, hk.2.2.1⟩)) (Nat.le_trans hb hB2.size)
  have HB2 := Lib.hid hB2
  have HX := Lib.hid (And.intro hx2 hx3)
  have H2 := Lib.hid h2
  have HBB := Lib.hid hb
  have HW := Lib.hid (And.intro hW2 (And.intro hbw hb2))
  have hsz : bw < W2.heap.size := blk_lt hx2
  have hsz2 : b2 < W2.heap.size := blk_lt hx3
  have HZ := Lib.hid (And.intro hsz hsz2)
  have HNb : Hid (¬ ((ok bw ∧ bw < w.heap.size) ∨ W2.heap.size ≤ bw)) := Lib.hid (by rintro (h | h) <;> omega)
  have HN2b : Hid (¬ ((ok b2 ∧ b2 < w.heap.size) ∨ W2.heap.size ≤ b2)) := Lib.hid (by rintro (h | h) <;> omega)
  have HN := Lib.hid (show bw ≠ b2 by omega)
  have HN2 := Lib.hid (show b2 ≠ bw by omega)
  clear hR hb hB2 hx2 hx3 h2 hW2 hbw hb2 hsz hsz2
  by_cases h0 : x = 0
  · have HE : Hid (turnB x ⟨set, lead, trail⟩ = (nb 0 1, ⟨set, lead, trail⟩)) := by unfold Hid turnB; rw [if_pos h0]
    subst h0
    clear hm0
    go_enter Tryd.func51, Tryd.ntmps51
    go_upto_region 1 with fail
    rw [← HW.out.1, ← HW.out.2.1, ← HW.out.2.2]
    have z0 : W2.drew.cell? ⟨bw, 0, none⟩ = some (.bool set) := (blk_cell HX.out.1 0).trans rfl
    have z1 : W2.drew.cell? ⟨bw, 1, none⟩ = some (.int .i64 (lead : Nat)) := (blk_cell HX.out.1 1).trans rfl
    have z2 : W2.drew.cell? ⟨bw, 2, none⟩ = some (.int .i64 (trail : Nat)) := (blk_cell HX.out.1 2).trans rfl
    have HD2 := Lib.hid (H2.out.drewN 1)
    have hdr : W2.drewN 1 = W2.drew := rfl
    rw [hdr] at HD2
    clear hdr
    go_upto_region 2 with fail
    refine start_ (n := 5) (S := fun w' => w'.cell? ⟨bw, 0, none⟩ = some (.bool set) ∧ w'.cell? ⟨bw, 1, none⟩ = some (.int .i64 (lead : Nat)) ∧ w'.cell? ⟨bw, 2, none⟩ = some (.int .i64 (trail : Nat))) (ds := [4]) #[false, false, false, false, false] (by kernel_rfl) rfl rfl ⟨z0, z1, z2⟩ (fun hHeld => ?_)
    refine pure_ (i := 0) (N := some 13) (v := ?_) (a' := ?_) #[true, false, false, false, false] rfl rfl (by kernel_rfl) (fun _ _ _ h => h) (Or.inl ⟨by rfl, ?_⟩) ?_ ?_
    rotate_left
    · intro w'
      go_simp
      with_reducible rfl
    rotate_left
    · simp only [Act.put, List.setIfInBounds_toArray, List.set_cons_zero, List.set_cons_succ, i64_w, i32_w]
      rfl
    refine take_ (i := 2) (N := some 15) (v := ?_) (a' := ?_) #[true, false, true, false, false] rfl rfl (by kernel_rfl) (fun _ _ _ h => h) (Or.inl ⟨by rfl, ?_⟩) hHeld ?_ ?_
    rotate_left
    · rintro w' ⟨s0, s1, s2⟩
      go_simp
      with_reducible rfl
    rotate_left
    · simp only [Act.put, List.setIfInBounds_toArray, List.set_cons_zero, List.set_cons_succ, i64_w, i32_w]
      rfl
    refine one_ (i := 1) (N := some 14) #[true, true, true, false, false] rfl rfl (by kernel_rfl) (by decide) (fun K hK => ?_)
    refine goes_ Tryd.func48 (by kernel_rfl) rfl #[.slice Ab m0 cb, .int .u64 0, .int .i64 1] (by rfl) rfl rfl (by simp only [List.map_toArray, List.map_cons, List.map_nil]; rfl) ?_
    with_reducible refine (HD2.out.putI 0 1 0 1 rfl rfl (by decide) (by decide) (by omega)).mono ?_
    rintro e w3 ⟨v3, rfl, h3, m3⟩
    refine ⟨_, rfl, ?_⟩
    have x3 := (m3.block bw HZ.out.1 HNb.out).trans HX.out.1
    have y3 := (m3.block b2 HZ.out.2 HN2b.out).trans HX.out.2
    obtain ⟨b3, hb3⟩ : ∃ b3, b3 = bs ++ nb 0 1 := ⟨_, rfl⟩
    rw [← hb3] at h3
    have HB3 := Lib.hid hb3
    clear hb3
    have q0 : w3.cell? ⟨bw, 0, none⟩ = some (.bool set) := (blk_cell x3 0).trans rfl
    have q1 : w3.cell? ⟨bw, 1, none⟩ = some (.int .i64 (lead : Nat)) := (blk_cell x3 1).trans rfl
    have q2 : w3.cell? ⟨bw, 2, none⟩ = some (.int .i64 (trail : Nat)) := (blk_cell x3 2).trans rfl
    have u0 : w3.cell? ⟨b2, 0, none⟩ = some (.bool false) := (blk_cell y3 0).trans rfl
    have u1 : w3.cell? ⟨b2, 1, none⟩ = some (.int .i64 0) := (blk_cell y3 1).trans rfl
    have u2 : w3.cell? ⟨b2, 2, none⟩ = some (.int .i64 0) := (blk_cell y3 2).trans rfl
    have f0 := blk_frozen y3 0
    have f1 := blk_frozen y3 1
    have f2 := blk_frozen y3 2
    have YE := Lib.hid y3
    have HEND := Lib.hid h3
    clear h3 m3 x3 y3
    refine hK.out _ _ ⟨q0, q1, q2⟩ (fun hHeld => ?_)
    clear hK K
    refine norm_ (a' := ?_) ?_ ?_
    rotate_left
    · show Act.put _ (some 14) _ = _
      simp only [Act.put, List.setIfInBounds_toArray, List.set_cons_zero, List.set_cons_succ, i64_w, i32_w]
      rfl
    refine pure_ (i := 3) (N := some 6) (v := ?_) (a' := ?_) #[true, true, true, true, false] rfl rfl (by kernel_rfl) (fun _ _ _ h => h) (Or.inl ⟨by rfl, ?_⟩) ?_ ?_
    rotate_left
    · intro w'
      go_simp
      with_reducible rfl
    rotate_left
    · simp only [Act.put, List.setIfInBounds_toArray, List.set_cons_zero, List.set_cons_succ, i64_w, i32_w]
      rfl
    refine last_ (i := 4) (N := none) #[true, true, true, true, true] rfl rfl (by kernel_rfl) (by decide) (fun K hK => ?_)
    refine skip_ (w1 := ?_) (by rfl) rfl ?_ ?_
    rotate_left
    · go_simp
      rfl
    refine hK.out _ _ ?_
    clear hK K
    refine done_ (by kernel_rfl) ?_
    go_wp2
    refine bodyPost_ret (results_tc rfl _ _ b2 76 (winC ⟨set, lead, trail⟩) (0, 0) _ rfl (blk_put (blk_put (blk_put YE.out 0 _ rfl) 1 _ rfl) 2 _ rfl) Tryd.underlying76 rfl (by kernel_rfl)) rfl ?_
    refine ⟨_, by rw [HE.out], ?_⟩
    rw [HE.out]
    have h8 := HEND.out.from_ HB2.out (fun k hk => hk.1) HBB.out
    have h9 := h8.win YE.out (by have := HW.out.2; omega) (.bool set) (.int .i64 (lead : Nat)) (.int .i64 (trail : Nat))
    rw [HB3.out] at h9
    exact h9
  · have hb0 : ((x : Int) == 0) = false := beq_false_of_ne (by omega)
    obtain ⟨L0, hL0⟩ : ∃ L0 : Nat, L0 = 64 - Lib.bitLen x := ⟨_, rfl⟩
    obtain ⟨L, hL⟩ : ∃ L, L = leadX x := ⟨_, rfl⟩
    obtain ⟨T, hTr⟩ : ∃ T, T = trailX x := ⟨_, rfl⟩
    have hbl := (bitLen_bounds x h0 hx).2.1
    have hLm : L = min L0 31 := by rw [hL, hL0]; exact leadX_is x h0 hx
    have hlc : (64 - (Lib.bitLen x : Int)) = (L0 : Int) := by omega
    have htc : Lib.ctz 64 x = T := by rw [hTr]; exact (trailX_is x h0 hx).symm
    have hlt := lead_lt x h0 hx
    have hle := lead_trail x h0 hx
    rw [← hL] at hlt hle
    rw [← hTr] at hle
    have hL31 : L ≤ 31 := by omega
    have hmin : (if (31 : Int) < (L0 : Int) then (31 : Int) else (L0 : Int)) = (L : Int) := by split <;> omega
    have HLC := Lib.hid hlc
    have HTC := Lib.hid htc
    have HLT := Lib.hid hlt
    have HL := Lib.hid hL
    have HTR := Lib.hid hTr
    have HOK := Lib.hid hok
    clear hL0 hbl hlc htc hlt hLm hL hTr hok
    by_cases hc : set = true ∧ lead ≤ L ∧ trail ≤ T
    · obtain ⟨rfl, hc1, hc2⟩ := hc
      have hww : lead + trail ≤ 63 := HOK.out rfl
      have HE : Hid (turnB x ⟨true, lead, trail⟩ = (nb 1 1 ++ (nb 0 1 ++ nb (x / 2 ^ trail) (64 - lead - trail)), ⟨true, lead, trail⟩)) := by
        unfold Hid turnB
        rw [if_neg h0, if_pos ⟨rfl, by rw [← HL.out]; exact hc1, by rw [← HTR.out]; exact hc2⟩]
      obtain ⟨y, hy⟩ : ∃ y : Nat, y = x / 2 ^ trail := ⟨_, rfl⟩
      have hyi : (x : Int) / 2 ^ trail = (y : Int) := by rw [hy]; simp
      have hy2 : y < 18446744073709551616 := by rw [hy]; exact Nat.lt_of_le_of_lt (Nat.div_le_self _ _) hx
      rw [← hy] at HE
      have e1 : IntKind.u64.wrap (trail : Int) = (trail : Int) := by rw [IntKind.wrap_u64]; omega
      have e2 : IntKind.i64.wrap (64 - (lead : Int)) = 64 - (lead : Int) := IntWalk.i64_in _ (by omega)
      obtain ⟨wd, hwd⟩ : ∃ wd : Nat, wd = 64 - lead - trail := ⟨_, rfl⟩
      have e3 : IntKind.i64.wrap (64 - (lead : Int) - (trail : Int)) = (wd : Int) := by rw [IntWalk.i64_in _ (by omega)]; omega
      rw [← hwd] at HE
      have hwl : wd ≤ 64 := by omega
      have HM0 := Lib.hid hm0
      clear hwd hy hm0
      go_enter Tryd.func51, Tryd.ntmps51
      go_upto_region 1 with fail
      rw [← HW.out.1, ← HW.out.2.1, ← HW.out.2.2]
      go_wp2_with fail
      go_loud (refine (H2.out.putI 1 1 1 1 rfl rfl (by decide) (by decide) (by have := HM0.out; omega)).mono ?_)
      rintro e w3 ⟨v3, rfl, h3, m3⟩
      obtain ⟨b3, hb3⟩ : ∃ b3, b3 = bs ++ nb 1 1 := ⟨_, rfl⟩
      rw [← hb3] at h3
      obtain ⟨A3, c3, hv3⟩ := Kd.R_slice h3.R
      obtain ⟨n3, hn3⟩ : ∃ n3, n3 = b3.length := ⟨_, rfl⟩
      rw [← hn3] at hv3
      subst hv3
      have HL3 : Hid (b3.length ≤ 100000000) := Lib.hid (by rw [hb3, List.length_append, nb_length]; have := HM0.out; omega)
      have HB3 := Lib.hid hb3
      clear hb3 hn3
      have H3 := Lib.hid h3
      clear h3
      have x3a := m3.block bw HZ.out.1 HNb.out
      have x3 := x3a.trans HX.out.1
      have y3 := (m3.block b2 HZ.out.2 HN2b.out).trans HX.out.2
      have q0 : w3.cell? ⟨bw, 0, none⟩ = some (.bool true) := (blk_cell x3 0).trans rfl
      have q1 : w3.cell? ⟨bw, 1, none⟩ = some (.int .i64 (lead : Nat)) := (blk_cell x3 1).trans rfl
      have q2 : w3.cell? ⟨bw, 2, none⟩ = some (.int .i64 (trail : Nat)) := (blk_cell x3 2).trans rfl
      have z0 : w3.drew.cell? ⟨bw, 0, none⟩ = some (.bool true) := q0
      have z1 : w3.drew.cell? ⟨bw, 1, none⟩ = some (.int .i64 (lead : Nat)) := q1
      have z2 : w3.drew.cell? ⟨bw, 2, none⟩ = some (.int .i64 (trail : Nat)) := q2
      have X3 := Lib.hid (And.intro x3 y3)
      have HD3 := Lib.hid (H3.out.drewN 1)
      have hdr : w3.drewN 1 = w3.drew := rfl
      rw [hdr] at HD3
      clear hdr m3 x3a x3 y3
      go_upto_region 6 with (first | (go_at_call 67; refine (rlead_calls x _ hx).mono ?_; rintro e w' ⟨rfl, rfl⟩; rw [HLC.out]) | (go_at_call 68; refine (rtrail_calls x _ hx).mono ?_; rintro e w' ⟨rfl, rfl⟩; rw [HTC.out]))
      refine start_ (n := 17) (S := fun w' => w'.cell? ⟨bw, 0, none⟩ = some (.bool true) ∧ w'.cell? ⟨bw, 1, none⟩ = some (.int .i64 (lead : Nat)) ∧ w'.cell? ⟨bw, 2, none⟩ = some (.int .i64 (trail : Nat))) (ds := [16]) #[false, false, false, false, false, false, false, false, false, false, false, false, false, false, false, false, false] (by kernel_rfl) rfl rfl ⟨z0, z1, z2⟩ (fun hHeld => ?_)
      refine pure_ (i := 0) (N := some 37) (v := ?_) (a' := ?_) #[true, false, false, false, false, false, false, false, false, false, false, false, false, false, false, false, false] rfl rfl (by kernel_rfl) (fun _ _ _ h => h) (Or.inl ⟨by rfl, ?_⟩) ?_ ?_
      rotate_left
      · intro w'
        go_simp
        with_reducible rfl
      rotate_left
      · simp only [Act.put, List.setIfInBounds_toArray, List.set_cons_zero, List.set_cons_succ, i64_w, i32_w]
        rfl
      refine pure_ (i := 2) (N := some 39) (v := ?_) (a' := ?_) #[true, false, true, false, false, false, false, false, false, false, false, false, false, false, false, false, false] rfl rfl (by kernel_rfl) (fun _ _ _ h => h) (Or.inl ⟨by rfl, ?_⟩) ?_ ?_
      rotate_left
      · intro w'
        go_simp
        with_reducible rfl
      rotate_left
      · simp only [Act.put, List.setIfInBounds_toArray, List.set_cons_zero, List.set_cons_succ, i64_w, i32_w]
        rfl
      refine pure_ (i := 3) (N := some 40) (v := ?_) (a' := ?_) #[true, false, true, true, false, false, false, false, false, false, false, false, false, false, false, false, false] rfl rfl (by kernel_rfl) (fun _ _ _ h => h) (Or.inl ⟨by rfl, ?_⟩) ?_ ?_
      rotate_left
      · intro w'
        go_simp
        with_reducible rfl
      rotate_left
      · simp only [Act.put, List.setIfInBounds_toArray, List.set_cons_zero, List.set_cons_succ, i64_w, i32_w]
        rfl
      refine pure_ (i := 7) (N := some 44) (v := ?_) (a' := ?_) #[true, false, true, true, false, false, false, true, false, false, false, false, false, false, false, false, false] rfl rfl (by kernel_rfl) (fun _ _ _ h => h) (Or.inl ⟨by rfl, ?_⟩) ?_ ?_
      rotate_left
      · intro w'
        go_simp
        with_reducible rfl
      rotate_left
      · simp only [Act.put, List.setIfInBounds_toArray, List.set_cons_zero, List.set_cons_succ, i64_w, i32_w]
        rfl
      refine pure_ (i := 10) (N := some 47) (v := ?_) (a' := ?_) #[true, false, true, true, false, false, false, true, false, false, true, false, false, false, false, false, false] rfl rfl (by kernel_rfl) (fun _ _ _ h => h) (Or.inl ⟨by rfl, ?_⟩) ?_ ?_
      rotate_left
      · intro w'
        go_simp
        with_reducible rfl
      rotate_left
      · simp only [Act.put, List.setIfInBounds_toArray, List.set_cons_zero, List.set_cons_succ, i64_w, i32_w]
        rfl
      refine take_ (i := 4) (N := some 41) (v := ?_) (a' := ?_) #[true, false, true, true, true, false, false, true, false, false, true, false, false, false, false, false, false] rfl rfl (by kernel_rfl) (fun _ _ _ h => h) (Or.inl ⟨by rfl, ?_⟩) hHeld ?_ ?_
      rotate_left
      · rintro w' ⟨s0, s1, s2⟩
        go_simp
        with_reducible rfl
      rotate_left
      · simp only [Act.put, List.setIfInBounds_toArray, List.set_cons_zero, List.set_cons_succ, i64_w, i32_w]
        rfl
      refine pure_ (i := 5) (N := some 42) (v := ?_) (a' := ?_) #[true, false, true, true, true, true, false, true, false, false, true, false, false, false, false, false, false] rfl rfl (by kernel_rfl) (fun _ _ _ h => h) (Or.inl ⟨by rfl, ?_⟩) ?_ ?_
      rotate_left
      · intro w'
        go_simp
        with_reducible rfl
      rotate_left
      · simp only [Act.put, List.setIfInBounds_toArray, List.set_cons_zero, List.set_cons_succ, i64_w, i32_w]
        rfl
      refine pure_ (i := 6) (N := some 43) (v := ?_) (a' := ?_) #[true, false, true, true, true, true, true, true, false, false, true, false, false, false, false, false, false] rfl rfl (by kernel_rfl) (fun _ _ _ h => h) (Or.inl ⟨by rfl, ?_⟩) ?_ ?_
      rotate_left
      · intro w'
        go_simp
        with_reducible rfl
      rotate_left
      · simp only [Act.put, List.setIfInBounds_toArray, List.set_cons_zero, List.set_cons_succ, i64_w, i32_w]
        rfl
      refine take_ (i := 8) (N := some 45) (v := ?_) (a' := ?_) #[true, false, true, true, true, true, true, true, true, false, true, false, false, false, false, false, false] rfl rfl (by kernel_rfl) (fun _ _ _ h => h) (Or.inl ⟨by rfl, ?_⟩) hHeld ?_ ?_
      rotate_left
      · rintro w' ⟨s0, s1, s2⟩
        go_simp
        with_reducible rfl
      rotate_left
      · simp only [Act.put, List.setIfInBounds_toArray, List.set_cons_zero, List.set_cons_succ, i64_w, i32_w]
        rfl
      refine pure_ (i := 9) (N := some 46) (v := ?_) (a' := ?_) #[true, false, true, true, true, true, true, true, true, true, true, false, false, false, false, false, false] rfl rfl (by kernel_rfl) (fun _ _ _ h => h) (Or.inl ⟨by rfl, ?_⟩) ?_ ?_
      rotate_left
      · intro w'
        go_simp
        with_reducible rfl
      rotate_left
      · simp only [Act.put, List.setIfInBounds_toArray, List.set_cons_zero, List.set_cons_succ, i64_w, i32_w]
        rfl
      refine take_ (i := 11) (N := some 48) (v := ?_) (a' := ?_) #[true, false, true, true, true, true, true, true, true, true, true, true, false, false, false, false, false] rfl rfl (by kernel_rfl) (fun _ _ _ h => h) (Or.inl ⟨by rfl, ?_⟩) hHeld ?_ ?_
      rotate_left
      · rintro w' ⟨s0, s1, s2⟩
        go_simp
        with_reducible rfl
      rotate_left
      · simp only [Act.put, List.setIfInBounds_toArray, List.set_cons_zero, List.set_cons_succ, i64_w, i32_w]
        rfl
      refine pure_ (i := 12) (N := some 49) (v := ?_) (a' := ?_) #[true, false, true, true, true, true, true, true, true, true, true, true, true, false, false, false, false] rfl rfl (by kernel_rfl) (fun _ _ _ h => h) (Or.inl ⟨by rfl, ?_⟩) ?_ ?_
      rotate_left
      · intro w'
        go_simp
        with_reducible rfl
      rotate_left
      · simp only [Act.put, List.setIfInBounds_toArray, List.set_cons_zero, List.set_cons_succ, i64_w, i32_w]
        rfl
      refine take_ (i := 14) (N := some 51) (v := ?_) (a' := ?_) #[true, false, true, true, true, true, true, true, true, true, true, true, true, false, true, false, false] rfl rfl (by kernel_rfl) (fun _ _ _ h => h) (Or.inl ⟨by rfl, ?_⟩) hHeld ?_ ?_
      rotate_left
      · rintro w' ⟨s0, s1, s2⟩
        go_simp
        with_reducible rfl
      rotate_left
      · simp only [Act.put, List.setIfInBounds_toArray, List.set_cons_zero, List.set_cons_succ, i64_w, i32_w]
        rfl
      refine one_ (i := 1) (N := some 38) #[true, true, true, true, true, true, true, true, true, true, true, true, true, false, true, false, false] rfl rfl (by kernel_rfl) (by decide) (fun K hK => ?_)
      refine goes_ Tryd.func48 (by kernel_rfl) rfl #[.slice A3 n3 c3, .int .u64 0, .int .i64 1] (by rfl) rfl rfl (by simp only [List.map_toArray, List.map_cons, List.map_nil]; rfl) ?_
      with_reducible refine (HD3.out.putI 0 1 0 1 rfl rfl (by decide) (by decide) HL3.out).mono ?_
      rintro e w4 ⟨v4, rfl, h4, m4⟩
      refine ⟨_, rfl, ?_⟩
      obtain ⟨b4, hb4⟩ : ∃ b4, b4 = b3 ++ nb 0 1 := ⟨_, rfl⟩
      rw [← hb4] at h4
      obtain ⟨A4, c4, hv4⟩ := Kd.R_slice h4.R
      obtain ⟨n4, hn4⟩ : ∃ n4, n4 = b4.length := ⟨_, rfl⟩
      rw [← hn4] at hv4
      subst hv4
      have HL4 : Hid (b4.length ≤ 100000000) := Lib.hid (by rw [hb4, List.length_append, nb_length]; rw [HB3.out]; simp only [List.length_append, nb_length]; have := HM0.out; omega)
      have HB4 := Lib.hid hb4
      clear hb4 hn4
      have x4 := (m4.block bw (by have := X3.out.1; exact blk_lt (w := w3.drew) this) HNb.out).trans X3.out.1
      have y4 := (m4.block b2 (by have := X3.out.2; exact blk_lt (w := w3.drew) this) HN2b.out).trans X3.out.2
      have r0 : w4.cell? ⟨bw, 0, none⟩ = some (.bool true) := (blk_cell x4 0).trans rfl
      have r1 : w4.cell? ⟨bw, 1, none⟩ = some (.int .i64 (lead : Nat)) := (blk_cell x4 1).trans rfl
      have r2 : w4.cell? ⟨bw, 2, none⟩ = some (.int .i64 (trail : Nat)) := (blk_cell x4 2).trans rfl
      have X4 := Lib.hid (And.intro x4 y4)
      have H4 := Lib.hid h4
      clear h4 m4 x4 y4
      refine hK.out _ _ ⟨r0, r1, r2⟩ (fun hHeld => ?_)
      clear hK K
      refine norm_ (a' := ?_) ?_ ?_
      rotate_left
      · show Act.put _ (some 38) _ = _
        simp only [Act.put, List.setIfInBounds_toArray, List.set_cons_zero, List.set_cons_succ, i64_w, i32_w]
        rfl
      refine one_ (i := 13) (N := some 50) #[true, true, true, true, true, true, true, true, true, true, true, true, true, true, true, false, false] rfl rfl (by kernel_rfl) (by decide) (fun K hK => ?_)
      refine goes_ Tryd.func48 (by kernel_rfl) rfl #[.slice A4 n4 c4, .int .u64 y, .int .i64 wd] (by rfl) rfl rfl (by simp only [List.map_toArray, List.map_cons, List.map_nil]; rfl) ?_
      with_reducible refine (H4.out.putI y wd y wd rfl rfl hwl hy2 HL4.out).mono ?_
      rintro e w5 ⟨v5, rfl, h5, m5⟩
      refine ⟨_, rfl, ?_⟩
      obtain ⟨b5, hb5⟩ : ∃ b5, b5 = b4 ++ nb y wd := ⟨_, rfl⟩
      rw [← hb5] at h5
      have HB5 := Lib.hid hb5
      clear hb5
      have x5 := (m5.block bw (blk_lt X4.out.1) HNb.out).trans X4.out.1
      have y5 := (m5.block b2 (blk_lt X4.out.2) HN2b.out).trans X4.out.2
      have s0 : w5.cell? ⟨bw, 0, none⟩ = some (.bool true) := (blk_cell x5 0).trans rfl
      have s1 : w5.cell? ⟨bw, 1, none⟩ = some (.int .i64 (lead : Nat)) := (blk_cell x5 1).trans rfl
      have s2 : w5.cell? ⟨bw, 2, none⟩ = some (.int .i64 (trail : Nat)) := (blk_cell x5 2).trans rfl
      have u0 : w5.cell? ⟨b2, 0, none⟩ = some (.bool false) := (blk_cell y5 0).trans rfl
      have u1 : w5.cell? ⟨b2, 1, none⟩ = some (.int .i64 0) := (blk_cell y5 1).trans rfl
      have u2 : w5.cell? ⟨b2, 2, none⟩ = some (.int .i64 0) := (blk_cell y5 2).trans rfl
      have f0 := blk_frozen y5 0
      have f1 := blk_frozen y5 1
      have f2 := blk_frozen y5 2
      have YE := Lib.hid y5
      have HEND := Lib.hid h5
      clear h5 m5 x5 y5
      refine hK.out _ _ ⟨s0, s1, s2⟩ (fun hHeld => ?_)
      clear hK K
      refine norm_ (a' := ?_) ?_ ?_
      rotate_left
      · show Act.put _ (some 50) _ = _
        simp only [Act.put, List.setIfInBounds_toArray, List.set_cons_zero, List.set_cons_succ, i64_w, i32_w]
        rfl
      refine pure_ (i := 15) (N := some 6) (v := ?_) (a' := ?_) #[true, true, true, true, true, true, true, true, true, true, true, true, true, true, true, true, false] rfl rfl (by kernel_rfl) (fun _ _ _ h => h) (Or.inl ⟨by rfl, ?_⟩) ?_ ?_
      rotate_left
      · intro w'
        go_simp
        with_reducible rfl
      rotate_left
      · simp only [Act.put, List.setIfInBounds_toArray, List.set_cons_zero, List.set_cons_succ, i64_w, i32_w]
        rfl
      refine last_ (i := 16) (N := none) #[true, true, true, true, true, true, true, true, true, true, true, true, true, true, true, true, true] rfl rfl (by kernel_rfl) (by decide) (fun K hK => ?_)
      refine skip_ (w1 := ?_) (by rfl) rfl ?_ ?_
      rotate_left
      · go_simp
        rfl
      refine hK.out _ _ ?_
      clear hK K
      refine done_ (by kernel_rfl) ?_
      go_wp2
      refine bodyPost_ret (results_tc rfl _ _ b2 76 (winC ⟨true, lead, trail⟩) (0, 0) _ rfl (blk_put (blk_put (blk_put YE.out 0 _ rfl) 1 _ rfl) 2 _ rfl) Tryd.underlying76 rfl (by kernel_rfl)) rfl ?_
      refine ⟨_, by rw [HE.out], ?_⟩
      rw [HE.out]
      have h8 := HEND.out.from_ HB2.out (fun k hk => hk.1) HBB.out
      have h9 := h8.win YE.out (by have := HW.out.2; omega) (.bool true) (.int .i64 (lead : Nat)) (.int .i64 (trail : Nat))
      rw [HB5.out, HB4.out, HB3.out] at h9
      simp only [List.append_assoc] at h9 ⊢
      exact h9
    · have HE : Hid (turnB x ⟨set, lead, trail⟩ = (nb 1 1 ++ (nb 1 1 ++ (nb L 5 ++ (nb ((64 - L - T) % 64) 6 ++ nb (x / 2 ^ T) (64 - L - T)))), ⟨true, L, T⟩)) := by
        unfold Hid turnB
        rw [if_neg h0, if_neg (by rw [← HL.out, ← HTR.out]; exact hc), ← HL.out, ← HTR.out]
      obtain ⟨y, hy⟩ : ∃ y : Nat, y = x / 2 ^ T := ⟨_, rfl⟩
      have hyi : (x : Int) / 2 ^ T = (y : Int) := by rw [hy]; simp
      have hy2 : y < 18446744073709551616 := by rw [hy]; exact Nat.lt_of_le_of_lt (Nat.div_le_self _ _) hx
      rw [← hy] at HE
      have e1 : IntKind.u64.wrap (T : Int) = (T : Int) := by rw [IntKind.wrap_u64]; omega
      have e2 : IntKind.i64.wrap (64 - (L : Int)) = 64 - (L : Int) := IntWalk.i64_in _ (by omega)
      obtain ⟨wd, hwd⟩ : ∃ wd : Nat, wd = 64 - L - T := ⟨_, rfl⟩
      have e3 : IntKind.i64.wrap (64 - (L : Int) - (T : Int)) = (wd : Int) := by rw [IntWalk.i64_in _ (by omega)]; omega
      have e4 : IntKind.u64.wrap (L : Int) = (L : Int) := by rw [IntKind.wrap_u64]; omega
      rw [← hwd] at HE
      obtain ⟨wm, hwm⟩ : ∃ wm : Nat, wm = wd % 64 := ⟨_, rfl⟩
      have e5 : Int.tmod (wd : Int) 64 = (wm : Int) := by rw [hwm]; rfl
      have e6 : IntKind.u64.wrap (wm : Int) = (wm : Int) := by rw [IntKind.wrap_u64]; omega
      rw [← hwm] at HE
      have hwl : wd ≤ 64 := by omega
      have hwm2 : wm < 64 := by omega
      have HM0 := Lib.hid hm0
      clear hwd hwm hy hm0
      have hcc : (set = false) ∨ (set = true ∧ ¬ lead ≤ L) ∨ (set = true ∧ lead ≤ L ∧ ¬ trail ≤ T) := by
        cases set
        · exact .inl rfl
        · by_cases h2 : lead ≤ L
          · exact .inr (.inr ⟨rfl, h2, fun h3 => hc ⟨rfl, h2, h3⟩⟩)
          · exact .inr (.inl ⟨rfl, h2⟩)
      clear hc
      rcases hcc with rfl | ⟨rfl, k1⟩ | ⟨rfl, k1, k2⟩
      · go_enter Tryd.func51, Tryd.ntmps51
        go_upto_region 1 with fail
        rw [← HW.out.1, ← HW.out.2.1, ← HW.out.2.2]
        go_wp2_with fail
        go_loud (refine (H2.out.putI 1 1 1 1 rfl rfl (by decide) (by decide) (by have := HM0.out; omega)).mono ?_)
        rintro e w3 ⟨v3, rfl, h3, m3⟩
        obtain ⟨b3, hb3⟩ : ∃ b3, b3 = bs ++ nb 1 1 := ⟨_, rfl⟩
        rw [← hb3] at h3
        obtain ⟨A3, c3, hv3⟩ := Kd.R_slice h3.R
        obtain ⟨n3, hn3⟩ : ∃ n3, n3 = b3.length := ⟨_, rfl⟩
        rw [← hn3] at hv3
        subst hv3
        have HL3 : Hid (b3.length ≤ 100000000) := Lib.hid (by rw [hb3, List.length_append, nb_length]; have := HM0.out; omega)
        have HB3 := Lib.hid hb3
        clear hb3 hn3
        have H3 := Lib.hid h3
        clear h3
        have x3 := (m3.block bw HZ.out.1 HNb.out).trans HX.out.1
        have y3 := (m3.block b2 HZ.out.2 HN2b.out).trans HX.out.2
        have q0 : w3.cell? ⟨bw, 0, none⟩ = some (.bool false) := (blk_cell x3 0).trans rfl
        have q1 : w3.cell? ⟨bw, 1, none⟩ = some (.int .i64 (lead : Nat)) := (blk_cell x3 1).trans rfl
        have q2 : w3.cell? ⟨bw, 2, none⟩ = some (.int .i64 (trail : Nat)) := (blk_cell x3 2).trans rfl
        have Y3 := Lib.hid y3
        clear m3 x3 y3
        go_upto_region 8 with (first | (go_at_call 67; refine (rlead_calls x _ hx).mono ?_; rintro e w' ⟨rfl, rfl⟩; rw [HLC.out]) | (go_at_call 68; refine (rtrail_calls x _ hx).mono ?_; rintro e w' ⟨rfl, rfl⟩; rw [HTC.out]))
        clear q0 q1 q2
        go_wp2_with fail
        go_loud (refine (H3.out.putI 1 1 1 1 rfl rfl (by decide) (by decide) HL3.out).mono ?_)
        rintro e w4 ⟨v4, rfl, h4, m4⟩
        obtain ⟨b4, hb4⟩ : ∃ b4, b4 = b3 ++ nb 1 1 := ⟨_, rfl⟩
        rw [← hb4] at h4
        obtain ⟨A4, c4, hv4⟩ := Kd.R_slice h4.R
        obtain ⟨n4, hn4⟩ : ∃ n4, n4 = b4.length := ⟨_, rfl⟩
        rw [← hn4] at hv4
        subst hv4
        have HL4 : Hid (b4.length ≤ 100000000) := Lib.hid (by rw [hb4, List.length_append, nb_length]; rw [HB3.out]; simp only [List.length_append, nb_length]; have := HM0.out; omega)
        have HB4 := Lib.hid hb4
        clear hb4 hn4
        have Y4 := Lib.hid ((m4.block b2 (blk_lt Y3.out) HN2b.out).trans Y3.out)
        have H4 := Lib.hid h4
        clear h4 m4
        go_wp2_with fail
        go_loud (refine (H4.out.putI L 5 L 5 rfl rfl (by decide) (by omega) HL4.out).mono ?_)
        rintro e w5 ⟨v5, rfl, h5, m5⟩
        obtain ⟨b5, hb5⟩ : ∃ b5, b5 = b4 ++ nb L 5 := ⟨_, rfl⟩
        rw [← hb5] at h5
        obtain ⟨A5, c5, hv5⟩ := Kd.R_slice h5.R
        obtain ⟨n5, hn5⟩ : ∃ n5, n5 = b5.length := ⟨_, rfl⟩
        rw [← hn5] at hv5
        subst hv5
        have HL5 : Hid (b5.length ≤ 100000000) := Lib.hid (by rw [hb5, List.length_append, nb_length]; rw [HB4.out, HB3.out]; simp only [List.length_append, nb_length]; have := HM0.out; omega)
        have HB5 := Lib.hid hb5
        clear hb5 hn5
        have Y5 := Lib.hid ((m5.block b2 (blk_lt Y4.out) HN2b.out).trans Y4.out)
        have H5 := Lib.hid h5
        clear h5 m5
        go_wp2_with fail
        go_loud (refine (H5.out.putI wm 6 wm 6 rfl rfl (by decide) (by omega) HL5.out).mono ?_)
        rintro e w6 ⟨v6, rfl, h6, m6⟩
        obtain ⟨b6, hb6⟩ : ∃ b6, b6 = b5 ++ nb wm 6 := ⟨_, rfl⟩
        rw [← hb6] at h6
        obtain ⟨A6, c6, hv6⟩ := Kd.R_slice h6.R
        obtain ⟨n6, hn6⟩ : ∃ n6, n6 = b6.length := ⟨_, rfl⟩
        rw [← hn6] at hv6
        subst hv6
        have HL6 : Hid (b6.length ≤ 100000000) := Lib.hid (by rw [hb6, List.length_append, nb_length]; rw [HB5.out, HB4.out, HB3.out]; simp only [List.length_append, nb_length]; have := HM0.out; omega)
        have HB6 := Lib.hid hb6
        clear hb6 hn6
        have Y6 := Lib.hid ((m6.block b2 (blk_lt Y5.out) HN2b.out).trans Y5.out)
        have H6 := Lib.hid h6
        clear h6 m6
        go_wp2_with fail
        go_loud (refine (H6.out.putI y wd y wd rfl rfl hwl hy2 HL6.out).mono ?_)
        rintro e w7 ⟨v7, rfl, h7, m7⟩
        obtain ⟨b7, hb7⟩ : ∃ b7, b7 = b6 ++ nb y wd := ⟨_, rfl⟩
        rw [← hb7] at h7
        have HB7 := Lib.hid hb7
        have y7 := (m7.block b2 (blk_lt Y6.out) HN2b.out).trans Y6.out
        have u0 : w7.cell? ⟨b2, 0, none⟩ = some (.bool false) := (blk_cell y7 0).trans rfl
        have u1 : w7.cell? ⟨b2, 1, none⟩ = some (.int .i64 0) := (blk_cell y7 1).trans rfl
        have u2 : w7.cell? ⟨b2, 2, none⟩ = some (.int .i64 0) := (blk_cell y7 2).trans rfl
        have f0 := blk_frozen y7 0
        have f1 := blk_frozen y7 1
        have f2 := blk_frozen y7 2
        have YE := Lib.hid y7
        have HEND := Lib.hid h7
        clear h7 m7 y7 hb7
        go_wp2
        refine bodyPost_ret (results_tc rfl _ _ b2 76 (winC ⟨true, L, T⟩) (0, 0) _ rfl (blk_put (blk_put (blk_put YE.out 0 _ rfl) 1 _ rfl) 2 _ rfl) Tryd.underlying76 rfl (by kernel_rfl)) rfl ?_
        refine ⟨_, by rw [HE.out], ?_⟩
        rw [HE.out]
        have h8 := HEND.out.from_ HB2.out (fun k hk => hk.1) HBB.out
        have h9 := h8.win YE.out (by have := HW.out.2; omega) (.bool true) (.int .i64 (L : Nat)) (.int .i64 (T : Nat))
        rw [HB7.out, HB6.out, HB5.out, HB4.out, HB3.out] at h9
        simp only [List.append_assoc] at h9 ⊢
        exact h9
      · go_enter Tryd.func51, Tryd.ntmps51
        go_upto_region 1 with fail
        rw [← HW.out.1, ← HW.out.2.1, ← HW.out.2.2]
        go_wp2_with fail
        go_loud (refine (H2.out.putI 1 1 1 1 rfl rfl (by decide) (by decide) (by have := HM0.out; omega)).mono ?_)
        rintro e w3 ⟨v3, rfl, h3, m3⟩
        obtain ⟨b3, hb3⟩ : ∃ b3, b3 = bs ++ nb 1 1 := ⟨_, rfl⟩
        rw [← hb3] at h3
        obtain ⟨A3, c3, hv3⟩ := Kd.R_slice h3.R
        obtain ⟨n3, hn3⟩ : ∃ n3, n3 = b3.length := ⟨_, rfl⟩
        rw [← hn3] at hv3
        subst hv3
        have HL3 : Hid (b3.length ≤ 100000000) := Lib.hid (by rw [hb3, List.length_append, nb_length]; have := HM0.out; omega)
        have HB3 := Lib.hid hb3
        clear hb3 hn3
        have H3 := Lib.hid h3
        clear h3
        have x3 := (m3.block bw HZ.out.1 HNb.out).trans HX.out.1
        have y3 := (m3.block b2 HZ.out.2 HN2b.out).trans HX.out.2
        have q0 : w3.cell? ⟨bw, 0, none⟩ = some (.bool true) := (blk_cell x3 0).trans rfl
        have q1 : w3.cell? ⟨bw, 1, none⟩ = some (.int .i64 (lead : Nat)) := (blk_cell x3 1).trans rfl
        have q2 : w3.cell? ⟨bw, 2, none⟩ = some (.int .i64 (trail : Nat)) := (blk_cell x3 2).trans rfl
        have Y3 := Lib.hid y3
        clear m3 x3 y3
        go_upto_region 8 with (first | (go_at_call 67; refine (rlead_calls x _ hx).mono ?_; rintro e w' ⟨rfl, rfl⟩; rw [HLC.out]) | (go_at_call 68; refine (rtrail_calls x _ hx).mono ?_; rintro e w' ⟨rfl, rfl⟩; rw [HTC.out]))
        clear q0 q1 q2
        go_wp2_with fail
        go_loud (refine (H3.out.putI 1 1 1 1 rfl rfl (by decide) (by decide) HL3.out).mono ?_)
        rintro e w4 ⟨v4, rfl, h4, m4⟩
        obtain ⟨b4, hb4⟩ : ∃ b4, b4 = b3 ++ nb 1 1 := ⟨_, rfl⟩
        rw [← hb4] at h4
        obtain ⟨A4, c4, hv4⟩ := Kd.R_slice h4.R
        obtain ⟨n4, hn4⟩ : ∃ n4, n4 = b4.length := ⟨_, rfl⟩
        rw [← hn4] at hv4
        subst hv4
        have HL4 : Hid (b4.length ≤ 100000000) := Lib.hid (by rw [hb4, List.length_append, nb_length]; rw [HB3.out]; simp only [List.length_append, nb_length]; have := HM0.out; omega)
        have HB4 := Lib.hid hb4
        clear hb4 hn4
        have Y4 := Lib.hid ((m4.block b2 (blk_lt Y3.out) HN2b.out).trans Y3.out)
        have H4 := Lib.hid h4
        clear h4 m4
        go_wp2_with fail
        go_loud (refine (H4.out.putI L 5 L 5 rfl rfl (by decide) (by omega) HL4.out).mono ?_)
        rintro e w5 ⟨v5, rfl, h5, m5⟩
        obtain ⟨b5, hb5⟩ : ∃ b5, b5 = b4 ++ nb L 5 := ⟨_, rfl⟩
        rw [← hb5] at h5
        obtain ⟨A5, c5, hv5⟩ := Kd.R_slice h5.R
        obtain ⟨n5, hn5⟩ : ∃ n5, n5 = b5.length := ⟨_, rfl⟩
        rw [← hn5] at hv5
        subst hv5
        have HL5 : Hid (b5.length ≤ 100000000) := Lib.hid (by rw [hb5, List.length_append, nb_length]; rw [HB4.out, HB3.out]; simp only [List.length_append, nb_length]; have := HM0.out; omega)
        have HB5 := Lib.hid hb5
        clear hb5 hn5
        have Y5 := Lib.hid ((m5.block b2 (blk_lt Y4.out) HN2b.out).trans Y4.out)
        have H5 := Lib.hid h5
        clear h5 m5
        go_wp2_with fail
        go_loud (refine (H5.out.putI wm 6 wm 6 rfl rfl (by decide) (by omega) HL5.out).mono ?_)
        rintro e w6 ⟨v6, rfl, h6, m6⟩
        obtain ⟨b6, hb6⟩ : ∃ b6, b6 = b5 ++ nb wm 6 := ⟨_, rfl⟩
        rw [← hb6] at h6
        obtain ⟨A6, c6, hv6⟩ := Kd.R_slice h6.R
        obtain ⟨n6, hn6⟩ : ∃ n6, n6 = b6.length := ⟨_, rfl⟩
        rw [← hn6] at hv6
        subst hv6
        have HL6 : Hid (b6.length ≤ 100000000) := Lib.hid (by rw [hb6, List.length_append, nb_length]; rw [HB5.out, HB4.out, HB3.out]; simp only [List.length_append, nb_length]; have := HM0.out; omega)
        have HB6 := Lib.hid hb6
        clear hb6 hn6
        have Y6 := Lib.hid ((m6.block b2 (blk_lt Y5.out) HN2b.out).trans Y5.out)
        have H6 := Lib.hid h6
        clear h6 m6
        go_wp2_with fail
        go_loud (refine (H6.out.putI y wd y wd rfl rfl hwl hy2 HL6.out).mono ?_)
        rintro e w7 ⟨v7, rfl, h7, m7⟩
        obtain ⟨b7, hb7⟩ : ∃ b7, b7 = b6 ++ nb y wd := ⟨_, rfl⟩
        rw [← hb7] at h7
        have HB7 := Lib.hid hb7
        have y7 := (m7.block b2 (blk_lt Y6.out) HN2b.out).trans Y6.out
        have u0 : w7.cell? ⟨b2, 0, none⟩ = some (.bool false) := (blk_cell y7 0).trans rfl
        have u1 : w7.cell? ⟨b2, 1, none⟩ = some (.int .i64 0) := (blk_cell y7 1).trans rfl
        have u2 : w7.cell? ⟨b2, 2, none⟩ = some (.int .i64 0) := (blk_cell y7 2).trans rfl
        have f0 := blk_frozen y7 0
        have f1 := blk_frozen y7 1
        have f2 := blk_frozen y7 2
        have YE := Lib.hid y7
        have HEND := Lib.hid h7
        clear h7 m7 y7 hb7
        go_wp2
        refine bodyPost_ret (results_tc rfl _ _ b2 76 (winC ⟨true, L, T⟩) (0, 0) _ rfl (blk_put (blk_put (blk_put YE.out 0 _ rfl) 1 _ rfl) 2 _ rfl) Tryd.underlying76 rfl (by kernel_rfl)) rfl ?_
        refine ⟨_, by rw [HE.out], ?_⟩
        rw [HE.out]
        have h8 := HEND.out.from_ HB2.out (fun k hk => hk.1) HBB.out
        have h9 := h8.win YE.out (by have := HW.out.2; omega) (.bool true) (.int .i64 (L : Nat)) (.int .i64 (T : Nat))
        rw [HB7.out, HB6.out, HB5.out, HB4.out, HB3.out] at h9
        simp only [List.append_assoc] at h9 ⊢
        exact h9
      · go_enter Tryd.func51, Tryd.ntmps51
        go_upto_region 1 with fail
        rw [← HW.out.1, ← HW.out.2.1, ← HW.out.2.2]
        go_wp2_with fail
        go_loud (refine (H2.out.putI 1 1 1 1 rfl rfl (by decide) (by decide) (by have := HM0.out; omega)).mono ?_)
        rintro e w3 ⟨v3, rfl, h3, m3⟩
        obtain ⟨b3, hb3⟩ : ∃ b3, b3 = bs ++ nb 1 1 := ⟨_, rfl⟩
        rw [← hb3] at h3
        obtain ⟨A3, c3, hv3⟩ := Kd.R_slice h3.R
        obtain ⟨n3, hn3⟩ : ∃ n3, n3 = b3.length := ⟨_, rfl⟩
        rw [← hn3] at hv3
        subst hv3
        have HL3 : Hid (b3.length ≤ 100000000) := Lib.hid (by rw [hb3, List.length_append, nb_length]; have := HM0.out; omega)
        have HB3 := Lib.hid hb3
        clear hb3 hn3
        have H3 := Lib.hid h3
        clear h3
        have x3 := (m3.block bw HZ.out.1 HNb.out).trans HX.out.1
        have y3 := (m3.block b2 HZ.out.2 HN2b.out).trans HX.out.2
        have q0 : w3.cell? ⟨bw, 0, none⟩ = some (.bool true) := (blk_cell x3 0).trans rfl
        have q1 : w3.cell? ⟨bw, 1, none⟩ = some (.int .i64 (lead : Nat)) := (blk_cell x3 1).trans rfl
        have q2 : w3.cell? ⟨bw, 2, none⟩ = some (.int .i64 (trail : Nat)) := (blk_cell x3 2).trans rfl
        have Y3 := Lib.hid y3
        clear m3 x3 y3
        go_upto_region 8 with (first | (go_at_call 67; refine (rlead_calls x _ hx).mono ?_; rintro e w' ⟨rfl, rfl⟩; rw [HLC.out]) | (go_at_call 68; refine (rtrail_calls x _ hx).mono ?_; rintro e w' ⟨rfl, rfl⟩; rw [HTC.out]))
        clear q0 q1 q2
        go_wp2_with fail
        go_loud (refine (H3.out.putI 1 1 1 1 rfl rfl (by decide) (by decide) HL3.out).mono ?_)
        rintro e w4 ⟨v4, rfl, h4, m4⟩
        obtain ⟨b4, hb4⟩ : ∃ b4, b4 = b3 ++ nb 1 1 := ⟨_, rfl⟩
        rw [← hb4] at h4
        obtain ⟨A4, c4, hv4⟩ := Kd.R_slice h4.R
        obtain ⟨n4, hn4⟩ : ∃ n4, n4 = b4.length := ⟨_, rfl⟩
        rw [← hn4] at hv4
        subst hv4
        have HL4 : Hid (b4.length ≤ 100000000) := Lib.hid (by rw [hb4, List.length_append, nb_length]; rw [HB3.out]; simp only [List.length_append, nb_length]; have := HM0.out; omega)
        have HB4 := Lib.hid hb4
        clear hb4 hn4
        have Y4 := Lib.hid ((m4.block b2 (blk_lt Y3.out) HN2b.out).trans Y3.out)
        have H4 := Lib.hid h4
        clear h4 m4
        go_wp2_with fail
        go_loud (refine (H4.out.putI L 5 L 5 rfl rfl (by decide) (by omega) HL4.out).mono ?_)
        rintro e w5 ⟨v5, rfl, h5, m5⟩
        obtain ⟨b5, hb5⟩ : ∃ b5, b5 = b4 ++ nb L 5 := ⟨_, rfl⟩
        rw [← hb5] at h5
        obtain ⟨A5, c5, hv5⟩ := Kd.R_slice h5.R
        obtain ⟨n5, hn5⟩ : ∃ n5, n5 = b5.length := ⟨_, rfl⟩
        rw [← hn5] at hv5
        subst hv5
        have HL5 : Hid (b5.length ≤ 100000000) := Lib.hid (by rw [hb5, List.length_append, nb_length]; rw [HB4.out, HB3.out]; simp only [List.length_append, nb_length]; have := HM0.out; omega)
        have HB5 := Lib.hid hb5
        clear hb5 hn5
        have Y5 := Lib.hid ((m5.block b2 (blk_lt Y4.out) HN2b.out).trans Y4.out)
        have H5 := Lib.hid h5
        clear h5 m5
        go_wp2_with fail
        go_loud (refine (H5.out.putI wm 6 wm 6 rfl rfl (by decide) (by omega) HL5.out).mono ?_)
        rintro e w6 ⟨v6, rfl, h6, m6⟩
        obtain ⟨b6, hb6⟩ : ∃ b6, b6 = b5 ++ nb wm 6 := ⟨_, rfl⟩
        rw [← hb6] at h6
        obtain ⟨A6, c6, hv6⟩ := Kd.R_slice h6.R
        obtain ⟨n6, hn6⟩ : ∃ n6, n6 = b6.length := ⟨_, rfl⟩
        rw [← hn6] at hv6
        subst hv6
        have HL6 : Hid (b6.length ≤ 100000000) := Lib.hid (by rw [hb6, List.length_append, nb_length]; rw [HB5.out, HB4.out, HB3.out]; simp only [List.length_append, nb_length]; have := HM0.out; omega)
        have HB6 := Lib.hid hb6
        clear hb6 hn6
        have Y6 := Lib.hid ((m6.block b2 (blk_lt Y5.out) HN2b.out).trans Y5.out)
        have H6 := Lib.hid h6
        clear h6 m6
        go_wp2_with fail
        go_loud (refine (H6.out.putI y wd y wd rfl rfl hwl hy2 HL6.out).mono ?_)
        rintro e w7 ⟨v7, rfl, h7, m7⟩
        obtain ⟨b7, hb7⟩ : ∃ b7, b7 = b6 ++ nb y wd := ⟨_, rfl⟩
        rw [← hb7] at h7
        have HB7 := Lib.hid hb7
        have y7 := (m7.block b2 (blk_lt Y6.out) HN2b.out).trans Y6.out
        have u0 : w7.cell? ⟨b2, 0, none⟩ = some (.bool false) := (blk_cell y7 0).trans rfl
        have u1 : w7.cell? ⟨b2, 1, none⟩ = some (.int .i64 0) := (blk_cell y7 1).trans rfl
        have u2 : w7.cell? ⟨b2, 2, none⟩ = some (.int .i64 0) := (blk_cell y7 2).trans rfl
        have f0 := blk_frozen y7 0
        have f1 := blk_frozen y7 1
        have f2 := blk_frozen y7 2
        have YE := Lib.hid y7
        have HEND := Lib.hid h7
        clear h7 m7 y7 hb7
        go_wp2
        refine bodyPost_ret (results_tc rfl _ _ b2 76 (winC ⟨true, L, T⟩) (0, 0) _ rfl (blk_put (blk_put (blk_put YE.out 0 _ rfl) 1 _ rfl) 2 _ rfl) Tryd.underlying76 rfl (by kernel_rfl)) rfl ?_
        refine ⟨_, by rw [HE.out], ?_⟩
        rw [HE.out]
        have h8 := HEND.out.from_ HB2.out (fun k hk => hk.1) HBB.out
        have h9 := h8.win YE.out (by have := HW.out.2; omega) (.bool true) (.int .i64 (L : Nat)) (.int .i64 (T : Nat))
        rw [HB7.out, HB6.out, HB5.out, HB4.out, HB3.out] at h9
        simp only [List.append_assoc] at h9 ⊢
        exact h9
end Go.Proofs.YtmllgglcdlcdhaaDoor
