import Derived.Test.YtmllgglcdlcdhaaDoorCXorAddsYH
import Derived.Test.YtmllgglcdlcdhaaDoorCXorAddsY8
namespace Go.Proofs.YtmllgglcdlcdhaaDoor.Bq
end Go.Proofs.YtmllgglcdlcdhaaDoor.Bq
namespace Go.Proofs.YtmllgglcdlcdhaaDoor
open Go Go.RowKit Go.Proofs.YtmllgglcdlcdhaaDoorW.PrintWords Go.Proofs.YtmllgglcdlcdhaaDoorW.PrintMore Go.Proofs.YtmllgglcdlcdhaaDoorW.PrintLast Bq Xs
set_option linter.unusedVariables false
set_option maxRecDepth 100000
set_option linter.unusedSimpArgs false
attribute [local go_sem ↓] Go.wp_at_zero Go.wp_at_succ
theorem RB.trans {w1 w2 w3 : World} {base : Nat} {ok : Nat → Prop} {v v2 : Value} {bs bs2 : List Bool} (h : RB w1 w2 base ok v bs) (k : RB w2 w3 base (fun k => ok k ∨ w1.heap.size ≤ k) v2 bs2) : RB w1 w3 base ok v2 bs2 :=
  ⟨Kd.R_mono k.R (fun i hi => hi.elim id (fun h2 => .inr (Nat.le_trans h.M.size h2))), h.M.trans k.M (fun i hi h2 => h2.elim id (fun h3 => absurd h3 (Nat.not_le.2 hi))), h.b⟩
theorem now_wrap (a b : Int) : IntKind.i64.wrap (a - b) = wrap64 (a - b) := by rw [IntKind.wrap_i64]; unfold wrap64; omega
theorem now_step (a b : Int) : wrap64 (a - b) = wrap64 ((u64 (a - b) : Nat) : Int) := by unfold wrap64 u64; omega
theorem now_u (a b : Int) : IntKind.u64.wrap (wrap64 (a - b)) = ((u64 (a - b) : Nat) : Int) := by rw [wrapu]; unfold wrap64 u64; omega
theorem now_change (n p : Nat) : IntKind.i64.wrap (wrap64 (n : Int) - wrap64 (p : Int)) = wrap64 ((n : Int) - (p : Int)) := by rw [IntKind.wrap_i64]; unfold wrap64; omega
theorem ad_block (a : Addr) (n : Nat) : (a.add n).block = a.block := by unfold Addr.add; split <;> rfl
structure BitSt (w wr : World) (bq : Nat) (v : Value) (bs : List Bool) (s : St) : Prop where
  R : Kd.bool.R 4 wr w.heap.size (fun k => w.heap.size ≤ k ∧ k ≠ bq) v bs
  B : Below w.heap.size w wr
  Q : wr.heap[bq]? = some (.cells (winC s.w) 76 (0, 0))
  lq : w.heap.size ≤ bq
theorem BitSt.done {w wr W1 w' : World} {bq : Nat} {v v' : Value} {bs bs' : List Bool} {s : St} (h : BitSt w wr bq v bs s) (hB : Below wr.heap.size wr W1) (hR : RB W1 w' w.heap.size (fun k => (w.heap.size ≤ k ∧ k ≠ bq) ∧ k < wr.heap.size) v' bs') : BitSt w w' bq v' bs' s := by
  have hq := blk_lt h.Q
  have hs := hB.size
  exact ⟨Kd.R_mono hR.R (fun k hk => hk.elim (fun h2 => h2.1) (fun h2 => ⟨by have := h.B.size; omega, by omega⟩)), (h.B.trans (below_lower hB h.B.size)).trans (hR.M.below (Nat.le_trans h.B.size hs) (fun k hk => hk.1.1)), (hR.M.block bq (by omega) (fun hk => hk.1.2 rfl)).trans ((hB.block bq hq).trans h.Q), h.lq⟩
theorem BitSt.win {w wr : World} {bq : Nat} {v : Value} {bs : List Bool} {s : St} (h : BitSt w wr bq v bs s) (W : Win) (s2 : St) (hs : s2.w = W) : BitSt w (((wr.setCell ⟨bq, 0, none⟩ (.bool W.set)).setCell ⟨bq, 1, none⟩ (.int .i64 (W.lead : Nat))).setCell ⟨bq, 2, none⟩ (.int .i64 (W.trail : Nat))) bq v bs s2 := by
  subst hs
  exact ⟨Kd.R_set (Kd.R_set (Kd.R_set h.R h.Q (by decide) 0 _) (blk_set h.Q 0 _) (by decide) 1 _) (blk_set (blk_set h.Q 0 _) 1 _) (by decide) 2 _, ((h.B.setCell (p := ⟨bq, 0, none⟩) h.lq _).setCell (p := ⟨bq, 1, none⟩) h.lq _).setCell (p := ⟨bq, 2, none⟩) h.lq _, blk_put (blk_put (blk_put h.Q 0 _ rfl) 1 _ rfl) 2 _ rfl, h.lq⟩
set_option maxHeartbeats 8000000 in
theorem bits08 (w : World) (A : Option Addr) (c : Nat) (L : List (Int × Nat)) (hC : SmpRow w A L) (hL : ∀ x ∈ L, SmpOk x) (hlen : L.length ≤ 50000) :
    Calls Tryd.prog 30 #[.slice A L.length c] w fun e w' => ∃ v', e = .returned v' ∧ Kd.bool.R 4 w' w.heap.size (fun _ => True) v' (packB L) ∧ Below w.heap.size w w' := by
  have HC := Lib.hid hC
  have HL := Lib.hid hL
  clear hC hL
  have hlu : IntKind.u64.wrap (L.length : Int) = (L.length : Int) := by rw [IntKind.wrap_u64]; omega
  have HP0 := Lib.hid ((RB.start (w := w) (base := w.heap.size) (ok := fun k => w.heap.size ≤ k) (v := .slice none 0 0) (bs := []) (Kd.R_nil _ _ _ _ _) (Nat.le_refl _)).putI (L.length : Int) 16 L.length 16 rfl rfl (by decide) (by omega) (by decide))
  go_enter Tryd.func30, Tryd.ntmps30
  go_upto_region 3 with (go_at_call 48; go_loud (refine HP0.out.mono ?_); rintro e w1 ⟨v1, rfl, h1, _⟩; rw [List.nil_append] at h1; have H1 := Lib.hid h1; clear h1)
  obtain ⟨bq, hbq⟩ : ∃ bq, bq = w1.heap.size := ⟨_, rfl⟩
  obtain ⟨W2, hW2⟩ : ∃ W2, W2 = w1.alloc (.cells #[.bool false, .int .i64 0, .int .i64 0] 76) := ⟨_, rfl⟩
  have hB2 : Below w1.heap.size w1 W2 := by rw [hW2]; exact below_alloc (Below.refl _ _) _
  have hs1 := H1.out.M.size
  have hS : BitSt w W2 bq v1 (nb L.length 16) st0 := by
    refine ⟨Kd.R_mono (Kd.R_below (Kd.R_bound H1.out.R) hB2) (fun k hk => ⟨hk.2.1, by have := hk.2.2.1; omega⟩), (H1.out.M.below (Nat.le_refl _) (fun k hk => hk)).trans (below_lower hB2 hs1), ?_, by omega⟩
    rw [hW2, hbq]
    exact blk_new w1 _
  rw [← hW2, ← hbq]
  have HS := Lib.hid hS
  clear hS hB2 hs1 hW2 hbq H1 HP0
  go_wp2
  go_loopg [16, 3, 5] L.length (fun kq s16 s3 s5 wr => ∃ (i : Nat) (bs : List Bool) (s : St), i + kq = L.length ∧ s16 = .int .i64 i ∧ s5 = .int .i64 (wrap64 (s.step : Nat)) ∧ bs.length ≤ 16 + 157 * i ∧ s.n = i ∧ Hid (s.n = 0 → s.step = 0) ∧ Hid (0 < i → L.getD (i - 1) (0, 0) = (s.t, s.v)) ∧ Hid (BitSt w wr bq s3 bs s) ∧ Hid (OkS s) ∧ Hid (bs ++ allB s (L.drop i) = packB L))
  case atStart => exact ⟨0, nb L.length 16, st0, by omega, rfl, congrArg (Value.int IntKind.i64) (show (0 : Int) = wrap64 ((0 : Nat) : Int) by unfold wrap64; omega), by rw [nb_length]; omega, rfl, fun _ => rfl, (fun h => absurd h (by decide)), HS.out, st0_ok, rfl⟩
  case round =>
    obtain ⟨i, bs, s, hi, rfl, rfl, hbl, hsn, HZ, HP, HS, HO, HA⟩ := hrel
    obtain ⟨A3, c3, hs3⟩ := Kd.R_slice HS.out.R
    obtain ⟨m3, hm3⟩ : ∃ m3, m3 = bs.length := ⟨_, rfl⟩
    rw [← hm3] at hs3
    subst hs3
    by_cases hlt : i < L.length
    · obtain ⟨ad, hA, hx1, hx2⟩ := HC.out.below HS.out.B i hlt
      subst hA
      have hsp := allB_split L s i hlt
      have hxm : SmpOk (L.getD i (0, 0)) := HL.out _ (by rw [List.getD_eq_getElem?_getD, List.getElem?_eq_getElem hlt]; exact List.getElem_mem hlt)
      have hprev : 0 < i → wr.cell? (ad.add ((i - 1) * 2)) = some (.int .i64 s.t) ∧ wr.cell? (ad.add ((i - 1) * 2 + 1)) = some (.int .u64 (s.v : Nat)) := by
        intro h
        obtain ⟨ad2, hA2, hy1, hy2⟩ := HC.out.below HS.out.B (i - 1) (by omega)
        injection hA2 with hA2
        subst hA2
        rw [HP.out h] at hy1 hy2
        exact ⟨hy1, hy2⟩
      obtain ⟨x, hx⟩ : ∃ x, x = L.getD i (0, 0) := ⟨_, rfl⟩
      rw [← hx] at hx1 hx2 hsp hxm
      have HXI := Lib.hid hx
      clear hx
      obtain ⟨t, v⟩ := x
      simp only at hx1 hx2
      have hx3 : wr.cell? ⟨(ad.add (i * 2)).block, (ad.add (i * 2)).off + 1, none⟩ = some (.int .u64 (v : Nat)) := by rw [add_next_cell]; exact hx2
      have HSP := Lib.hid hsp
      have HXM := Lib.hid hxm
      have HPV := Lib.hid hprev
      have HM3 := Lib.hid hm3
      have HSN := Lib.hid hsn
      clear hsp hxm hx2 hprev hm3
      go_upto_region 6 with fail
      obtain ⟨W5, hW5⟩ : ∃ W5, W5 = wr.alloc (.cells #[.int .i64 t, .int .u64 (v : Nat)] 39) := ⟨_, rfl⟩
      obtain ⟨bx, hbx⟩ : ∃ bx, bx = wr.heap.size := ⟨_, rfl⟩
      have hB5 : Below wr.heap.size wr W5 := by rw [hW5]; exact below_alloc (Below.refl _ _) _
      have hb5 : W5.heap[bx]? = some (.cells #[.int .i64 t, .int .u64 (v : Nat)] 39 (0, 0)) := by rw [hW5, hbx]; exact heap_alloc_new wr _
      have hq5 : W5.heap[bq]? = some (.cells (winC s.w) 76 (0, 0)) := (hB5.block bq (blk_lt HS.out.Q)).trans HS.out.Q
      have hR5 : Kd.bool.R 4 W5 w.heap.size (fun k => (w.heap.size ≤ k ∧ k ≠ bq) ∧ k < wr.heap.size) (.slice A3 m3 c3) bs := Kd.R_mono (Kd.R_below (Kd.R_bound HS.out.R) hB5) (fun k hk => ⟨hk.1, hk.2.2.1⟩)
      have hbz : w.heap.size ≤ W5.heap.size := Nat.le_trans HS.out.B.size hB5.size
      rw [← hW5, ← hbx]
      have HBX := Lib.hid (And.intro hbx (blk_lt HS.out.Q))
      have hadw : ad.block < w.heap.size := by
        obtain ⟨ad2, hA2, hy1, _⟩ := HC.out i hlt
        injection hA2 with hA2
        rw [hA2]
        have := World.block_lt_of_cell? w _ hy1
        rwa [ad_block] at this
      have HAD0 := Lib.hid hadw
      clear hadw
      have HN1 : Hid (¬ (((w.heap.size ≤ bx ∧ bx ≠ bq) ∧ bx < wr.heap.size))) := Lib.hid (by rintro ⟨_, h⟩; omega)
      have HB5 := Lib.hid hB5
      have HX5 := Lib.hid hb5
      have HQ5 := Lib.hid hq5
      have HR5 := Lib.hid hR5
      have HBZ := Lib.hid hbz
      clear hB5 hb5 hq5 hR5 hbz hW5 hbx hx1 hx3
      by_cases hi0 : i = 0
      · subst hi0
        obtain ⟨hn0, hstep⟩ : s.n = 0 ∧ s.step = 0 := ⟨hsn, HZ.out hsn⟩
        have HN0 := Lib.hid hn0
        have HST := Lib.hid hstep
        have hzl := zig_lt t HXM.out.1
        have hul := uv_len10 _ hzl.1
        have hby : Byts (ints (uv (zigI t).toNat)) := by
          intro y hy
          obtain ⟨z, hz, rfl⟩ := List.mem_map.1 hy
          have := uv_lt _ z hz
          omega
        have hil : (ints (uv (zigI t).toNat)).length ≤ 10 := by rw [ints_length]; exact hul
        obtain ⟨ys, hys⟩ : ∃ ys, ys = ints (uv (zigI t).toNat) := ⟨_, rfl⟩
        have HVI := Lib.hid (fun W => rputVarint_calls W t HXM.out.1.1 HXM.out.1.2)
        have HYS := Lib.hid hys
        rw [← hys] at hby hil HVI
        have HBY := Lib.hid hby
        clear hys hzl hul hby hn0 hstep hsn
        have z0 : W5.drew.cell? ⟨bx, 0, none⟩ = some (.int .i64 t) := (blk_cell HX5.out 0).trans rfl
        have z1 : W5.drew.cell? ⟨bx, 1, none⟩ = some (.int .u64 (v : Nat)) := (blk_cell HX5.out 1).trans rfl
        have hvl : v < 18446744073709551616 := HXM.out.2
        go_upto_region 7 with fail
        refine start_ (n := 9) (S := fun w' => w'.cell? ⟨bx, 0, none⟩ = some (.int .i64 t) ∧ w'.cell? ⟨bx, 1, none⟩ = some (.int .u64 (v : Nat))) (ds := [7]) #[false, false, false, false, false, false, false, false, false] (by kernel_rfl) rfl rfl ⟨z0, z1⟩ (fun hHeld => ?_)
        refine pure_ (i := 0) (N := some 23) (v := ?_) (a' := ?_) #[true, false, false, false, false, false, false, false, false] rfl rfl (by kernel_rfl) (fun _ _ _ h => h) (Or.inl ⟨by rfl, ?_⟩) ?_ ?_
        rotate_left
        · intro w'
          go_simp
          with_reducible rfl
        rotate_left
        · simp only [Act.put, List.setIfInBounds_toArray, List.set_cons_zero, List.set_cons_succ, i64_w, i32_w]
          rfl
        refine pure_ (i := 1) (N := some 24) (v := ?_) (a' := ?_) #[true, true, false, false, false, false, false, false, false] rfl rfl (by kernel_rfl) (fun _ _ _ h => h) (Or.inl ⟨by rfl, ?_⟩) ?_ ?_
        rotate_left
        · intro w'
          go_simp
          with_reducible rfl
        rotate_left
        · simp only [Act.put, List.setIfInBounds_toArray, List.set_cons_zero, List.set_cons_succ, i64_w, i32_w]
          rfl
        refine pure_ (i := 5) (N := some 28) (v := ?_) (a' := ?_) #[true, true, false, false, false, true, false, false, false] rfl rfl (by kernel_rfl) (fun _ _ _ h => h) (Or.inl ⟨by rfl, ?_⟩) ?_ ?_
        rotate_left
        · intro w'
          go_simp
          with_reducible rfl
        rotate_left
        · simp only [Act.put, List.setIfInBounds_toArray, List.set_cons_zero, List.set_cons_succ, i64_w, i32_w]
          rfl
        refine take_ (i := 2) (N := some 25) (v := ?_) (a' := ?_) #[true, true, true, false, false, true, false, false, false] rfl rfl (by kernel_rfl) (fun _ _ _ h => h) (Or.inl ⟨by rfl, ?_⟩) hHeld ?_ ?_
        rotate_left
        · rintro w' ⟨s0, s1⟩
          go_simp
          with_reducible rfl
        rotate_left
        · simp only [Act.put, List.setIfInBounds_toArray, List.set_cons_zero, List.set_cons_succ, i64_w, i32_w]
          rfl
        refine take_ (i := 6) (N := some 29) (v := ?_) (a' := ?_) #[true, true, true, false, false, true, true, false, false] rfl rfl (by kernel_rfl) (fun _ _ _ h => h) (Or.inl ⟨by rfl, ?_⟩) hHeld ?_ ?_
        rotate_left
        · rintro w' ⟨s0, s1⟩
          go_simp
          with_reducible rfl
        rotate_left
        · simp only [Act.put, List.setIfInBounds_toArray, List.set_cons_zero, List.set_cons_succ, i64_w, i32_w]
          rfl
        refine one_ (i := 3) (N := some 26) #[true, true, true, true, false, true, true, false, false] rfl rfl (by kernel_rfl) (by decide) (fun K hK => ?_)
        refine goes_ Tryd.func19 (by kernel_rfl) rfl #[.int .i64 t] (by rfl) rfl rfl (by simp only [List.map_toArray, List.map_cons, List.map_nil]; rfl) ?_
        with_reducible refine (HVI.out W5.drew).mono ?_
        rintro e w6 ⟨v6, rfl, hR6, hB6⟩
        refine ⟨_, rfl, ?_⟩
        obtain ⟨A6, c6, hv6⟩ := Kd.R_slice hR6
        obtain ⟨n6, hn6⟩ : ∃ n6, n6 = ys.length := ⟨_, rfl⟩
        rw [← hn6] at hv6
        subst hv6
        have x6 := (hB6.block bx (blk_lt (w := W5.drew) HX5.out)).trans HX5.out
        have f0_x6 : w6.cell? ⟨bx, 0, none⟩ = some (.int .i64 t) := (blk_cell x6 0).trans rfl
        have f1_x6 : w6.cell? ⟨bx, 1, none⟩ = some (.int .u64 (v : Nat)) := (blk_cell x6 1).trans rfl
        have hd6 : Below W5.heap.size W5 w6 := (below_drew (Below.refl _ W5)).trans hB6
        have HBD := Lib.hid hd6
        have HBYT := Lib.hid (bytes08 w6 w.heap.size W5.heap.size (fun k => (w.heap.size ≤ k ∧ k ≠ bq) ∧ k < wr.heap.size) (fun k => W5.heap.size ≤ k) (.slice A3 m3 c3) (.slice A6 n6 c6) bs ys (Kd.R_below HR5.out hd6) (Nat.le_trans HBZ.out hd6.size) (Kd.R_mono (Kd.R_bound hR6) (fun k hk => hk.2.1)) (fun k hk h2 => by have := HB5.out.size; have := h2.2; omega) HBY.out (by omega))
        have HX6 := Lib.hid x6
        clear hR6 hB6 hn6 hd6
        refine hK.out _ _ ⟨f0_x6, f1_x6⟩ (fun hHeld => ?_)
        clear hK K
        refine norm_ (a' := ?_) ?_ ?_
        rotate_left
        · show Act.put _ (some 26) _ = _
          simp only [Act.put, List.setIfInBounds_toArray, List.set_cons_zero, List.set_cons_succ, i64_w, i32_w]
          rfl
        refine one_ (i := 4) (N := some 27) #[true, true, true, true, true, true, true, false, false] rfl rfl (by kernel_rfl) (by decide) (fun K hK => ?_)
        refine goes_ Tryd.func49 (by kernel_rfl) rfl #[.slice A3 m3 c3, .slice A6 n6 c6] (by rfl) rfl rfl (by simp only [List.map_toArray, List.map_cons, List.map_nil]; rfl) ?_
        with_reducible refine (HBYT.out).mono ?_
        rintro e w7 ⟨v7, rfl, h7⟩
        refine ⟨_, rfl, ?_⟩
        obtain ⟨b7, hb7⟩ : ∃ b7, b7 = bs ++ bytesB ys := ⟨_, rfl⟩
        rw [← hb7] at h7
        obtain ⟨A7, c7, hv7⟩ := Kd.R_slice h7.R
        obtain ⟨n7, hn7⟩ : ∃ n7, n7 = b7.length := ⟨_, rfl⟩
        rw [← hn7] at hv7
        subst hv7
        have HL7 : Hid (b7.length ≤ 100000000) := Lib.hid (by rw [hb7, List.length_append, bytesB_length]; omega)
        have x7 := (h7.M.block bx (blk_lt HX6.out) HN1.out).trans HX6.out
        have f0_x7 : w7.cell? ⟨bx, 0, none⟩ = some (.int .i64 t) := (blk_cell x7 0).trans rfl
        have f1_x7 : w7.cell? ⟨bx, 1, none⟩ = some (.int .u64 (v : Nat)) := (blk_cell x7 1).trans rfl
        have HB7 := Lib.hid hb7
        have HX7 := Lib.hid x7
        have H7 := Lib.hid h7
        clear h7 hb7 hn7
        refine hK.out _ _ ⟨f0_x7, f1_x7⟩ (fun hHeld => ?_)
        clear hK K
        refine norm_ (a' := ?_) ?_ ?_
        rotate_left
        · show Act.put _ (some 27) _ = _
          simp only [Act.put, List.setIfInBounds_toArray, List.set_cons_zero, List.set_cons_succ, i64_w, i32_w]
          rfl
        refine last_ (i := 7) (N := some 30) #[true, true, true, true, true, true, true, true, false] rfl rfl (by kernel_rfl) (by decide) (fun K hK => ?_)
        refine goes_ Tryd.func48 (by kernel_rfl) rfl #[.slice A7 n7 c7, .int .u64 v, .int .i64 64] (by rfl) rfl rfl (by simp only [List.map_toArray, List.map_cons, List.map_nil]; rfl) ?_
        with_reducible refine (H7.out.putI v 64 v 64 rfl rfl (by decide) hvl HL7.out).mono ?_
        rintro e w8 ⟨v8, rfl, h8, _⟩
        refine ⟨_, rfl, ?_⟩
        obtain ⟨b8, hb8⟩ : ∃ b8, b8 = b7 ++ nb v 64 := ⟨_, rfl⟩
        rw [← hb8] at h8
        have HB8 := Lib.hid hb8
        have H8 := Lib.hid h8
        clear h8 hb8
        refine hK.out _ _ ?_
        clear hK K
        refine norm_ (a' := ?_) ?_ ?_
        rotate_left
        · show Act.put _ (some 30) _ = _
          simp only [Act.put, List.setIfInBounds_toArray, List.set_cons_zero, List.set_cons_succ, i64_w, i32_w]
          rfl
        refine pure_ (i := 8) (N := some 3) (v := ?_) (a' := ?_) #[true, true, true, true, true, true, true, true, true] rfl rfl (by kernel_rfl) (fun _ _ _ h => h) (Or.inl ⟨by rfl, ?_⟩) ?_ ?_
        rotate_left
        · intro w'
          go_simp
          with_reducible rfl
        rotate_left
        · simp only [Act.put, List.setIfInBounds_toArray, List.set_cons_zero, List.set_cons_succ, i64_w, i32_w]
          rfl
        refine done_ (by kernel_rfl) ?_
        go_wp2
        have h9 := HS.out.done HB5.out (H8.out.from_ (HBD.out) (fun k hk => hk) HBZ.out)
        go_roundg (gk - 1)
        case measure => omega
        case rel =>
          have hadd : addB s t v = (bytesB (ints (uv (zigI t).toNat)) ++ nb v 64, ⟨1, t, v, 0, s.w⟩) := by unfold addB; rw [if_pos HN0.out]
          have hal := add_len HO.out t v HXM.out.1 HXM.out.2
          have hok := addB_ok HO.out t v HXM.out.1 HXM.out.2
          have hsp := HSP.out
          simp only [hadd] at hal hok hsp
          rw [HB8.out, HB7.out, HYS.out] at h9
          refine ⟨1, bs ++ (bytesB (ints (uv (zigI t).toNat)) ++ nb v 64), ⟨1, t, v, 0, s.w⟩, by omega, by go_num, by rw [HST.out], by rw [List.length_append]; omega, rfl, (fun h => absurd h (by show ¬ (1 : Nat) = 0; decide)), (fun _ => HXI.out.symm), ?_, hok, ?_⟩
          · rw [List.append_assoc] at h9
            exact ⟨h9.R, h9.B, h9.Q, h9.lq⟩
          · show _ = packB L
            rw [List.append_assoc, ← hsp]
            exact HA.out
      · obtain ⟨hp1, hp2⟩ := HPV.out (by omega)
        obtain ⟨j, hj⟩ : ∃ j : Nat, j = i - 1 := ⟨_, rfl⟩
        rw [← hj] at hp1 hp2
        have hij : IntKind.i64.wrap ((i : Int) - 1) = (j : Int) := by rw [IntWalk.i64_in _ (by omega)]; omega
        have hijw : IntKind.i64.wrap (j : Int) = (j : Int) := IntWalk.i64_in _ (by omega)
        have hij2 : ((i : Int) - 1) = (j : Int) := by omega
        have hjl : j < L.length := by omega
        clear hj
        have hp3 : wr.cell? ⟨(ad.add (j * 2)).block, (ad.add (j * 2)).off + 1, none⟩ = some (.int .u64 (s.v : Nat)) := by rw [add_next_cell]; exact hp2
        have HP1 := Lib.hid (fun (W : World) (hW : Below wr.heap.size wr W) => (hW.cell (World.block_lt_of_cell? wr _ hp1)).trans hp1)
        have HP3 := Lib.hid (fun (W : World) (hW : Below wr.heap.size wr W) => (hW.cell (World.block_lt_of_cell? wr _ hp3)).trans hp3)
        have HAD : Hid (¬ ((w.heap.size ≤ (ad.add (j * 2)).block ∧ (ad.add (j * 2)).block ≠ bq) ∧ (ad.add (j * 2)).block < wr.heap.size)) := Lib.hid (by rintro ⟨⟨h, _⟩, _⟩; rw [ad_block] at h; have := HAD0.out; omega)
        clear hp1 hp2 hp3
        obtain ⟨sn, st, sv, sstep, sw⟩ := s
        simp only at hsn HP1 HP3 HQ5 HSN HSP
        obtain ⟨stp, hstp⟩ : ∃ stp : Nat, stp = Xs.u64 (t - st) := ⟨_, rfl⟩
        have hsl : stp < 18446744073709551616 := by rw [hstp]; exact u64_lt _
        obtain ⟨now, hnow⟩ : ∃ now : Int, now = wrap64 (t - st) := ⟨_, rfl⟩
        have hn1 : IntKind.i64.wrap (t - st) = now := by rw [hnow]; exact now_wrap t st
        have hn1b : wrap64 (t - st) = now := hnow.symm
        have hn2 : IntKind.u64.wrap now = (stp : Int) := by rw [hnow, hstp]; exact now_u t st
        have hn3 : now = wrap64 (stp : Nat) := by rw [hnow, hstp]; exact now_step t st
        have HN3 := Lib.hid hn3
        have HNA := Lib.hid (And.intro hn1 hn1b)
        have HNB := Lib.hid hn2
        have HSTP := Lib.hid hstp
        clear hn1 hn1b hn2 hn3
        obtain ⟨xv, hxv⟩ : ∃ xv : Nat, xv = v ^^^ sv := ⟨_, rfl⟩
        have hxl : xv < 18446744073709551616 := by rw [hxv]; exact Nat.xor_lt_two_pow (n := 64) HXM.out.2 HO.out.v
        have hxe : bits .xor .u64 (v : Int) (sv : Int) = (xv : Int) := by rw [hxv]; exact xor_u v sv HXM.out.2 HO.out.v
        have HXV := Lib.hid hxv
        have hi0b : ((i : Int) == 0) = false := beq_false_of_ne (by omega)
        have z0 : W5.cell? ⟨bx, 0, none⟩ = some (.int .i64 t) := (blk_cell HX5.out 0).trans rfl
        have a0 := HP1.out W5 HB5.out
        clear hnow hstp hxv
        by_cases hi1 : i = 1
        · have hi1b : ((i : Int) == 1) = true := by rw [hi1]; rfl
          have hn11 : sn = 1 := by omega
          have HI1 := Lib.hid hi1
          clear hi1
          have hul := uv_len10 _ hsl
          have hby : Byts (ints (uv stp)) := by
            intro y hy
            obtain ⟨z, hz, rfl⟩ := List.mem_map.1 hy
            have := uv_lt _ z hz
            omega
          have hil : (ints (uv stp)).length ≤ 10 := by rw [ints_length]; exact hul
          obtain ⟨ys, hys⟩ : ∃ ys, ys = ints (uv stp) := ⟨_, rfl⟩
          have HVI := Lib.hid (fun W => rputUvarint_calls W stp hsl)
          have HYS := Lib.hid hys
          rw [← hys] at hby hil HVI
          have HBY := Lib.hid hby
          have HN11 := Lib.hid hn11
          clear hys hul hby hsn hn11
          obtain ⟨hn1, hn1b⟩ := HNA.out
          go_upto_region 8 with fail
          go_quiet (fail)
          clear hn1 hn1b
          obtain ⟨W6, hW6⟩ : ∃ W6, W6 = W5.drewN nq := ⟨_, rfl⟩
          rw [← hW6]
          have HB56 : Hid (Below wr.heap.size wr W6) := Lib.hid (by rw [hW6]; exact pw_below_drewN HB5.out _)
          have HR6 : Hid (Kd.bool.R 4 W6 w.heap.size (fun k => (w.heap.size ≤ k ∧ k ≠ bq) ∧ k < wr.heap.size) (.slice A3 m3 c3) bs) := Lib.hid (by rw [hW6]; exact Kd.R_drewN HR5.out _)
          have HX6 : Hid (W6.heap[bx]? = some (.cells #[.int .i64 t, .int .u64 (v : Nat)] 39 (0, 0))) := Lib.hid (by rw [hW6]; exact HX5.out)
          have HQ6 : Hid (W6.heap[bq]? = some (.cells (winC sw) 76 (0, 0))) := Lib.hid (by rw [hW6]; exact HQ5.out)
          have HS6 : Hid (wr.heap.size < W6.heap.size ∧ bx < W6.heap.size ∧ bq < W6.heap.size) := Lib.hid (by have h1 := blk_lt HX6.out; have h2 := blk_lt HQ6.out; have h3 := blk_lt (w := wr) HS.out.Q; exact ⟨by have := HBX.out.1; omega, h1, h2⟩)
          clear hW6 z0 a0
          have hn2 := HNB.out
          go_wp2_with fail
          clear hn2
          go_loud (refine (HVI.out W6).mono ?_)
          rintro e w7 ⟨v7, rfl, hR7, hB7⟩
          obtain ⟨A7, c7, hv7⟩ := Kd.R_slice hR7
          obtain ⟨n7, hn7⟩ : ∃ n7, n7 = ys.length := ⟨_, rfl⟩
          rw [← hn7] at hv7
          subst hv7
          have HBYT := Lib.hid (bytes08 w7 w.heap.size W6.heap.size (fun k => (w.heap.size ≤ k ∧ k ≠ bq) ∧ k < wr.heap.size) (fun k => W6.heap.size ≤ k) (.slice A3 m3 c3) (.slice A7 n7 c7) bs ys (Kd.R_below HR6.out hB7) (Nat.le_trans HS.out.B.size (Nat.le_trans (Nat.le_of_lt HS6.out.1) hB7.size)) (Kd.R_mono (Kd.R_bound hR7) (fun k hk => hk.2.1)) (fun k hk h2 => by have := HS6.out.1; have := h2.2; omega) HBY.out (by omega))
          have HB7 := Lib.hid hB7
          clear hR7 hB7 hn7
          go_wp2_with fail
          go_loud (refine HBYT.out.mono ?_)
          rintro e w8 ⟨v8, rfl, h8⟩
          obtain ⟨b8, hb8⟩ : ∃ b8, b8 = bs ++ bytesB ys := ⟨_, rfl⟩
          rw [← hb8] at h8
          have HB8 := Lib.hid hb8
          have H8 := Lib.hid (h8.from_ HB7.out (fun k hk => hk) (Nat.le_trans HS.out.B.size (Nat.le_of_lt HS6.out.1)))
          have HL8 : Hid (b8.length ≤ 80000000) := Lib.hid (by rw [hb8, List.length_append, bytesB_length]; omega)
          clear h8 hb8
          go_upto_region 12 with fail
          obtain ⟨A8, c8, hv8⟩ := Kd.R_slice H8.out.R
          obtain ⟨n8, hn8⟩ : ∃ n8, n8 = b8.length := ⟨_, rfl⟩
          rw [← hn8] at hv8
          subst hv8
          have x8 := (H8.out.M.block bx HS6.out.2.1 HN1.out).trans HX6.out
          have q8 := (H8.out.M.block bq HS6.out.2.2 (fun h => h.1.2 rfl)).trans HQ6.out
          have p8 : w8.cell? ⟨(ad.add (j * 2)).block, (ad.add (j * 2)).off + 1, none⟩ = some (.int .u64 (sv : Nat)) := by
            have hp := HP3.out W6 HB56.out
            have hlt6 := World.block_lt_of_cell? W6 _ hp
            exact (World.cell?_of_block (H8.out.M.block _ hlt6 HAD.out)).trans hp
          have HX8 := Lib.hid x8
          have HQ8 := Lib.hid q8
          have z1 : w8.drew.cell? ⟨bx, 1, none⟩ = some (.int .u64 (v : Nat)) := (blk_cell x8 1).trans rfl
          have y0 : w8.drew.cell? ⟨bq, 0, none⟩ = some (.bool sw.set) := (blk_cell q8 0).trans rfl
          have y1 : w8.drew.cell? ⟨bq, 1, none⟩ = some (.int .i64 (sw.lead : Nat)) := (blk_cell q8 1).trans rfl
          have y2 : w8.drew.cell? ⟨bq, 2, none⟩ = some (.int .i64 (sw.trail : Nat)) := (blk_cell q8 2).trans rfl
          have p9 : w8.drew.cell? ⟨(ad.add (j * 2)).block, (ad.add (j * 2)).off + 1, none⟩ = some (.int .u64 (sv : Nat)) := p8
          have HRD : Hid (Kd.bool.R 4 w8.drew w.heap.size (fun k => (w.heap.size ≤ k ∧ k ≠ bq) ∧ k < wr.heap.size ∨ W6.heap.size ≤ k) (.slice A8 n8 c8) b8) := Lib.hid (Kd.R_drew H8.out.R)
          have HTN := Lib.hid (turn08 w8.drew w.heap.size _ (.slice A8 n8 c8) b8 xv sw hxl HO.out.w HRD.out (Nat.le_trans (Nat.le_trans HS.out.B.size (Nat.le_of_lt HS6.out.1)) H8.out.M.size) (by have := HL8.out; omega))
          clear x8 q8 p8 hn8
          generalize hTB : turnB xv sw = TB at HTN
          obtain ⟨tb, tw⟩ := TB
          have HTB := Lib.hid hTB
          simp only at HTN
          clear hTB
          go_upto_region 13 with fail
          refine start_ (n := 17) (S := fun w' => w'.cell? ⟨bx, 1, none⟩ = some (.int .u64 (v : Nat)) ∧ w'.cell? ⟨(ad.add (j * 2)).block, (ad.add (j * 2)).off + 1, none⟩ = some (.int .u64 (sv : Nat)) ∧ w'.cell? ⟨bq, 0, none⟩ = some (.bool sw.set) ∧ w'.cell? ⟨bq, 1, none⟩ = some (.int .i64 (sw.lead : Nat)) ∧ w'.cell? ⟨bq, 2, none⟩ = some (.int .i64 (sw.trail : Nat))) (ds := [11, 16]) #[false, false, false, false, false, false, false, false, false, false, false, false, false, false, false, false, false] (by kernel_rfl) rfl rfl ⟨z1, p9, y0, y1, y2⟩ (fun hHeld => ?_)
          refine pure_ (i := 0) (N := some 54) (v := ?_) (a' := ?_) #[true, false, false, false, false, false, false, false, false, false, false, false, false, false, false, false, false] rfl rfl (by kernel_rfl) (fun _ _ _ h => h) (Or.inl ⟨by rfl, ?_⟩) ?_ ?_
          rotate_left
          · intro w'
            go_simp
            with_reducible rfl
          rotate_left
          · simp only [Act.put, List.setIfInBounds_toArray, List.set_cons_zero, List.set_cons_succ, i64_w, i32_w]
            rfl
          refine pure_ (i := 1) (N := some 55) (v := ?_) (a' := ?_) #[true, true, false, false, false, false, false, false, false, false, false, false, false, false, false, false, false] rfl rfl (by kernel_rfl) (fun _ _ _ h => h) (Or.inl ⟨by rfl, ?_⟩) ?_ ?_
          rotate_left
          · intro w'
            go_simp
            with_reducible rfl
          rotate_left
          · simp only [Act.put, List.setIfInBounds_toArray, List.set_cons_zero, List.set_cons_succ, i64_w, i32_w]
            rfl
          refine pure_ (i := 3) (N := some 57) (v := ?_) (a' := ?_) #[true, true, false, true, false, false, false, false, false, false, false, false, false, false, false, false, false] rfl rfl (by kernel_rfl) (fun _ _ _ h => h) (Or.inl ⟨by rfl, ?_⟩) ?_ ?_
          rotate_left
          · intro w'
            go_simp
            with_reducible rfl
          rotate_left
          · simp only [Act.put, List.setIfInBounds_toArray, List.set_cons_zero, List.set_cons_succ, i64_w, i32_w]
            rfl
          refine pure_ (i := 4) (N := some 58) (v := ?_) (a' := ?_) #[true, true, false, true, true, false, false, false, false, false, false, false, false, false, false, false, false] rfl rfl (by kernel_rfl) (fun _ _ _ h => h) (Or.inl ⟨by rfl, ?_⟩) ?_ ?_
          rotate_left
          · intro w'
            go_simp
            with_reducible rfl
          rotate_left
          · simp only [Act.put, List.setIfInBounds_toArray, List.set_cons_zero, List.set_cons_succ, i64_w, i32_w]
            rfl
          refine pure_ (i := 5) (N := some 59) (v := ?_) (a' := ?_) #[true, true, false, true, true, true, false, false, false, false, false, false, false, false, false, false, false] rfl rfl (by kernel_rfl) (fun _ _ _ h => h) (Or.inl ⟨by rfl, ?_⟩) ?_ ?_
          rotate_left
          · intro w'
            go_simp
            with_reducible rfl
          rotate_left
          · simp only [Act.put, List.setIfInBounds_toArray, List.set_cons_zero, List.set_cons_succ, i64_w, i32_w]
            rfl
          refine pure_ (i := 6) (N := some 60) (v := ?_) (a' := ?_) #[true, true, false, true, true, true, true, false, false, false, false, false, false, false, false, false, false] rfl rfl (by kernel_rfl) (fun _ _ _ h => h) (Or.inl ⟨by rfl, ?_⟩) ?_ ?_
          rotate_left
          · intro w'
            go_simp
            with_reducible rfl
          rotate_left
          · simp only [Act.put, List.setIfInBounds_toArray, List.set_cons_zero, List.set_cons_succ, i64_w, i32_w]
            rfl
          refine pure_ (i := 7) (N := some 61) (v := ?_) (a' := ?_) #[true, true, false, true, true, true, true, true, false, false, false, false, false, false, false, false, false] rfl rfl (by kernel_rfl) (fun _ _ _ h => h) (Or.inl ⟨by rfl, ?_⟩) ?_ ?_
          rotate_left
          · intro w'
            go_simp
            with_reducible rfl
          rotate_left
          · simp only [Act.put, List.setIfInBounds_toArray, List.set_cons_zero, List.set_cons_succ, i64_w, i32_w]
            rfl
          refine take_ (i := 2) (N := some 56) (v := ?_) (a' := ?_) #[true, true, true, true, true, true, true, true, false, false, false, false, false, false, false, false, false] rfl rfl (by kernel_rfl) (fun _ _ _ h => h) (Or.inl ⟨by rfl, ?_⟩) hHeld ?_ ?_
          rotate_left
          · rintro w' ⟨s0, s1, s2, s3, s4⟩
            go_simp
            with_reducible rfl
          rotate_left
          · simp only [Act.put, List.setIfInBounds_toArray, List.set_cons_zero, List.set_cons_succ, i64_w, i32_w]
            rfl
          refine take_ (i := 8) (N := some 62) (v := ?_) (a' := ?_) #[true, true, true, true, true, true, true, true, true, false, false, false, false, false, false, false, false] rfl rfl (by kernel_rfl) (fun _ _ _ h => h) (Or.inl ⟨by rfl, ?_⟩) hHeld ?_ ?_
          rotate_left
          · rintro w' ⟨s0, s1, s2, s3, s4⟩
            go_simp
            with_reducible rfl
          rotate_left
          · simp only [Act.put, List.setIfInBounds_toArray, List.set_cons_zero, List.set_cons_succ, i64_w, i32_w]
            rfl
          refine pure_ (i := 9) (N := some 63) (v := ?_) (a' := ?_) #[true, true, true, true, true, true, true, true, true, true, false, false, false, false, false, false, false] rfl rfl (by kernel_rfl) (fun _ _ _ h => h) (Or.inl ⟨by rfl, ?_⟩) ?_ ?_
          rotate_left
          · intro w'
            go_simp
            with_reducible rfl
          rotate_left
          · simp only [Act.put, List.setIfInBounds_toArray, List.set_cons_zero, List.set_cons_succ, i64_w, i32_w]
            rfl
          refine take_ (i := 10) (N := some 64) (v := ?_) (a' := ?_) #[true, true, true, true, true, true, true, true, true, true, true, false, false, false, false, false, false] rfl rfl (by kernel_rfl) (fun _ _ _ h => h) (Or.inl ⟨by rfl, ?_⟩) hHeld ?_ ?_
          rotate_left
          · rintro w' ⟨s0, s1, s2, s3, s4⟩
            go_simp
            with_reducible rfl
          rotate_left
          · simp only [Act.put, List.setIfInBounds_toArray, List.set_cons_zero, List.set_cons_succ, i64_w, i32_w]
            rfl
          refine last_ (i := 11) (N := some 65) #[true, true, true, true, true, true, true, true, true, true, true, true, false, false, false, false, false] rfl rfl (by kernel_rfl) (by decide) (fun K hK => ?_)
          refine goes_ Tryd.func51 (by kernel_rfl) rfl #[.slice A8 n8 c8, .int .u64 xv, winV sw] (by rfl) rfl rfl (by simp only [List.map_toArray, List.map_cons, List.map_nil]; rfl) ?_
          with_reducible refine (HTN.out).mono ?_
          rintro e w9 ⟨v9, rfl, h9⟩
          refine ⟨_, rfl, ?_⟩
          obtain ⟨b9, hb9⟩ : ∃ b9, b9 = b8 ++ tb := ⟨_, rfl⟩
          rw [← hb9] at h9
          have HB9 := Lib.hid hb9
          have q9 := (h9.M.block bq (blk_lt HQ8.out) (by have := HS6.out.2.2; rintro (h | h); (exact h.1.2 rfl); omega)).trans HQ8.out
          have H9 := Lib.hid h9
          have HQ9 := Lib.hid q9
          have u0 : w9.cell? ⟨bq, 0, none⟩ = some (.bool sw.set) := (blk_cell q9 0).trans rfl
          have u1 : w9.cell? ⟨bq, 1, none⟩ = some (.int .i64 (sw.lead : Nat)) := (blk_cell q9 1).trans rfl
          have u2 : w9.cell? ⟨bq, 2, none⟩ = some (.int .i64 (sw.trail : Nat)) := (blk_cell q9 2).trans rfl
          have f0 := blk_frozen q9 0
          have f1 := blk_frozen q9 1
          have f2 := blk_frozen q9 2
          clear h9 hb9 q9
          refine hK.out _ _ ?_
          clear hK K
          refine norm_ (a' := ?_) ?_ ?_
          rotate_left
          · show Act.put _ (some 65) _ = _
            simp only [Act.put, List.setIfInBounds_toArray, List.set_cons_zero, List.set_cons_succ, i64_w, i32_w]
            rfl
          refine pure_ (i := 12) (N := some 53) (v := ?_) (a' := ?_) #[true, true, true, true, true, true, true, true, true, true, true, true, true, false, false, false, false] rfl rfl (by kernel_rfl) (fun _ _ _ h => h) (Or.inl ⟨by rfl, ?_⟩) ?_ ?_
          rotate_left
          · intro w'
            go_simp
            with_reducible rfl
          rotate_left
          · simp only [Act.put, List.setIfInBounds_toArray, List.set_cons_zero, List.set_cons_succ, i64_w, i32_w]
            rfl
          refine pure_ (i := 13) (N := some 66) (v := ?_) (a' := ?_) #[true, true, true, true, true, true, true, true, true, true, true, true, true, true, false, false, false] rfl rfl (by kernel_rfl) (fun _ _ _ h => h) (Or.inl ⟨by rfl, ?_⟩) ?_ ?_
          rotate_left
          · intro w'
            go_simp
            with_reducible rfl
          rotate_left
          · simp only [Act.put, List.setIfInBounds_toArray, List.set_cons_zero, List.set_cons_succ, i64_w, i32_w]
            rfl
          refine pure_ (i := 14) (N := some 67) (v := ?_) (a' := ?_) #[true, true, true, true, true, true, true, true, true, true, true, true, true, true, true, false, false] rfl rfl (by kernel_rfl) (fun _ _ _ h => h) (Or.inl ⟨by rfl, ?_⟩) ?_ ?_
          rotate_left
          · intro w'
            go_simp
            with_reducible rfl
          rotate_left
          · simp only [Act.put, List.setIfInBounds_toArray, List.set_cons_zero, List.set_cons_succ, i64_w, i32_w]
            rfl
          refine pure_ (i := 15) (N := some 3) (v := ?_) (a' := ?_) #[true, true, true, true, true, true, true, true, true, true, true, true, true, true, true, true, false] rfl rfl (by kernel_rfl) (fun _ _ _ h => h) (Or.inl ⟨by rfl, ?_⟩) ?_ ?_
          rotate_left
          · intro w'
            go_simp
            with_reducible rfl
          rotate_left
          · simp only [Act.put, List.setIfInBounds_toArray, List.set_cons_zero, List.set_cons_succ, i64_w, i32_w]
            rfl
          refine last_ (i := 16) (N := none) #[true, true, true, true, true, true, true, true, true, true, true, true, true, true, true, true, true] rfl rfl (by kernel_rfl) (by decide) (fun K hK => ?_)
          refine skip_ (w1 := ?_) (by rfl) rfl ?_ ?_
          rotate_left
          · go_simp
            rfl
          refine hK.out _ _ ?_
          clear hK K
          refine done_ (by kernel_rfl) ?_
          go_wp2
          have hrb : RB W6 w9 w.heap.size (fun k => (w.heap.size ≤ k ∧ k ≠ bq) ∧ k < wr.heap.size) v9 b9 := RB.trans (w2 := w8.drew) (H8.out.drewN 1) H9.out
          have h10 := HS.out.done HB56.out hrb
          have h11 := h10.win tw ⟨1 + 1, t, v, stp, tw⟩ rfl
          go_roundg (gk - 1)
          case measure => omega
          case rel =>
            have hal := add_len HO.out t v HXM.out.1 HXM.out.2
            have hok := addB_ok HO.out t v HXM.out.1 HXM.out.2
            have hsp := HSP.out
            have hadd : addB ⟨sn, st, sv, sstep, sw⟩ t v = (bytesB (ints (uv stp)) ++ tb, ⟨2, t, v, stp, tw⟩) := by
              unfold addB
              rw [if_neg (show ¬ sn = 0 by have := HN11.out; omega), if_pos HN11.out]
              simp only
              rw [← HXV.out, ← HSTP.out, HTB.out]
            simp only [hadd] at hal hok hsp
            refine ⟨i + 1, bs ++ (bytesB (ints (uv stp)) ++ tb), ⟨2, t, v, stp, tw⟩, by omega, by go_num, by rw [HN3.out], by rw [List.length_append]; omega, by show 2 = i + 1; have := HI1.out; omega, (fun h => absurd h (by show ¬ (2 : Nat) = 0; decide)), (fun _ => HXI.out.symm), ?_, hok, ?_⟩
            · rw [HB9.out, HB8.out, HYS.out, List.append_assoc] at h11
              exact ⟨h11.R, h11.B, h11.Q, h11.lq⟩
            · show _ = packB L
              rw [List.append_assoc, ← hsp]
              exact HA.out
        · obtain ⟨dd, hdd⟩ : ∃ dd, dd = wrap64 ((stp : Int) - sstep) := ⟨_, rfl⟩
          have hdw : -9223372036854775808 ≤ dd ∧ dd ≤ 9223372036854775807 := by rw [hdd]; exact wrap64_bd _
          have hd1 : IntKind.i64.wrap (now - wrap64 (sstep : Nat)) = dd := by rw [HN3.out, hdd]; exact now_change stp sstep
          have hd1b : wrap64 (now - wrap64 (sstep : Nat)) = dd := by rw [← hd1]; exact (now_wrap _ _).symm
          have HDD := Lib.hid hdd
          have HD1 := Lib.hid (And.intro hd1 hd1b)
          clear hdd hd1 hd1b
          have hi1b : ((i : Int) == 1) = false := beq_false_of_ne (by omega)
          have hml : bs.length ≤ 80000000 := by omega
          obtain ⟨hn1, hn1b⟩ := HNA.out
          go_upto_region 8 with fail
          go_quiet (fail)
          clear hn1 hn1b
          obtain ⟨W6, hW6⟩ : ∃ W6, W6 = W5.drewN nq := ⟨_, rfl⟩
          rw [← hW6]
          have HB56 : Hid (Below wr.heap.size wr W6) := Lib.hid (by rw [hW6]; exact pw_below_drewN HB5.out _)
          have HR6 : Hid (Kd.bool.R 4 W6 w.heap.size (fun k => (w.heap.size ≤ k ∧ k ≠ bq) ∧ k < wr.heap.size) (.slice A3 m3 c3) bs) := Lib.hid (by rw [hW6]; exact Kd.R_drewN HR5.out _)
          have HX6 : Hid (W6.heap[bx]? = some (.cells #[.int .i64 t, .int .u64 (v : Nat)] 39 (0, 0))) := Lib.hid (by rw [hW6]; exact HX5.out)
          have HQ6 : Hid (W6.heap[bq]? = some (.cells (winC sw) 76 (0, 0))) := Lib.hid (by rw [hW6]; exact HQ5.out)
          have HS6 : Hid (wr.heap.size < W6.heap.size ∧ bx < W6.heap.size ∧ bq < W6.heap.size) := Lib.hid (by have h1 := blk_lt HX6.out; have h2 := blk_lt HQ6.out; have h3 := blk_lt (w := wr) HS.out.Q; exact ⟨by have := HBX.out.1; omega, h1, h2⟩)
          clear hW6 z0 a0
          obtain ⟨hd1, hd1b⟩ := HD1.out
          go_wp2_with fail
          clear hd1 hd1b
          go_loud (refine (change08 W6 w.heap.size _ (.slice A3 m3 c3) bs dd hdw HR6.out (Nat.le_trans HS.out.B.size (Nat.le_of_lt HS6.out.1)) (by omega)).mono ?_)
          rintro e w8 ⟨v8, rfl, h8⟩
          obtain ⟨b8, hb8⟩ : ∃ b8, b8 = bs ++ changeB dd := ⟨_, rfl⟩
          rw [← hb8] at h8
          have HB8 := Lib.hid hb8
          have H8 := Lib.hid h8
          have HL8 : Hid (b8.length ≤ 80000000) := Lib.hid (by rw [hb8, List.length_append]; have := change_len dd; omega)
          clear h8 hb8
          go_upto_region 12 with fail
          obtain ⟨A8, c8, hv8⟩ := Kd.R_slice H8.out.R
          obtain ⟨n8, hn8⟩ : ∃ n8, n8 = b8.length := ⟨_, rfl⟩
          rw [← hn8] at hv8
          subst hv8
          have x8 := (H8.out.M.block bx HS6.out.2.1 HN1.out).trans HX6.out
          have q8 := (H8.out.M.block bq HS6.out.2.2 (fun h => h.1.2 rfl)).trans HQ6.out
          have p8 : w8.cell? ⟨(ad.add (j * 2)).block, (ad.add (j * 2)).off + 1, none⟩ = some (.int .u64 (sv : Nat)) := by
            have hp := HP3.out W6 HB56.out
            have hlt6 := World.block_lt_of_cell? W6 _ hp
            exact (World.cell?_of_block (H8.out.M.block _ hlt6 HAD.out)).trans hp
          have HX8 := Lib.hid x8
          have HQ8 := Lib.hid q8
          have z1 : w8.drew.cell? ⟨bx, 1, none⟩ = some (.int .u64 (v : Nat)) := (blk_cell x8 1).trans rfl
          have y0 : w8.drew.cell? ⟨bq, 0, none⟩ = some (.bool sw.set) := (blk_cell q8 0).trans rfl
          have y1 : w8.drew.cell? ⟨bq, 1, none⟩ = some (.int .i64 (sw.lead : Nat)) := (blk_cell q8 1).trans rfl
          have y2 : w8.drew.cell? ⟨bq, 2, none⟩ = some (.int .i64 (sw.trail : Nat)) := (blk_cell q8 2).trans rfl
          have p9 : w8.drew.cell? ⟨(ad.add (j * 2)).block, (ad.add (j * 2)).off + 1, none⟩ = some (.int .u64 (sv : Nat)) := p8
          have HRD : Hid (Kd.bool.R 4 w8.drew w.heap.size (fun k => (w.heap.size ≤ k ∧ k ≠ bq) ∧ k < wr.heap.size ∨ W6.heap.size ≤ k) (.slice A8 n8 c8) b8) := Lib.hid (Kd.R_drew H8.out.R)
          have HTN := Lib.hid (turn08 w8.drew w.heap.size _ (.slice A8 n8 c8) b8 xv sw hxl HO.out.w HRD.out (Nat.le_trans (Nat.le_trans HS.out.B.size (Nat.le_of_lt HS6.out.1)) H8.out.M.size) (by have := HL8.out; omega))
          clear x8 q8 p8 hn8
          generalize hTB : turnB xv sw = TB at HTN
          obtain ⟨tb, tw⟩ := TB
          have HTB := Lib.hid hTB
          simp only at HTN
          clear hTB
          go_upto_region 13 with fail
          refine start_ (n := 17) (S := fun w' => w'.cell? ⟨bx, 1, none⟩ = some (.int .u64 (v : Nat)) ∧ w'.cell? ⟨(ad.add (j * 2)).block, (ad.add (j * 2)).off + 1, none⟩ = some (.int .u64 (sv : Nat)) ∧ w'.cell? ⟨bq, 0, none⟩ = some (.bool sw.set) ∧ w'.cell? ⟨bq, 1, none⟩ = some (.int .i64 (sw.lead : Nat)) ∧ w'.cell? ⟨bq, 2, none⟩ = some (.int .i64 (sw.trail : Nat))) (ds := [11, 16]) #[false, false, false, false, false, false, false, false, false, false, false, false, false, false, false, false, false] (by kernel_rfl) rfl rfl ⟨z1, p9, y0, y1, y2⟩ (fun hHeld => ?_)
          refine pure_ (i := 0) (N := some 54) (v := ?_) (a' := ?_) #[true, false, false, false, false, false, false, false, false, false, false, false, false, false, false, false, false] rfl rfl (by kernel_rfl) (fun _ _ _ h => h) (Or.inl ⟨by rfl, ?_⟩) ?_ ?_
          rotate_left
          · intro w'
            go_simp
            with_reducible rfl
          rotate_left
          · simp only [Act.put, List.setIfInBounds_toArray, List.set_cons_zero, List.set_cons_succ, i64_w, i32_w]
            rfl
          refine pure_ (i := 1) (N := some 55) (v := ?_) (a' := ?_) #[true, true, false, false, false, false, false, false, false, false, false, false, false, false, false, false, false] rfl rfl (by kernel_rfl) (fun _ _ _ h => h) (Or.inl ⟨by rfl, ?_⟩) ?_ ?_
          rotate_left
          · intro w'
            go_simp
            with_reducible rfl
          rotate_left
          · simp only [Act.put, List.setIfInBounds_toArray, List.set_cons_zero, List.set_cons_succ, i64_w, i32_w]
            rfl
          refine pure_ (i := 3) (N := some 57) (v := ?_) (a' := ?_) #[true, true, false, true, false, false, false, false, false, false, false, false, false, false, false, false, false] rfl rfl (by kernel_rfl) (fun _ _ _ h => h) (Or.inl ⟨by rfl, ?_⟩) ?_ ?_
          rotate_left
          · intro w'
            go_simp
            with_reducible rfl
          rotate_left
          · simp only [Act.put, List.setIfInBounds_toArray, List.set_cons_zero, List.set_cons_succ, i64_w, i32_w]
            rfl
          refine pure_ (i := 4) (N := some 58) (v := ?_) (a' := ?_) #[true, true, false, true, true, false, false, false, false, false, false, false, false, false, false, false, false] rfl rfl (by kernel_rfl) (fun _ _ _ h => h) (Or.inl ⟨by rfl, ?_⟩) ?_ ?_
          rotate_left
          · intro w'
            go_simp
            with_reducible rfl
          rotate_left
          · simp only [Act.put, List.setIfInBounds_toArray, List.set_cons_zero, List.set_cons_succ, i64_w, i32_w]
            rfl
          refine pure_ (i := 5) (N := some 59) (v := ?_) (a' := ?_) #[true, true, false, true, true, true, false, false, false, false, false, false, false, false, false, false, false] rfl rfl (by kernel_rfl) (fun _ _ _ h => h) (Or.inl ⟨by rfl, ?_⟩) ?_ ?_
          rotate_left
          · intro w'
            go_simp
            with_reducible rfl
          rotate_left
          · simp only [Act.put, List.setIfInBounds_toArray, List.set_cons_zero, List.set_cons_succ, i64_w, i32_w]
            rfl
          refine pure_ (i := 6) (N := some 60) (v := ?_) (a' := ?_) #[true, true, false, true, true, true, true, false, false, false, false, false, false, false, false, false, false] rfl rfl (by kernel_rfl) (fun _ _ _ h => h) (Or.inl ⟨by rfl, ?_⟩) ?_ ?_
          rotate_left
          · intro w'
            go_simp
            with_reducible rfl
          rotate_left
          · simp only [Act.put, List.setIfInBounds_toArray, List.set_cons_zero, List.set_cons_succ, i64_w, i32_w]
            rfl
          refine pure_ (i := 7) (N := some 61) (v := ?_) (a' := ?_) #[true, true, false, true, true, true, true, true, false, false, false, false, false, false, false, false, false] rfl rfl (by kernel_rfl) (fun _ _ _ h => h) (Or.inl ⟨by rfl, ?_⟩) ?_ ?_
          rotate_left
          · intro w'
            go_simp
            with_reducible rfl
          rotate_left
          · simp only [Act.put, List.setIfInBounds_toArray, List.set_cons_zero, List.set_cons_succ, i64_w, i32_w]
            rfl
          refine take_ (i := 2) (N := some 56) (v := ?_) (a' := ?_) #[true, true, true, true, true, true, true, true, false, false, false, false, false, false, false, false, false] rfl rfl (by kernel_rfl) (fun _ _ _ h => h) (Or.inl ⟨by rfl, ?_⟩) hHeld ?_ ?_
          rotate_left
          · rintro w' ⟨s0, s1, s2, s3, s4⟩
            go_simp
            with_reducible rfl
          rotate_left
          · simp only [Act.put, List.setIfInBounds_toArray, List.set_cons_zero, List.set_cons_succ, i64_w, i32_w]
            rfl
          refine take_ (i := 8) (N := some 62) (v := ?_) (a' := ?_) #[true, true, true, true, true, true, true, true, true, false, false, false, false, false, false, false, false] rfl rfl (by kernel_rfl) (fun _ _ _ h => h) (Or.inl ⟨by rfl, ?_⟩) hHeld ?_ ?_
          rotate_left
          · rintro w' ⟨s0, s1, s2, s3, s4⟩
            go_simp
            with_reducible rfl
          rotate_left
          · simp only [Act.put, List.setIfInBounds_toArray, List.set_cons_zero, List.set_cons_succ, i64_w, i32_w]
            rfl
          refine pure_ (i := 9) (N := some 63) (v := ?_) (a' := ?_) #[true, true, true, true, true, true, true, true, true, true, false, false, false, false, false, false, false] rfl rfl (by kernel_rfl) (fun _ _ _ h => h) (Or.inl ⟨by rfl, ?_⟩) ?_ ?_
          rotate_left
          · intro w'
            go_simp
            with_reducible rfl
          rotate_left
          · simp only [Act.put, List.setIfInBounds_toArray, List.set_cons_zero, List.set_cons_succ, i64_w, i32_w]
            rfl
          refine take_ (i := 10) (N := some 64) (v := ?_) (a' := ?_) #[true, true, true, true, true, true, true, true, true, true, true, false, false, false, false, false, false] rfl rfl (by kernel_rfl) (fun _ _ _ h => h) (Or.inl ⟨by rfl, ?_⟩) hHeld ?_ ?_
          rotate_left
          · rintro w' ⟨s0, s1, s2, s3, s4⟩
            go_simp
            with_reducible rfl
          rotate_left
          · simp only [Act.put, List.setIfInBounds_toArray, List.set_cons_zero, List.set_cons_succ, i64_w, i32_w]
            rfl
          refine last_ (i := 11) (N := some 65) #[true, true, true, true, true, true, true, true, true, true, true, true, false, false, false, false, false] rfl rfl (by kernel_rfl) (by decide) (fun K hK => ?_)
          refine goes_ Tryd.func51 (by kernel_rfl) rfl #[.slice A8 n8 c8, .int .u64 xv, winV sw] (by rfl) rfl rfl (by simp only [List.map_toArray, List.map_cons, List.map_nil]; rfl) ?_
          with_reducible refine (HTN.out).mono ?_
          rintro e w9 ⟨v9, rfl, h9⟩
          refine ⟨_, rfl, ?_⟩
          obtain ⟨b9, hb9⟩ : ∃ b9, b9 = b8 ++ tb := ⟨_, rfl⟩
          rw [← hb9] at h9
          have HB9 := Lib.hid hb9
          have q9 := (h9.M.block bq (blk_lt HQ8.out) (by have := HS6.out.2.2; rintro (h | h); (exact h.1.2 rfl); omega)).trans HQ8.out
          have H9 := Lib.hid h9
          have HQ9 := Lib.hid q9
          have u0 : w9.cell? ⟨bq, 0, none⟩ = some (.bool sw.set) := (blk_cell q9 0).trans rfl
          have u1 : w9.cell? ⟨bq, 1, none⟩ = some (.int .i64 (sw.lead : Nat)) := (blk_cell q9 1).trans rfl
          have u2 : w9.cell? ⟨bq, 2, none⟩ = some (.int .i64 (sw.trail : Nat)) := (blk_cell q9 2).trans rfl
          have f0 := blk_frozen q9 0
          have f1 := blk_frozen q9 1
          have f2 := blk_frozen q9 2
          clear h9 hb9 q9
          refine hK.out _ _ ?_
          clear hK K
          refine norm_ (a' := ?_) ?_ ?_
          rotate_left
          · show Act.put _ (some 65) _ = _
            simp only [Act.put, List.setIfInBounds_toArray, List.set_cons_zero, List.set_cons_succ, i64_w, i32_w]
            rfl
          refine pure_ (i := 12) (N := some 53) (v := ?_) (a' := ?_) #[true, true, true, true, true, true, true, true, true, true, true, true, true, false, false, false, false] rfl rfl (by kernel_rfl) (fun _ _ _ h => h) (Or.inl ⟨by rfl, ?_⟩) ?_ ?_
          rotate_left
          · intro w'
            go_simp
            with_reducible rfl
          rotate_left
          · simp only [Act.put, List.setIfInBounds_toArray, List.set_cons_zero, List.set_cons_succ, i64_w, i32_w]
            rfl
          refine pure_ (i := 13) (N := some 66) (v := ?_) (a' := ?_) #[true, true, true, true, true, true, true, true, true, true, true, true, true, true, false, false, false] rfl rfl (by kernel_rfl) (fun _ _ _ h => h) (Or.inl ⟨by rfl, ?_⟩) ?_ ?_
          rotate_left
          · intro w'
            go_simp
            with_reducible rfl
          rotate_left
          · simp only [Act.put, List.setIfInBounds_toArray, List.set_cons_zero, List.set_cons_succ, i64_w, i32_w]
            rfl
          refine pure_ (i := 14) (N := some 67) (v := ?_) (a' := ?_) #[true, true, true, true, true, true, true, true, true, true, true, true, true, true, true, false, false] rfl rfl (by kernel_rfl) (fun _ _ _ h => h) (Or.inl ⟨by rfl, ?_⟩) ?_ ?_
          rotate_left
          · intro w'
            go_simp
            with_reducible rfl
          rotate_left
          · simp only [Act.put, List.setIfInBounds_toArray, List.set_cons_zero, List.set_cons_succ, i64_w, i32_w]
            rfl
          refine pure_ (i := 15) (N := some 3) (v := ?_) (a' := ?_) #[true, true, true, true, true, true, true, true, true, true, true, true, true, true, true, true, false] rfl rfl (by kernel_rfl) (fun _ _ _ h => h) (Or.inl ⟨by rfl, ?_⟩) ?_ ?_
          rotate_left
          · intro w'
            go_simp
            with_reducible rfl
          rotate_left
          · simp only [Act.put, List.setIfInBounds_toArray, List.set_cons_zero, List.set_cons_succ, i64_w, i32_w]
            rfl
          refine last_ (i := 16) (N := none) #[true, true, true, true, true, true, true, true, true, true, true, true, true, true, true, true, true] rfl rfl (by kernel_rfl) (by decide) (fun K hK => ?_)
          refine skip_ (w1 := ?_) (by rfl) rfl ?_ ?_
          rotate_left
          · go_simp
            rfl
          refine hK.out _ _ ?_
          clear hK K
          refine done_ (by kernel_rfl) ?_
          go_wp2
          have hrb : RB W6 w9 w.heap.size (fun k => (w.heap.size ≤ k ∧ k ≠ bq) ∧ k < wr.heap.size) v9 b9 := RB.trans (w2 := w8.drew) (H8.out.drewN 1) H9.out
          have h10 := HS.out.done HB56.out hrb
          have h11 := h10.win tw ⟨sn + 1, t, v, stp, tw⟩ rfl
          go_roundg (gk - 1)
          case measure => omega
          case rel =>
            have hal := add_len HO.out t v HXM.out.1 HXM.out.2
            have hok := addB_ok HO.out t v HXM.out.1 HXM.out.2
            have hsp := HSP.out
            have hadd : addB ⟨sn, st, sv, sstep, sw⟩ t v = (changeB dd ++ tb, ⟨sn + 1, t, v, stp, tw⟩) := by
              unfold addB
              rw [if_neg (show ¬ sn = 0 by have := HSN.out; omega), if_neg (show ¬ sn = 1 by have := HSN.out; omega)]
              simp only
              rw [← HXV.out, ← HSTP.out, HTB.out, ← HDD.out]
            simp only [hadd] at hal hok hsp
            refine ⟨i + 1, bs ++ (changeB dd ++ tb), ⟨sn + 1, t, v, stp, tw⟩, by omega, by go_num, by rw [HN3.out], by rw [List.length_append]; omega, by show sn + 1 = i + 1; have := HSN.out; omega, (fun h => absurd h (by show ¬ sn + 1 = 0; omega)), (fun _ => HXI.out.symm), ?_, hok, ?_⟩
            · rw [HB9.out, HB8.out, List.append_assoc] at h11
              exact ⟨h11.R, h11.B, h11.Q, h11.lq⟩
            · show _ = packB L
              rw [List.append_assoc, ← hsp]
              exact HA.out
    · have hbs : bs = packB L := by
        have := HA.out
        rwa [List.drop_of_length_le (by omega), show allB s [] = [] from rfl, List.append_nil] at this
      have HBS := Lib.hid hbs
      have HM3 := Lib.hid hm3
      clear hbs hm3 hsn
      go_wp2
      go_ret
      rw [← HBS.out]
      exact ⟨_, rfl, Kd.R_mono HS.out.R (fun _ _ => trivial), HS.out.B⟩
set_option maxHeartbeats 1000000 in
theorem rput08 (w : World) (A : Option Addr) (c : Nat) (L : List (Int × Nat)) (hC : SmpRow w A L) (hL : ∀ x ∈ L, SmpOk x) (hlen : L.length ≤ 50000) :
    Calls Tryd.prog 13 #[.slice A L.length c] w fun e w' => ∃ v, e = .returned (.tuple #[v, .int .i64 0]) ∧ (Kd.int .u8).R 5 w' w.heap.size (fun _ => True) v (packL L) ∧ Below w.heap.size w w' := by
  have hl : ¬ (L.length : Int) > 65535 := by omega
  have hpl : (packB L).length ≤ 100000000 := by
    have h1 := all_len L st0 st0_ok hL
    unfold packB
    rw [List.length_append, nb_length]
    omega
  obtain ⟨P, hP⟩ : ∃ P, P = packB L := ⟨_, rfl⟩
  have HB := Lib.hid (bits08 w A c L hC hL hlen)
  have HP := Lib.hid hP
  rw [← hP] at HB hpl
  have HPL := Lib.hid hpl
  clear hP hpl hC hL
  go_enter Tryd.func13, Tryd.ntmps13
  go_wp2_with (first
    | (go_at_call 30; go_loud (refine HB.out.mono ?_); rintro e w1 ⟨v1, rfl, hR1, hB1⟩; obtain ⟨A1, c1, hv1⟩ := Kd.R_slice hR1; obtain ⟨n1, hn1⟩ : ∃ n1, n1 = P.length := ⟨_, rfl⟩; have HBY := Lib.hid (rbytes_calls w1 A1 c1 P (Kd.R_reads' (hv1 ▸ hR1)).2.2 HPL.out); rw [← hn1] at hv1 HBY; subst hv1; have HB1 := Lib.hid hB1; clear hB1 hR1 hn1)
    | (go_at_call 29; go_loud (refine HBY.out.mono ?_); rintro e w2 ⟨v2, rfl, hR2, hB2⟩; have HR2 := Lib.hid hR2; have HB2 := Lib.hid hB2; clear hR2 hB2))
  go_ret2
  have h2 := HR2.out
  rw [HP.out] at h2
  have hs := HB1.out.size
  exact ⟨_, rfl, Kd.R_lower (Kd.R_mono h2 (fun _ _ => trivial)) hs, HB1.out.trans (below_lower HB2.out hs)⟩
end Go.Proofs.YtmllgglcdlcdhaaDoor
