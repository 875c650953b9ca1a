import Derived.Test.YtmllgglcdlcdhaaDoorCXorAddsY6
namespace Go.Proofs.YtmllgglcdlcdhaaDoor.Bq
end Go.Proofs.YtmllgglcdlcdhaaDoor.Bq
namespace Go.Proofs.YtmllgglcdlcdhaaDoor
open Go Go.RowKit Go.Proofs.YtmllgglcdlcdhaaDoorW.PrintWords Go.Proofs.YtmllgglcdlcdhaaDoorW.PrintMore Go.Proofs.YtmllgglcdlcdhaaDoorW.PrintLast Bq Xs
set_option linter.unusedVariables false
set_option maxRecDepth 100000
set_option linter.unusedSimpArgs false
attribute [local go_sem ↓] Go.wp_at_zero Go.wp_at_succ
section
variable {w0 w w1 : World} {ok ok1 : Nat → Prop} {p g : Nat} {bs : List Bool} {s : St}
theorem Pk.raw {v : Value} {xs : List Int} (h : Pk w0 w ok p g bs s) (hB : Below w.heap.size w w1) (hR : (Kd.int .u8).R 5 w1 w.heap.size (fun _ => True) v xs) (hb : Byts xs) (hl : bs.length + 8 * xs.length ≤ 8388608) :
    Calls Tryd.prog 62 #[.pointer (some ⟨p, 0, none⟩), v] w1 fun e w' => e = .returned (.tuple #[]) ∧ Pk w0 w' ok p g (bs ++ bytesB xs) s ∧ Mod ok w w' := by
  have hp := blk_lt h.blk
  have hs1 := hB.size
  have hW1 : Wr w1 (fun k => ok k ∧ k < w.heap.size) g bs := h.wr.bound.kept (Mod.of_below hB (fun _ => False)) (fun _ _ _ => id)
  refine (raw_calls w1 (fun k => ok k ∧ k < w.heap.size) (fun k => w.heap.size ≤ k) p g w.heap.size bs s v xs ((hB.block p hp).trans h.blk) hW1 (fun hk => h.okp hk.1) (Kd.R_mono (Kd.R_bound hR) (fun k hk => hk.2.1)) (fun k hk h2 => absurd h2.2 (Nat.not_lt.2 hk)) hb hl).mono ?_
  rintro e w' ⟨rfl, h1, h2⟩
  have hm : Mod ok w w' := (Mod.of_below hB ok).trans (h2.weaken (S' := ok) (fun k _ hk => hk.1)) (fun _ _ h => h)
  exact ⟨rfl, ⟨hm.blk h.blk h.okp, h1.mono (fun k hk => hk.elim (fun h => h.1) (fun h3 => h.fr k (Nat.le_trans hs1 h3))), h.okp, fun k hk => h.fr k (Nat.le_trans hm.size hk), h.lo, h.lp, h.bel.trans (hm.below h.bel.size h.lo)⟩, hm⟩
theorem Pk.boxed (h : Pk w0 w ok p g bs s) (o : Obj) : Pk w0 (w.alloc o) (fun k => ok k ∧ k ≠ w.heap.size) p g bs s := by
  have hB := below_alloc (Below.refl w.heap.size w) o
  exact ⟨blk_alloc h.blk o, (h.wr.bound.kept (Mod.of_below hB (fun _ => False)) (fun _ _ _ => id)).mono (fun k hk => ⟨hk.1, Nat.ne_of_lt hk.2⟩), fun hk => h.okp hk.1, fun k hk => by
    rw [World.size_alloc] at hk
    exact ⟨h.fr k (by omega), by omega⟩, fun k hk => h.lo k hk.1, h.lp, h.bel.trans (below_lower hB h.bel.size)⟩
theorem Pk.back (h1 : Pk w0 w1 ok1 p g bs s) {bs0 : List Bool} {s0 : St} (h : Pk w0 w ok p g bs0 s0) (hk : ∀ k, ok1 k → ok k) (hs : w.heap.size ≤ w1.heap.size) : Pk w0 w1 ok p g bs s :=
  ⟨h1.blk, h1.wr.mono hk, h.okp, fun k hle => h.fr k (Nat.le_trans hs hle), h.lo, h1.lp, h1.bel⟩
end
theorem s_sub' (a : Int) : wrap64 (IntKind.u64.wrap a) = wrap64 a := by rw [wrap_u64']; unfold wrap64; omega
theorem wrap64_bd (n : Int) : -9223372036854775808 ≤ wrap64 n ∧ wrap64 n ≤ 9223372036854775807 := by unfold wrap64; omega
set_option maxHeartbeats 8000000 in
theorem add_calls (w0 w : World) (ok : Nat → Prop) (p g : Nat) (bs : List Bool) (s : St) (t : Int) (v : Nat) (ht : -9223372036854775808 ≤ t ∧ t ≤ 9223372036854775807) (hv : v < 18446744073709551616) (hs : OkS s) (hn : s.n < 1000000000) (hT : TabAt 0 Lib.deBruijn64tab w0) (h : Pk w0 w ok p g bs s) (hl : bs.length + 157 ≤ 8388608) :
    Calls Tryd.prog 46 #[.pointer (some ⟨p, 0, none⟩), .agg #[.int .i64 t, .int .u64 (v : Nat)]] w fun e w' => e = .returned (.tuple #[]) ∧ Pk w0 w' ok p g (bs ++ (addB s t v).1) (addB s t v).2 := by
  obtain ⟨sn, st, sv, sstep, sw⟩ := s
  have hsv : sv < 18446744073709551616 := hs.v
  have hst : -9223372036854775808 ≤ st ∧ st ≤ 9223372036854775807 := hs.t
  have hss : sstep < 18446744073709551616 := hs.step
  have hok : okW sw := hs.w
  simp only at hn
  obtain ⟨stp, hstp⟩ : ∃ stp : Nat, stp = u64 (t - st) := ⟨_, rfl⟩
  have hsl : stp < 18446744073709551616 := by rw [hstp]; exact u64_lt _
  have hse : IntKind.u64.wrap (IntKind.u64.wrap t - IntKind.u64.wrap st) = (stp : Int) := by rw [hstp]; exact u_sub t st
  obtain ⟨xv, hxv⟩ : ∃ xv : Nat, xv = v ^^^ sv := ⟨_, rfl⟩
  have hxl : xv < 18446744073709551616 := by rw [hxv]; exact Nat.xor_lt_two_pow (n := 64) hv hsv
  have hxe : bits .xor .u64 (v : Int) (sv : Int) = (xv : Int) := by rw [hxv]; exact xor_u v sv hv hsv
  have hn1 : IntKind.i64.wrap ((sn : Int) + 1) = ((sn + 1 : Nat) : Int) := by rw [IntWalk.i64_in _ (by omega)]; omega
  obtain ⟨bx, hbx⟩ : ∃ bx, bx = w.heap.size := ⟨_, rfl⟩
  obtain ⟨W1, hW1⟩ : ∃ W1, W1 = w.alloc (.cells #[.int .i64 t, .int .u64 (v : Nat)] 39) := ⟨_, rfl⟩
  have h1 := h.boxed (.cells #[.int .i64 t, .int .u64 (v : Nat)] 39)
  have hb1 : W1.heap[bx]? = some (.cells #[.int .i64 t, .int .u64 (v : Nat)] 39 (0, 0)) := by rw [hW1, hbx]; exact heap_alloc_new w _
  have hsz1 : w.heap.size ≤ W1.heap.size := by rw [hW1, World.size_alloc]; omega
  rw [← hW1, ← hbx] at h1
  have hnp : bx ≠ p := fun e => by have := blk_lt h.blk; omega
  have HW1 := Lib.hid (And.intro hW1 hbx)
  have HSZ := Lib.hid hsz1
  have H := Lib.hid h
  have H1 := Lib.hid h1
  have HX1 := Lib.hid hb1
  have HT := Lib.hid hT
  have HS := Lib.hid hs
  have HOK := Lib.hid hok
  have HXV := Lib.hid hxv
  have HSTP := Lib.hid hstp
  have hp1 : W1.cell? ⟨p, 2, none⟩ = some (.int .i64 st) := (blk_cell h1.blk 2).trans rfl
  have hx0 : W1.cell? ⟨bx, 0, none⟩ = some (.int .i64 t) := (blk_cell hb1 0).trans rfl
  clear h h1 hb1 hsz1 hs hok hT hW1 hbx hxv hstp
  by_cases c1 : sn = 0
  · subst c1
    have hzl := zig_lt t ht
    have hul := uv_len10 _ hzl.1
    have hby : Byts (ints (uv (zigI t).toNat)) := by
      intro x hx
      obtain ⟨y, hy, rfl⟩ := List.mem_map.1 hx
      have := uv_lt _ y hy
      omega
    have hil : (ints (uv (zigI t).toNat)).length ≤ 10 := by rw [ints_length]; exact hul
    obtain ⟨ys, hys⟩ : ∃ ys, ys = ints (uv (zigI t).toNat) := ⟨_, rfl⟩
    have HPV := Lib.hid (fun W => putVarint_calls W t ht.1 ht.2)
    have HYS := Lib.hid hys
    rw [← hys] at hby hil HPV
    clear hys hzl hul
    go_enter Tryd.func46, Tryd.ntmps46
    go_upto_region 1 with fail
    rw [← HW1.out.1, ← HW1.out.2]
    clear HW1
    go_quiet (fail)
    obtain ⟨W2, hW2⟩ : ∃ W2, W2 = W1.drewN nq := ⟨_, rfl⟩
    rw [← hW2]
    have H2 : Hid (Pk w0 W2 (fun k => ok k ∧ k ≠ bx) p g bs ⟨0, st, sv, sstep, sw⟩) := Lib.hid (by rw [hW2]; exact H1.out.drewN _)
    have HX2 : Hid (W2.heap[bx]? = some (.cells #[.int .i64 t, .int .u64 (v : Nat)] 39 (0, 0))) := Lib.hid (by rw [hW2]; exact HX1.out)
    have HSZ2 : Hid (w.heap.size ≤ W2.heap.size) := Lib.hid (by rw [hW2]; exact HSZ.out)
    clear hW2 hp1 hx0 H1 HX1 HSZ
    have q1 : W2.cell? ⟨p, 1, none⟩ = some (.int .i64 (0 : Nat)) := (blk_cell H2.out.blk 1).trans rfl
    have q4 : W2.cell? ⟨p, 4, none⟩ = some (.int .u64 (sstep : Nat)) := (blk_cell H2.out.blk 4).trans rfl
    have qx0 : W2.cell? ⟨bx, 0, none⟩ = some (.int .i64 t) := (blk_cell HX2.out 0).trans rfl
    go_upto_region 7 with (first | (go_at_call 63; refine (HPV.out W2).mono ?_; rintro e w3 ⟨v3, rfl, hR3, hB3⟩; have HR3 := Lib.hid hR3; have HB3 := Lib.hid hB3; clear hR3 hB3) | (go_at_call 62; refine (H2.out.raw HB3.out HR3.out hby (by omega)).mono ?_; rintro e w4 ⟨rfl, h4, m4⟩; have H4 := Lib.hid h4; have M4 := Lib.hid m4; clear h4 m4))
    have HX4 : Hid (w4.heap[bx]? = some (.cells #[.int .i64 t, .int .u64 (v : Nat)] 39 (0, 0))) := Lib.hid (M4.out.blk HX2.out (fun hk => hk.2 rfl))
    have HD4 := Lib.hid (H4.out.drewN 1)
    have hdr : w4.drewN 1 = w4.drew := rfl
    rw [hdr] at HD4
    clear hdr q1 q4 qx0
    have y0 : w4.drew.cell? ⟨p, 0, none⟩ = some (.pointer (some ⟨g, 0, none⟩)) := HD4.out.ptr
    have y1 : w4.drew.cell? ⟨bx, 1, none⟩ = some (.int .u64 (v : Nat)) := (blk_cell HX4.out 1).trans rfl
    refine start_ (n := 7) (S := fun w' => w'.cell? ⟨p, 0, none⟩ = some (.pointer (some ⟨g, 0, none⟩)) ∧ w'.cell? ⟨bx, 1, none⟩ = some (.int .u64 (v : Nat))) (ds := [6]) #[false, false, false, false, false, false, false] (by kernel_rfl) rfl rfl ⟨y0, y1⟩ (fun hHeld => ?_)
    refine pure_ (i := 0) (N := some 49) (v := ?_) (a' := ?_) #[true, false, false, false, false, false, false] rfl rfl (by kernel_rfl) (fun _ _ _ h => h) (Or.inl ⟨by rfl, ?_⟩) ?_ ?_
    rotate_left
    · intro w'
      go_simp
      with_reducible rfl
    rotate_left
    · simp only [Act.put, List.setIfInBounds_toArray, List.set_cons_zero, List.set_cons_succ, i64_w, i32_w]
      rfl
    refine pure_ (i := 1) (N := some 50) (v := ?_) (a' := ?_) #[true, true, false, false, false, false, false] rfl rfl (by kernel_rfl) (fun _ _ _ h => h) (Or.inl ⟨by rfl, ?_⟩) ?_ ?_
    rotate_left
    · intro w'
      go_simp
      with_reducible rfl
    rotate_left
    · simp only [Act.put, List.setIfInBounds_toArray, List.set_cons_zero, List.set_cons_succ, i64_w, i32_w]
      rfl
    refine pure_ (i := 2) (N := some 51) (v := ?_) (a' := ?_) #[true, true, true, false, false, false, false] rfl rfl (by kernel_rfl) (fun _ _ _ h => h) (Or.inl ⟨by rfl, ?_⟩) ?_ ?_
    rotate_left
    · intro w'
      go_simp
      with_reducible rfl
    rotate_left
    · simp only [Act.put, List.setIfInBounds_toArray, List.set_cons_zero, List.set_cons_succ, i64_w, i32_w]
      rfl
    refine pure_ (i := 4) (N := some 53) (v := ?_) (a' := ?_) #[true, true, true, false, true, false, false] rfl rfl (by kernel_rfl) (fun _ _ _ h => h) (Or.inl ⟨by rfl, ?_⟩) ?_ ?_
    rotate_left
    · intro w'
      go_simp
      with_reducible rfl
    rotate_left
    · simp only [Act.put, List.setIfInBounds_toArray, List.set_cons_zero, List.set_cons_succ, i64_w, i32_w]
      rfl
    refine take_ (i := 3) (N := some 52) (v := ?_) (a' := ?_) #[true, true, true, true, true, false, false] rfl rfl (by kernel_rfl) (fun _ _ _ h => h) (Or.inl ⟨by rfl, ?_⟩) hHeld ?_ ?_
    rotate_left
    · rintro w' ⟨s0, s1⟩
      go_simp
      with_reducible rfl
    rotate_left
    · simp only [Act.put, List.setIfInBounds_toArray, List.set_cons_zero, List.set_cons_succ, i64_w, i32_w]
      rfl
    refine take_ (i := 5) (N := some 54) (v := ?_) (a' := ?_) #[true, true, true, true, true, true, false] rfl rfl (by kernel_rfl) (fun _ _ _ h => h) (Or.inl ⟨by rfl, ?_⟩) hHeld ?_ ?_
    rotate_left
    · rintro w' ⟨s0, s1⟩
      go_simp
      with_reducible rfl
    rotate_left
    · simp only [Act.put, List.setIfInBounds_toArray, List.set_cons_zero, List.set_cons_succ, i64_w, i32_w]
      rfl
    refine last_ (i := 6) (N := some 55) #[true, true, true, true, true, true, true] rfl rfl (by kernel_rfl) (by decide) (fun K hK => ?_)
    refine goes_ Tryd.func45 (by kernel_rfl) rfl #[.pointer (some ⟨g, 0, none⟩), .int .u64 v, .int .i64 64] (by rfl) rfl rfl (by simp only [List.map_toArray, List.map_cons, List.map_nil]; rfl) ?_
    with_reducible refine (HD4.out.putI v 64 v 64 rfl rfl hv (by decide) (.inl rfl) (by simp only [List.length_append, bytesB_length]; omega)).mono ?_
    rintro e w5 ⟨rfl, h5, m5⟩
    refine ⟨_, rfl, ?_⟩
    have H5 := Lib.hid h5
    have M5 := Lib.hid m5
    clear h5 m5
    refine hK.out _ _ ?_
    clear hK K
    refine norm_ (a' := ?_) ?_ ?_
    rotate_left
    · show Act.put _ (some 55) _ = _
      simp only [Act.put, List.setIfInBounds_toArray, List.set_cons_zero, List.set_cons_succ, i64_w, i32_w]
      rfl
    refine done_ (by kernel_rfl) ?_
    clear y0 y1
    have HX5 : Hid (w5.heap[bx]? = some (.cells #[.int .i64 t, .int .u64 (v : Nat)] 39 (0, 0))) := Lib.hid (M5.out.blk (w := w4.drew) HX4.out (fun hk => hk.2 rfl))
    have HSZ5 : Hid (w.heap.size ≤ w5.heap.size) := Lib.hid (Nat.le_trans HSZ2.out (Nat.le_trans M4.out.size M5.out.size))
    have HD := Lib.hid (H5.out.drewN 1)
    have hdr : w5.drewN 1 = w5.drew := rfl
    rw [hdr] at HD
    clear hdr
    have HXD : Hid (w5.drew.heap[bx]? = some (.cells #[.int .i64 t, .int .u64 (v : Nat)] 39 (0, 0))) := Lib.hid HX5.out
    have z0 : w5.drew.cell? ⟨bx, 0, none⟩ = some (.int .i64 t) := (blk_cell HXD.out 0).trans rfl
    have z1 : w5.drew.cell? ⟨bx, 1, none⟩ = some (.int .u64 (v : Nat)) := (blk_cell HXD.out 1).trans rfl
    obtain ⟨u4, zp4⟩ : ∃ u4, w5.drew.cell? ⟨p, 4, none⟩ = some u4 := ⟨_, (blk_cell HD.out.blk 4).trans rfl⟩
    obtain ⟨u2, zp2⟩ : ∃ u2, w5.drew.cell? ⟨p, 2, none⟩ = some u2 := ⟨_, (blk_cell HD.out.blk 2).trans rfl⟩
    obtain ⟨u3, zp3⟩ : ∃ u3, w5.drew.cell? ⟨p, 3, none⟩ = some u3 := ⟨_, (blk_cell HD.out.blk 3).trans rfl⟩
    have fz4 := blk_frozen HD.out.blk 4
    have fz2 := blk_frozen HD.out.blk 2
    have fz3 := blk_frozen HD.out.blk 3
    have zq4 : w5.cell? ⟨p, 4, none⟩ = some u4 := zp4
    have fq4 : w5.frozen? ⟨p, 4, none⟩ = false := fz4
    have zq2 : w5.cell? ⟨p, 2, none⟩ = some u2 := zp2
    have fq2 : w5.frozen? ⟨p, 2, none⟩ = false := fz2
    have zq3 : w5.cell? ⟨p, 3, none⟩ = some u3 := zp3
    have fq3 : w5.frozen? ⟨p, 3, none⟩ = false := fz3
    go_upto_region 12 with fail
    refine start_ (n := 12) (S := fun w' => w'.cell? ⟨bx, 0, none⟩ = some (.int .i64 t) ∧ w'.cell? ⟨bx, 1, none⟩ = some (.int .u64 (v : Nat))) (ds := [11]) #[false, false, false, false, false, false, false, false, false, false, false, false] (by kernel_rfl) rfl rfl ⟨z0, z1⟩ (fun hHeld => ?_)
    refine pure_ (i := 0) (N := some 73) (v := ?_) (a' := ?_) #[true, false, false, false, false, false, false, false, false, false, false, false] rfl rfl (by kernel_rfl) (fun _ _ _ h => h) (Or.inl ⟨by rfl, ?_⟩) ?_ ?_
    rotate_left
    · intro w'
      go_simp
      with_reducible rfl
    rotate_left
    · simp only [Act.put, List.setIfInBounds_toArray, List.set_cons_zero, List.set_cons_succ, i64_w, i32_w]
      rfl
    refine pure_ (i := 1) (N := some 74) (v := ?_) (a' := ?_) #[true, true, false, false, false, false, false, false, false, false, false, false] rfl rfl (by kernel_rfl) (fun _ _ _ h => h) (Or.inl ⟨by rfl, ?_⟩) ?_ ?_
    rotate_left
    · intro w'
      go_simp
      with_reducible rfl
    rotate_left
    · simp only [Act.put, List.setIfInBounds_toArray, List.set_cons_zero, List.set_cons_succ, i64_w, i32_w]
      rfl
    refine pure_ (i := 2) (N := some 75) (v := ?_) (a' := ?_) #[true, true, true, false, false, false, false, false, false, false, false, false] rfl rfl (by kernel_rfl) (fun _ _ _ h => h) (Or.inl ⟨by rfl, ?_⟩) ?_ ?_
    rotate_left
    · intro w'
      go_simp
      with_reducible rfl
    rotate_left
    · simp only [Act.put, List.setIfInBounds_toArray, List.set_cons_zero, List.set_cons_succ, i64_w, i32_w]
      rfl
    refine pure_ (i := 4) (N := some 77) (v := ?_) (a' := ?_) #[true, true, true, false, true, false, false, false, false, false, false, false] rfl rfl (by kernel_rfl) (fun _ _ _ h => h) (Or.inl ⟨by rfl, ?_⟩) ?_ ?_
    rotate_left
    · intro w'
      go_simp
      with_reducible rfl
    rotate_left
    · simp only [Act.put, List.setIfInBounds_toArray, List.set_cons_zero, List.set_cons_succ, i64_w, i32_w]
      rfl
    refine pure_ (i := 5) (N := some 78) (v := ?_) (a' := ?_) #[true, true, true, false, true, true, false, false, false, false, false, false] rfl rfl (by kernel_rfl) (fun _ _ _ h => h) (Or.inl ⟨by rfl, ?_⟩) ?_ ?_
    rotate_left
    · intro w'
      go_simp
      with_reducible rfl
    rotate_left
    · simp only [Act.put, List.setIfInBounds_toArray, List.set_cons_zero, List.set_cons_succ, i64_w, i32_w]
      rfl
    refine pure_ (i := 6) (N := some 79) (v := ?_) (a' := ?_) #[true, true, true, false, true, true, true, false, false, false, false, false] rfl rfl (by kernel_rfl) (fun _ _ _ h => h) (Or.inl ⟨by rfl, ?_⟩) ?_ ?_
    rotate_left
    · intro w'
      go_simp
      with_reducible rfl
    rotate_left
    · simp only [Act.put, List.setIfInBounds_toArray, List.set_cons_zero, List.set_cons_succ, i64_w, i32_w]
      rfl
    refine take_ (i := 3) (N := some 76) (v := ?_) (a' := ?_) #[true, true, true, true, true, true, true, false, false, false, false, false] rfl rfl (by kernel_rfl) (fun _ _ _ h => h) (Or.inl ⟨by rfl, ?_⟩) hHeld ?_ ?_
    rotate_left
    · rintro w' ⟨s0, s1⟩
      go_simp
      with_reducible rfl
    rotate_left
    · simp only [Act.put, List.setIfInBounds_toArray, List.set_cons_zero, List.set_cons_succ, i64_w, i32_w]
      rfl
    refine one_ (i := 7) (N := none) #[true, true, true, true, true, true, true, true, false, false, false, false] rfl rfl (by kernel_rfl) (by decide) (fun K hK => ?_)
    refine skip_ (w1 := ?_) (by rfl) rfl ?_ ?_
    rotate_left
    · go_simp
      rfl
    have hb7 := blk_far (p := ⟨p, 4, none⟩) HXD.out hnp (.int .u64 0)
    have hc70 := (blk_cell hb7 0).trans rfl
    have hc71 := (blk_cell hb7 1).trans rfl
    refine hK.out _ _ ⟨hc70, hc71⟩ (fun hHeld => ?_)
    clear hK K
    refine pure_ (i := 8) (N := some 80) (v := ?_) (a' := ?_) #[true, true, true, true, true, true, true, true, true, false, false, false] rfl rfl (by kernel_rfl) (fun _ _ _ h => h) (Or.inl ⟨by rfl, ?_⟩) ?_ ?_
    rotate_left
    · intro w'
      go_simp
      with_reducible rfl
    rotate_left
    · simp only [Act.put, List.setIfInBounds_toArray, List.set_cons_zero, List.set_cons_succ, i64_w, i32_w]
      rfl
    refine pure_ (i := 9) (N := some 81) (v := ?_) (a' := ?_) #[true, true, true, true, true, true, true, true, true, true, false, false] rfl rfl (by kernel_rfl) (fun _ _ _ h => h) (Or.inl ⟨by rfl, ?_⟩) ?_ ?_
    rotate_left
    · intro w'
      go_simp
      with_reducible rfl
    rotate_left
    · simp only [Act.put, List.setIfInBounds_toArray, List.set_cons_zero, List.set_cons_succ, i64_w, i32_w]
      rfl
    refine pure_ (i := 10) (N := some 82) (v := ?_) (a' := ?_) #[true, true, true, true, true, true, true, true, true, true, true, false] rfl rfl (by kernel_rfl) (fun _ _ _ h => h) (Or.inl ⟨by rfl, ?_⟩) ?_ ?_
    rotate_left
    · intro w'
      go_simp
      with_reducible rfl
    rotate_left
    · simp only [Act.put, List.setIfInBounds_toArray, List.set_cons_zero, List.set_cons_succ, i64_w, i32_w]
      rfl
    refine last_ (i := 11) (N := none) #[true, true, true, true, true, true, true, true, true, true, true, true] rfl rfl (by kernel_rfl) (by decide) (fun K hK => ?_)
    refine skip_ (w1 := ?_) (by rfl) rfl ?_ ?_
    rotate_left
    · go_simp
      rfl
    refine hK.out _ _ ?_
    clear hK K
    refine done_ (by kernel_rfl) ?_
    clear z0 z1 fz4 fz2 fz3 zp4 zp2 zp3 zq4 zq2 zq3 fq4 fq2 fq3
    have h8 := HD.out.last (0 + 1) v 0 t
    obtain ⟨W8, hW8⟩ : ∃ W8, W8 = (((w5.setCell ⟨p, 4, none⟩ (.int .u64 0)).setCell ⟨p, 2, none⟩ (.int .i64 t)).setCell ⟨p, 3, none⟩ (.int .u64 (v : Nat))).drew := ⟨_, rfl⟩
    have hb8 := blk_put (blk_put (blk_put HD.out.blk 4 (.int .u64 0) rfl) 2 (.int .i64 t) rfl) 3 (.int .u64 (v : Nat)) rfl
    have HS8 : Hid (w.heap.size ≤ W8.heap.size) := Lib.hid (by rw [hW8]; simp only [World.setCell, Array.size_modify, Array.size_setIfInBounds, World.drew]; exact HSZ5.out)
    rw [← hW8]
    change Pk w0 (((((w5.setCell ⟨p, 4, none⟩ (.int .u64 0)).setCell ⟨p, 2, none⟩ (.int .i64 t)).setCell ⟨p, 3, none⟩ (.int .u64 (v : Nat))).drew).setCell ⟨p, 1, none⟩ (.int .i64 ((0 + 1 : Nat)))) _ p g _ _ at h8
    rw [← hW8] at h8
    have q8 : W8.cell? ⟨p, 1, none⟩ = some (.int .i64 (0 : Nat)) := by rw [hW8]; exact (blk_cell hb8 1).trans rfl
    have f8 : W8.frozen? ⟨p, 1, none⟩ = false := by rw [hW8]; exact blk_frozen hb8 1
    have H8 := Lib.hid h8
    clear h8 hb8 hW8
    go_wp2_with fail
    go_end0
    refine ⟨rfl, ?_⟩
    have h9 := H8.out.back H.out (fun k hk => hk.1) (by simpa [World.setCell] using HS8.out)
    rw [HYS.out, List.append_assoc] at h9
    unfold addB
    rw [if_pos rfl]
    exact h9
  · by_cases c2 : sn = 1
    · subst c2
      have hul := uv_len10 _ hsl
      have hby : Byts (ints (uv stp)) := by
        intro x hx
        obtain ⟨y, hy, rfl⟩ := List.mem_map.1 hx
        have := uv_lt _ y hy
        omega
      have hil : (ints (uv stp)).length ≤ 10 := by rw [ints_length]; exact hul
      obtain ⟨ys, hys⟩ : ∃ ys, ys = ints (uv stp) := ⟨_, rfl⟩
      have HPV := Lib.hid (fun W => putUvarint_calls W stp hsl)
      have HYS := Lib.hid hys
      rw [← hys] at hby hil HPV
      clear hys hul
      go_enter Tryd.func46, Tryd.ntmps46
      go_upto_region 1 with fail
      rw [← HW1.out.1, ← HW1.out.2]
      clear HW1
      go_quiet (fail)
      obtain ⟨W2, hW2⟩ : ∃ W2, W2 = W1.drewN nq := ⟨_, rfl⟩
      rw [← hW2]
      have H2 : Hid (Pk w0 W2 (fun k => ok k ∧ k ≠ bx) p g bs ⟨1, st, sv, sstep, sw⟩) := Lib.hid (by rw [hW2]; exact H1.out.drewN _)
      have HX2 : Hid (W2.heap[bx]? = some (.cells #[.int .i64 t, .int .u64 (v : Nat)] 39 (0, 0))) := Lib.hid (by rw [hW2]; exact HX1.out)
      have HSZ2 : Hid (w.heap.size ≤ W2.heap.size) := Lib.hid (by rw [hW2]; exact HSZ.out)
      clear hW2 hp1 hx0 H1 HX1 HSZ
      have q1 : W2.cell? ⟨p, 1, none⟩ = some (.int .i64 (1 : Nat)) := (blk_cell H2.out.blk 1).trans rfl
      have q4 : W2.cell? ⟨p, 4, none⟩ = some (.int .u64 (sstep : Nat)) := (blk_cell H2.out.blk 4).trans rfl
      have qx0 : W2.cell? ⟨bx, 0, none⟩ = some (.int .i64 t) := (blk_cell HX2.out 0).trans rfl
      go_upto_region 11 with (first | (go_at_call 64; refine (HPV.out W2).mono ?_; rintro e w3 ⟨v3, rfl, hR3, hB3⟩; have HR3 := Lib.hid hR3; have HB3 := Lib.hid hB3; clear hR3 hB3) | (go_at_call 62; refine (H2.out.raw HB3.out HR3.out hby (by omega)).mono ?_; rintro e w4 ⟨rfl, h4, m4⟩; have H4 := Lib.hid h4; have M4 := Lib.hid m4; clear h4 m4))
      have HX4 : Hid (w4.heap[bx]? = some (.cells #[.int .i64 t, .int .u64 (v : Nat)] 39 (0, 0))) := Lib.hid (M4.out.blk HX2.out (fun hk => hk.2 rfl))
      have HD4 := Lib.hid (H4.out.drewN 1)
      have hdr : w4.drewN 1 = w4.drew := rfl
      rw [hdr] at HD4
      clear hdr q1 q4 qx0
      have y0 : w4.drew.cell? ⟨p, 3, none⟩ = some (.int .u64 (sv : Nat)) := (blk_cell HD4.out.blk 3).trans rfl
      have y1 : w4.drew.cell? ⟨bx, 1, none⟩ = some (.int .u64 (v : Nat)) := (blk_cell HX4.out 1).trans rfl
      refine start_ (n := 11) (S := fun w' => w'.cell? ⟨p, 3, none⟩ = some (.int .u64 (sv : Nat)) ∧ w'.cell? ⟨bx, 1, none⟩ = some (.int .u64 (v : Nat))) (ds := [10]) #[false, false, false, false, false, false, false, false, false, false, false] (by kernel_rfl) rfl rfl ⟨y0, y1⟩ (fun hHeld => ?_)
      refine pure_ (i := 0) (N := some 62) (v := ?_) (a' := ?_) #[true, false, false, false, false, false, false, false, false, false, false] rfl rfl (by kernel_rfl) (fun _ _ _ h => h) (Or.inl ⟨by rfl, ?_⟩) ?_ ?_
      rotate_left
      · intro w'
        go_simp
        with_reducible rfl
      rotate_left
      · simp only [Act.put, List.setIfInBounds_toArray, List.set_cons_zero, List.set_cons_succ, i64_w, i32_w]
        rfl
      refine pure_ (i := 1) (N := some 63) (v := ?_) (a' := ?_) #[true, true, false, false, false, false, false, false, false, false, false] rfl rfl (by kernel_rfl) (fun _ _ _ h => h) (Or.inl ⟨by rfl, ?_⟩) ?_ ?_
      rotate_left
      · intro w'
        go_simp
        with_reducible rfl
      rotate_left
      · simp only [Act.put, List.setIfInBounds_toArray, List.set_cons_zero, List.set_cons_succ, i64_w, i32_w]
        rfl
      refine pure_ (i := 3) (N := some 65) (v := ?_) (a' := ?_) #[true, true, false, true, false, false, false, false, false, false, false] rfl rfl (by kernel_rfl) (fun _ _ _ h => h) (Or.inl ⟨by rfl, ?_⟩) ?_ ?_
      rotate_left
      · intro w'
        go_simp
        with_reducible rfl
      rotate_left
      · simp only [Act.put, List.setIfInBounds_toArray, List.set_cons_zero, List.set_cons_succ, i64_w, i32_w]
        rfl
      refine pure_ (i := 4) (N := some 66) (v := ?_) (a' := ?_) #[true, true, false, true, true, false, false, false, false, false, false] rfl rfl (by kernel_rfl) (fun _ _ _ h => h) (Or.inl ⟨by rfl, ?_⟩) ?_ ?_
      rotate_left
      · intro w'
        go_simp
        with_reducible rfl
      rotate_left
      · simp only [Act.put, List.setIfInBounds_toArray, List.set_cons_zero, List.set_cons_succ, i64_w, i32_w]
        rfl
      refine pure_ (i := 5) (N := some 67) (v := ?_) (a' := ?_) #[true, true, false, true, true, true, false, false, false, false, false] rfl rfl (by kernel_rfl) (fun _ _ _ h => h) (Or.inl ⟨by rfl, ?_⟩) ?_ ?_
      rotate_left
      · intro w'
        go_simp
        with_reducible rfl
      rotate_left
      · simp only [Act.put, List.setIfInBounds_toArray, List.set_cons_zero, List.set_cons_succ, i64_w, i32_w]
        rfl
      refine pure_ (i := 6) (N := some 68) (v := ?_) (a' := ?_) #[true, true, false, true, true, true, true, false, false, false, false] rfl rfl (by kernel_rfl) (fun _ _ _ h => h) (Or.inl ⟨by rfl, ?_⟩) ?_ ?_
      rotate_left
      · intro w'
        go_simp
        with_reducible rfl
      rotate_left
      · simp only [Act.put, List.setIfInBounds_toArray, List.set_cons_zero, List.set_cons_succ, i64_w, i32_w]
        rfl
      refine pure_ (i := 7) (N := some 69) (v := ?_) (a' := ?_) #[true, true, false, true, true, true, true, true, false, false, false] rfl rfl (by kernel_rfl) (fun _ _ _ h => h) (Or.inl ⟨by rfl, ?_⟩) ?_ ?_
      rotate_left
      · intro w'
        go_simp
        with_reducible rfl
      rotate_left
      · simp only [Act.put, List.setIfInBounds_toArray, List.set_cons_zero, List.set_cons_succ, i64_w, i32_w]
        rfl
      refine take_ (i := 2) (N := some 64) (v := ?_) (a' := ?_) #[true, true, true, true, true, true, true, true, false, false, false] rfl rfl (by kernel_rfl) (fun _ _ _ h => h) (Or.inl ⟨by rfl, ?_⟩) hHeld ?_ ?_
      rotate_left
      · rintro w' ⟨s0, s1⟩
        go_simp
        with_reducible rfl
      rotate_left
      · simp only [Act.put, List.setIfInBounds_toArray, List.set_cons_zero, List.set_cons_succ, i64_w, i32_w]
        rfl
      refine take_ (i := 8) (N := some 70) (v := ?_) (a' := ?_) #[true, true, true, true, true, true, true, true, true, false, false] rfl rfl (by kernel_rfl) (fun _ _ _ h => h) (Or.inl ⟨by rfl, ?_⟩) hHeld ?_ ?_
      rotate_left
      · rintro w' ⟨s0, s1⟩
        go_simp
        with_reducible rfl
      rotate_left
      · simp only [Act.put, List.setIfInBounds_toArray, List.set_cons_zero, List.set_cons_succ, i64_w, i32_w]
        rfl
      refine pure_ (i := 9) (N := some 71) (v := ?_) (a' := ?_) #[true, true, true, true, true, true, true, true, true, true, false] rfl rfl (by kernel_rfl) (fun _ _ _ h => h) (Or.inl ⟨by rfl, ?_⟩) ?_ ?_
      rotate_left
      · intro w'
        go_simp
        with_reducible rfl
      rotate_left
      · simp only [Act.put, List.setIfInBounds_toArray, List.set_cons_zero, List.set_cons_succ, i64_w, i32_w]
        rfl
      refine last_ (i := 10) (N := some 72) #[true, true, true, true, true, true, true, true, true, true, true] rfl rfl (by kernel_rfl) (by decide) (fun K hK => ?_)
      refine goes_ Tryd.func65 (by kernel_rfl) rfl #[.pointer (some ⟨p, 0, none⟩), .int .u64 xv] (by rfl) rfl rfl (by simp only [List.map_toArray, List.map_cons, List.map_nil]; rfl) ?_
      with_reducible refine (turn_calls w0 w4.drew _ p g _ _ xv hxl HT.out HOK.out HD4.out (by simp only [List.length_append, bytesB_length]; omega)).mono ?_
      rintro e w5 ⟨rfl, h5, m5⟩
      refine ⟨_, rfl, ?_⟩
      have H5 := Lib.hid h5
      have M5 := Lib.hid m5
      clear h5 m5
      refine hK.out _ _ ?_
      clear hK K
      refine norm_ (a' := ?_) ?_ ?_
      rotate_left
      · show Act.put _ (some 72) _ = _
        simp only [Act.put, List.setIfInBounds_toArray, List.set_cons_zero, List.set_cons_succ, i64_w, i32_w]
        rfl
      refine done_ (by kernel_rfl) ?_
      clear y0 y1
      have HX5 : Hid (w5.heap[bx]? = some (.cells #[.int .i64 t, .int .u64 (v : Nat)] 39 (0, 0))) := Lib.hid (M5.out.blk (w := w4.drew) HX4.out (fun hk => hk.elim (fun h => h.2 rfl) hnp))
      have HSZ5 : Hid (w.heap.size ≤ w5.heap.size) := Lib.hid (Nat.le_trans HSZ2.out (Nat.le_trans M4.out.size M5.out.size))
      have HD := Lib.hid (H5.out.drewN 1)
      have hdr : w5.drewN 1 = w5.drew := rfl
      rw [hdr] at HD
      clear hdr
      have HXD : Hid (w5.drew.heap[bx]? = some (.cells #[.int .i64 t, .int .u64 (v : Nat)] 39 (0, 0))) := Lib.hid HX5.out
      have z0 : w5.drew.cell? ⟨bx, 0, none⟩ = some (.int .i64 t) := (blk_cell HXD.out 0).trans rfl
      have z1 : w5.drew.cell? ⟨bx, 1, none⟩ = some (.int .u64 (v : Nat)) := (blk_cell HXD.out 1).trans rfl
      obtain ⟨u4, zp4⟩ : ∃ u4, w5.drew.cell? ⟨p, 4, none⟩ = some u4 := ⟨_, (blk_cell HD.out.blk 4).trans rfl⟩
      obtain ⟨u2, zp2⟩ : ∃ u2, w5.drew.cell? ⟨p, 2, none⟩ = some u2 := ⟨_, (blk_cell HD.out.blk 2).trans rfl⟩
      obtain ⟨u3, zp3⟩ : ∃ u3, w5.drew.cell? ⟨p, 3, none⟩ = some u3 := ⟨_, (blk_cell HD.out.blk 3).trans rfl⟩
      have fz4 := blk_frozen HD.out.blk 4
      have fz2 := blk_frozen HD.out.blk 2
      have fz3 := blk_frozen HD.out.blk 3
      have zq4 : w5.cell? ⟨p, 4, none⟩ = some u4 := zp4
      have fq4 : w5.frozen? ⟨p, 4, none⟩ = false := fz4
      have zq2 : w5.cell? ⟨p, 2, none⟩ = some u2 := zp2
      have fq2 : w5.frozen? ⟨p, 2, none⟩ = false := fz2
      have zq3 : w5.cell? ⟨p, 3, none⟩ = some u3 := zp3
      have fq3 : w5.frozen? ⟨p, 3, none⟩ = false := fz3
      go_upto_region 12 with fail
      refine start_ (n := 12) (S := fun w' => w'.cell? ⟨bx, 0, none⟩ = some (.int .i64 t) ∧ w'.cell? ⟨bx, 1, none⟩ = some (.int .u64 (v : Nat))) (ds := [11]) #[false, false, false, false, false, false, false, false, false, false, false, false] (by kernel_rfl) rfl rfl ⟨z0, z1⟩ (fun hHeld => ?_)
      refine pure_ (i := 0) (N := some 73) (v := ?_) (a' := ?_) #[true, false, false, false, false, false, false, false, false, false, false, false] rfl rfl (by kernel_rfl) (fun _ _ _ h => h) (Or.inl ⟨by rfl, ?_⟩) ?_ ?_
      rotate_left
      · intro w'
        go_simp
        with_reducible rfl
      rotate_left
      · simp only [Act.put, List.setIfInBounds_toArray, List.set_cons_zero, List.set_cons_succ, i64_w, i32_w]
        rfl
      refine pure_ (i := 1) (N := some 74) (v := ?_) (a' := ?_) #[true, true, false, false, false, false, false, false, false, false, false, false] rfl rfl (by kernel_rfl) (fun _ _ _ h => h) (Or.inl ⟨by rfl, ?_⟩) ?_ ?_
      rotate_left
      · intro w'
        go_simp
        with_reducible rfl
      rotate_left
      · simp only [Act.put, List.setIfInBounds_toArray, List.set_cons_zero, List.set_cons_succ, i64_w, i32_w]
        rfl
      refine pure_ (i := 2) (N := some 75) (v := ?_) (a' := ?_) #[true, true, true, false, false, false, false, false, false, false, false, false] rfl rfl (by kernel_rfl) (fun _ _ _ h => h) (Or.inl ⟨by rfl, ?_⟩) ?_ ?_
      rotate_left
      · intro w'
        go_simp
        with_reducible rfl
      rotate_left
      · simp only [Act.put, List.setIfInBounds_toArray, List.set_cons_zero, List.set_cons_succ, i64_w, i32_w]
        rfl
      refine pure_ (i := 4) (N := some 77) (v := ?_) (a' := ?_) #[true, true, true, false, true, false, false, false, false, false, false, false] rfl rfl (by kernel_rfl) (fun _ _ _ h => h) (Or.inl ⟨by rfl, ?_⟩) ?_ ?_
      rotate_left
      · intro w'
        go_simp
        with_reducible rfl
      rotate_left
      · simp only [Act.put, List.setIfInBounds_toArray, List.set_cons_zero, List.set_cons_succ, i64_w, i32_w]
        rfl
      refine pure_ (i := 5) (N := some 78) (v := ?_) (a' := ?_) #[true, true, true, false, true, true, false, false, false, false, false, false] rfl rfl (by kernel_rfl) (fun _ _ _ h => h) (Or.inl ⟨by rfl, ?_⟩) ?_ ?_
      rotate_left
      · intro w'
        go_simp
        with_reducible rfl
      rotate_left
      · simp only [Act.put, List.setIfInBounds_toArray, List.set_cons_zero, List.set_cons_succ, i64_w, i32_w]
        rfl
      refine pure_ (i := 6) (N := some 79) (v := ?_) (a' := ?_) #[true, true, true, false, true, true, true, false, false, false, false, false] rfl rfl (by kernel_rfl) (fun _ _ _ h => h) (Or.inl ⟨by rfl, ?_⟩) ?_ ?_
      rotate_left
      · intro w'
        go_simp
        with_reducible rfl
      rotate_left
      · simp only [Act.put, List.setIfInBounds_toArray, List.set_cons_zero, List.set_cons_succ, i64_w, i32_w]
        rfl
      refine take_ (i := 3) (N := some 76) (v := ?_) (a' := ?_) #[true, true, true, true, true, true, true, false, false, false, false, false] rfl rfl (by kernel_rfl) (fun _ _ _ h => h) (Or.inl ⟨by rfl, ?_⟩) hHeld ?_ ?_
      rotate_left
      · rintro w' ⟨s0, s1⟩
        go_simp
        with_reducible rfl
      rotate_left
      · simp only [Act.put, List.setIfInBounds_toArray, List.set_cons_zero, List.set_cons_succ, i64_w, i32_w]
        rfl
      refine one_ (i := 7) (N := none) #[true, true, true, true, true, true, true, true, false, false, false, false] rfl rfl (by kernel_rfl) (by decide) (fun K hK => ?_)
      refine skip_ (w1 := ?_) (by rfl) rfl ?_ ?_
      rotate_left
      · go_simp
        rfl
      have hb7 := blk_far (p := ⟨p, 4, none⟩) HXD.out hnp (.int .u64 stp)
      have hc70 := (blk_cell hb7 0).trans rfl
      have hc71 := (blk_cell hb7 1).trans rfl
      refine hK.out _ _ ⟨hc70, hc71⟩ (fun hHeld => ?_)
      clear hK K
      refine pure_ (i := 8) (N := some 80) (v := ?_) (a' := ?_) #[true, true, true, true, true, true, true, true, true, false, false, false] rfl rfl (by kernel_rfl) (fun _ _ _ h => h) (Or.inl ⟨by rfl, ?_⟩) ?_ ?_
      rotate_left
      · intro w'
        go_simp
        with_reducible rfl
      rotate_left
      · simp only [Act.put, List.setIfInBounds_toArray, List.set_cons_zero, List.set_cons_succ, i64_w, i32_w]
        rfl
      refine pure_ (i := 9) (N := some 81) (v := ?_) (a' := ?_) #[true, true, true, true, true, true, true, true, true, true, false, false] rfl rfl (by kernel_rfl) (fun _ _ _ h => h) (Or.inl ⟨by rfl, ?_⟩) ?_ ?_
      rotate_left
      · intro w'
        go_simp
        with_reducible rfl
      rotate_left
      · simp only [Act.put, List.setIfInBounds_toArray, List.set_cons_zero, List.set_cons_succ, i64_w, i32_w]
        rfl
      refine pure_ (i := 10) (N := some 82) (v := ?_) (a' := ?_) #[true, true, true, true, true, true, true, true, true, true, true, false] rfl rfl (by kernel_rfl) (fun _ _ _ h => h) (Or.inl ⟨by rfl, ?_⟩) ?_ ?_
      rotate_left
      · intro w'
        go_simp
        with_reducible rfl
      rotate_left
      · simp only [Act.put, List.setIfInBounds_toArray, List.set_cons_zero, List.set_cons_succ, i64_w, i32_w]
        rfl
      refine last_ (i := 11) (N := none) #[true, true, true, true, true, true, true, true, true, true, true, true] rfl rfl (by kernel_rfl) (by decide) (fun K hK => ?_)
      refine skip_ (w1 := ?_) (by rfl) rfl ?_ ?_
      rotate_left
      · go_simp
        rfl
      refine hK.out _ _ ?_
      clear hK K
      refine done_ (by kernel_rfl) ?_
      clear z0 z1 fz4 fz2 fz3 zp4 zp2 zp3 zq4 zq2 zq3 fq4 fq2 fq3
      have h8 := HD.out.last (1 + 1) v stp t
      obtain ⟨W8, hW8⟩ : ∃ W8, W8 = (((w5.setCell ⟨p, 4, none⟩ (.int .u64 stp)).setCell ⟨p, 2, none⟩ (.int .i64 t)).setCell ⟨p, 3, none⟩ (.int .u64 (v : Nat))).drew := ⟨_, rfl⟩
      have hb8 := blk_put (blk_put (blk_put HD.out.blk 4 (.int .u64 stp) rfl) 2 (.int .i64 t) rfl) 3 (.int .u64 (v : Nat)) rfl
      have HS8 : Hid (w.heap.size ≤ W8.heap.size) := Lib.hid (by rw [hW8]; simp only [World.setCell, Array.size_modify, Array.size_setIfInBounds, World.drew]; exact HSZ5.out)
      rw [← hW8]
      change Pk w0 (((((w5.setCell ⟨p, 4, none⟩ (.int .u64 stp)).setCell ⟨p, 2, none⟩ (.int .i64 t)).setCell ⟨p, 3, none⟩ (.int .u64 (v : Nat))).drew).setCell ⟨p, 1, none⟩ (.int .i64 ((1 + 1 : Nat)))) _ p g _ _ at h8
      rw [← hW8] at h8
      have q8 : W8.cell? ⟨p, 1, none⟩ = some (.int .i64 (1 : Nat)) := by rw [hW8]; exact (blk_cell hb8 1).trans rfl
      have f8 : W8.frozen? ⟨p, 1, none⟩ = false := by rw [hW8]; exact blk_frozen hb8 1
      have H8 := Lib.hid h8
      clear h8 hb8 hW8
      go_wp2_with fail
      go_end0
      refine ⟨rfl, ?_⟩
      have h9 := H8.out.back H.out (fun k hk => hk.1) (by simpa [World.setCell] using HS8.out)
      rw [HYS.out, List.append_assoc, HXV.out, HSTP.out] at h9
      unfold addB
      rw [if_neg (show ¬ (1 : Nat) = 0 by decide), if_pos rfl]
      exact h9
    · have n1 : ((sn : Int) == 0) = false := beq_false_of_ne (by omega)
      have n2 : ((sn : Int) == 1) = false := beq_false_of_ne (by omega)
      have hdw := wrap64_bd ((stp : Int) - sstep)
      obtain ⟨dd, hdd⟩ : ∃ dd, dd = wrap64 ((stp : Int) - sstep) := ⟨_, rfl⟩
      have hd1 : wrap64 (IntKind.u64.wrap ((stp : Int) - (sstep : Int))) = dd := by rw [hdd]; exact s_sub' _
      have hd2 : IntKind.i64.wrap (IntKind.u64.wrap ((stp : Int) - (sstep : Int))) = dd := by rw [← hd1, IntKind.wrap_i64]; unfold wrap64; omega
      have HDD := Lib.hid hdd
      rw [← hdd] at hdw
      clear hdd
      go_enter Tryd.func46, Tryd.ntmps46
      go_upto_region 1 with fail
      rw [← HW1.out.1, ← HW1.out.2]
      clear HW1
      go_quiet (fail)
      obtain ⟨W2, hW2⟩ : ∃ W2, W2 = W1.drewN nq := ⟨_, rfl⟩
      rw [← hW2]
      have H2 : Hid (Pk w0 W2 (fun k => ok k ∧ k ≠ bx) p g bs ⟨sn, st, sv, sstep, sw⟩) := Lib.hid (by rw [hW2]; exact H1.out.drewN _)
      have HX2 : Hid (W2.heap[bx]? = some (.cells #[.int .i64 t, .int .u64 (v : Nat)] 39 (0, 0))) := Lib.hid (by rw [hW2]; exact HX1.out)
      have HSZ2 : Hid (w.heap.size ≤ W2.heap.size) := Lib.hid (by rw [hW2]; exact HSZ.out)
      clear hW2 hp1 hx0 H1 HX1 HSZ
      have q1 : W2.cell? ⟨p, 1, none⟩ = some (.int .i64 (sn : Nat)) := (blk_cell H2.out.blk 1).trans rfl
      have q4 : W2.cell? ⟨p, 4, none⟩ = some (.int .u64 (sstep : Nat)) := (blk_cell H2.out.blk 4).trans rfl
      have qx0 : W2.cell? ⟨bx, 0, none⟩ = some (.int .i64 t) := (blk_cell HX2.out 0).trans rfl
      go_upto_region 4 with (go_at_call 66; refine (change_calls w0 W2 _ p g bs _ dd hdw H2.out (by omega)).mono ?_; rintro e w4 ⟨rfl, h4, m4⟩; have H4 := Lib.hid h4; have M4 := Lib.hid m4; clear h4 m4)
      have HX4 : Hid (w4.heap[bx]? = some (.cells #[.int .i64 t, .int .u64 (v : Nat)] 39 (0, 0))) := Lib.hid (M4.out.blk HX2.out (fun hk => hk.2 rfl))
      have HD4 := Lib.hid (H4.out.drewN 1)
      have hdr : w4.drewN 1 = w4.drew := rfl
      rw [hdr] at HD4
      clear hdr q1 q4 qx0
      have y0 : w4.drew.cell? ⟨p, 3, none⟩ = some (.int .u64 (sv : Nat)) := (blk_cell HD4.out.blk 3).trans rfl
      have y1 : w4.drew.cell? ⟨bx, 1, none⟩ = some (.int .u64 (v : Nat)) := (blk_cell HX4.out 1).trans rfl
      refine start_ (n := 11) (S := fun w' => w'.cell? ⟨p, 3, none⟩ = some (.int .u64 (sv : Nat)) ∧ w'.cell? ⟨bx, 1, none⟩ = some (.int .u64 (v : Nat))) (ds := [10]) #[false, false, false, false, false, false, false, false, false, false, false] (by kernel_rfl) rfl rfl ⟨y0, y1⟩ (fun hHeld => ?_)
      refine pure_ (i := 0) (N := some 31) (v := ?_) (a' := ?_) #[true, false, false, false, false, false, false, false, false, false, false] rfl rfl (by kernel_rfl) (fun _ _ _ h => h) (Or.inl ⟨by rfl, ?_⟩) ?_ ?_
      rotate_left
      · intro w'
        go_simp
        with_reducible rfl
      rotate_left
      · simp only [Act.put, List.setIfInBounds_toArray, List.set_cons_zero, List.set_cons_succ, i64_w, i32_w]
        rfl
      refine pure_ (i := 1) (N := some 32) (v := ?_) (a' := ?_) #[true, true, false, false, false, false, false, false, false, false, false] rfl rfl (by kernel_rfl) (fun _ _ _ h => h) (Or.inl ⟨by rfl, ?_⟩) ?_ ?_
      rotate_left
      · intro w'
        go_simp
        with_reducible rfl
      rotate_left
      · simp only [Act.put, List.setIfInBounds_toArray, List.set_cons_zero, List.set_cons_succ, i64_w, i32_w]
        rfl
      refine pure_ (i := 3) (N := some 34) (v := ?_) (a' := ?_) #[true, true, false, true, false, false, false, false, false, false, false] rfl rfl (by kernel_rfl) (fun _ _ _ h => h) (Or.inl ⟨by rfl, ?_⟩) ?_ ?_
      rotate_left
      · intro w'
        go_simp
        with_reducible rfl
      rotate_left
      · simp only [Act.put, List.setIfInBounds_toArray, List.set_cons_zero, List.set_cons_succ, i64_w, i32_w]
        rfl
      refine pure_ (i := 4) (N := some 35) (v := ?_) (a' := ?_) #[true, true, false, true, true, false, false, false, false, false, false] rfl rfl (by kernel_rfl) (fun _ _ _ h => h) (Or.inl ⟨by rfl, ?_⟩) ?_ ?_
      rotate_left
      · intro w'
        go_simp
        with_reducible rfl
      rotate_left
      · simp only [Act.put, List.setIfInBounds_toArray, List.set_cons_zero, List.set_cons_succ, i64_w, i32_w]
        rfl
      refine pure_ (i := 5) (N := some 36) (v := ?_) (a' := ?_) #[true, true, false, true, true, true, false, false, false, false, false] rfl rfl (by kernel_rfl) (fun _ _ _ h => h) (Or.inl ⟨by rfl, ?_⟩) ?_ ?_
      rotate_left
      · intro w'
        go_simp
        with_reducible rfl
      rotate_left
      · simp only [Act.put, List.setIfInBounds_toArray, List.set_cons_zero, List.set_cons_succ, i64_w, i32_w]
        rfl
      refine pure_ (i := 6) (N := some 37) (v := ?_) (a' := ?_) #[true, true, false, true, true, true, true, false, false, false, false] rfl rfl (by kernel_rfl) (fun _ _ _ h => h) (Or.inl ⟨by rfl, ?_⟩) ?_ ?_
      rotate_left
      · intro w'
        go_simp
        with_reducible rfl
      rotate_left
      · simp only [Act.put, List.setIfInBounds_toArray, List.set_cons_zero, List.set_cons_succ, i64_w, i32_w]
        rfl
      refine pure_ (i := 7) (N := some 38) (v := ?_) (a' := ?_) #[true, true, false, true, true, true, true, true, false, false, false] rfl rfl (by kernel_rfl) (fun _ _ _ h => h) (Or.inl ⟨by rfl, ?_⟩) ?_ ?_
      rotate_left
      · intro w'
        go_simp
        with_reducible rfl
      rotate_left
      · simp only [Act.put, List.setIfInBounds_toArray, List.set_cons_zero, List.set_cons_succ, i64_w, i32_w]
        rfl
      refine take_ (i := 2) (N := some 33) (v := ?_) (a' := ?_) #[true, true, true, true, true, true, true, true, false, false, false] rfl rfl (by kernel_rfl) (fun _ _ _ h => h) (Or.inl ⟨by rfl, ?_⟩) hHeld ?_ ?_
      rotate_left
      · rintro w' ⟨s0, s1⟩
        go_simp
        with_reducible rfl
      rotate_left
      · simp only [Act.put, List.setIfInBounds_toArray, List.set_cons_zero, List.set_cons_succ, i64_w, i32_w]
        rfl
      refine take_ (i := 8) (N := some 39) (v := ?_) (a' := ?_) #[true, true, true, true, true, true, true, true, true, false, false] rfl rfl (by kernel_rfl) (fun _ _ _ h => h) (Or.inl ⟨by rfl, ?_⟩) hHeld ?_ ?_
      rotate_left
      · rintro w' ⟨s0, s1⟩
        go_simp
        with_reducible rfl
      rotate_left
      · simp only [Act.put, List.setIfInBounds_toArray, List.set_cons_zero, List.set_cons_succ, i64_w, i32_w]
        rfl
      refine pure_ (i := 9) (N := some 40) (v := ?_) (a' := ?_) #[true, true, true, true, true, true, true, true, true, true, false] rfl rfl (by kernel_rfl) (fun _ _ _ h => h) (Or.inl ⟨by rfl, ?_⟩) ?_ ?_
      rotate_left
      · intro w'
        go_simp
        with_reducible rfl
      rotate_left
      · simp only [Act.put, List.setIfInBounds_toArray, List.set_cons_zero, List.set_cons_succ, i64_w, i32_w]
        rfl
      refine last_ (i := 10) (N := some 41) #[true, true, true, true, true, true, true, true, true, true, true] rfl rfl (by kernel_rfl) (by decide) (fun K hK => ?_)
      refine goes_ Tryd.func65 (by kernel_rfl) rfl #[.pointer (some ⟨p, 0, none⟩), .int .u64 xv] (by rfl) rfl rfl (by simp only [List.map_toArray, List.map_cons, List.map_nil]; rfl) ?_
      with_reducible refine (turn_calls w0 w4.drew _ p g _ _ xv hxl HT.out HOK.out HD4.out (by simp only [List.length_append, bytesB_length]; have := change_len dd; omega)).mono ?_
      rintro e w5 ⟨rfl, h5, m5⟩
      refine ⟨_, rfl, ?_⟩
      have H5 := Lib.hid h5
      have M5 := Lib.hid m5
      clear h5 m5
      refine hK.out _ _ ?_
      clear hK K
      refine norm_ (a' := ?_) ?_ ?_
      rotate_left
      · show Act.put _ (some 41) _ = _
        simp only [Act.put, List.setIfInBounds_toArray, List.set_cons_zero, List.set_cons_succ, i64_w, i32_w]
        rfl
      refine done_ (by kernel_rfl) ?_
      clear y0 y1
      have HX5 : Hid (w5.heap[bx]? = some (.cells #[.int .i64 t, .int .u64 (v : Nat)] 39 (0, 0))) := Lib.hid (M5.out.blk (w := w4.drew) HX4.out (fun hk => hk.elim (fun h => h.2 rfl) hnp))
      have HSZ5 : Hid (w.heap.size ≤ w5.heap.size) := Lib.hid (Nat.le_trans HSZ2.out (Nat.le_trans M4.out.size M5.out.size))
      have HD := Lib.hid (H5.out.drewN 1)
      have hdr : w5.drewN 1 = w5.drew := rfl
      rw [hdr] at HD
      clear hdr
      have HXD : Hid (w5.drew.heap[bx]? = some (.cells #[.int .i64 t, .int .u64 (v : Nat)] 39 (0, 0))) := Lib.hid HX5.out
      have z0 : w5.drew.cell? ⟨bx, 0, none⟩ = some (.int .i64 t) := (blk_cell HXD.out 0).trans rfl
      have z1 : w5.drew.cell? ⟨bx, 1, none⟩ = some (.int .u64 (v : Nat)) := (blk_cell HXD.out 1).trans rfl
      obtain ⟨u4, zp4⟩ : ∃ u4, w5.drew.cell? ⟨p, 4, none⟩ = some u4 := ⟨_, (blk_cell HD.out.blk 4).trans rfl⟩
      obtain ⟨u2, zp2⟩ : ∃ u2, w5.drew.cell? ⟨p, 2, none⟩ = some u2 := ⟨_, (blk_cell HD.out.blk 2).trans rfl⟩
      obtain ⟨u3, zp3⟩ : ∃ u3, w5.drew.cell? ⟨p, 3, none⟩ = some u3 := ⟨_, (blk_cell HD.out.blk 3).trans rfl⟩
      have fz4 := blk_frozen HD.out.blk 4
      have fz2 := blk_frozen HD.out.blk 2
      have fz3 := blk_frozen HD.out.blk 3
      have zq4 : w5.cell? ⟨p, 4, none⟩ = some u4 := zp4
      have fq4 : w5.frozen? ⟨p, 4, none⟩ = false := fz4
      have zq2 : w5.cell? ⟨p, 2, none⟩ = some u2 := zp2
      have fq2 : w5.frozen? ⟨p, 2, none⟩ = false := fz2
      have zq3 : w5.cell? ⟨p, 3, none⟩ = some u3 := zp3
      have fq3 : w5.frozen? ⟨p, 3, none⟩ = false := fz3
      go_upto_region 12 with fail
      refine start_ (n := 12) (S := fun w' => w'.cell? ⟨bx, 0, none⟩ = some (.int .i64 t) ∧ w'.cell? ⟨bx, 1, none⟩ = some (.int .u64 (v : Nat))) (ds := [11]) #[false, false, false, false, false, false, false, false, false, false, false, false] (by kernel_rfl) rfl rfl ⟨z0, z1⟩ (fun hHeld => ?_)
      refine pure_ (i := 0) (N := some 73) (v := ?_) (a' := ?_) #[true, false, false, false, false, false, false, false, false, false, false, false] rfl rfl (by kernel_rfl) (fun _ _ _ h => h) (Or.inl ⟨by rfl, ?_⟩) ?_ ?_
      rotate_left
      · intro w'
        go_simp
        with_reducible rfl
      rotate_left
      · simp only [Act.put, List.setIfInBounds_toArray, List.set_cons_zero, List.set_cons_succ, i64_w, i32_w]
        rfl
      refine pure_ (i := 1) (N := some 74) (v := ?_) (a' := ?_) #[true, true, false, false, false, false, false, false, false, false, false, false] rfl rfl (by kernel_rfl) (fun _ _ _ h => h) (Or.inl ⟨by rfl, ?_⟩) ?_ ?_
      rotate_left
      · intro w'
        go_simp
        with_reducible rfl
      rotate_left
      · simp only [Act.put, List.setIfInBounds_toArray, List.set_cons_zero, List.set_cons_succ, i64_w, i32_w]
        rfl
      refine pure_ (i := 2) (N := some 75) (v := ?_) (a' := ?_) #[true, true, true, false, false, false, false, false, false, false, false, false] rfl rfl (by kernel_rfl) (fun _ _ _ h => h) (Or.inl ⟨by rfl, ?_⟩) ?_ ?_
      rotate_left
      · intro w'
        go_simp
        with_reducible rfl
      rotate_left
      · simp only [Act.put, List.setIfInBounds_toArray, List.set_cons_zero, List.set_cons_succ, i64_w, i32_w]
        rfl
      refine pure_ (i := 4) (N := some 77) (v := ?_) (a' := ?_) #[true, true, true, false, true, false, false, false, false, false, false, false] rfl rfl (by kernel_rfl) (fun _ _ _ h => h) (Or.inl ⟨by rfl, ?_⟩) ?_ ?_
      rotate_left
      · intro w'
        go_simp
        with_reducible rfl
      rotate_left
      · simp only [Act.put, List.setIfInBounds_toArray, List.set_cons_zero, List.set_cons_succ, i64_w, i32_w]
        rfl
      refine pure_ (i := 5) (N := some 78) (v := ?_) (a' := ?_) #[true, true, true, false, true, true, false, false, false, false, false, false] rfl rfl (by kernel_rfl) (fun _ _ _ h => h) (Or.inl ⟨by rfl, ?_⟩) ?_ ?_
      rotate_left
      · intro w'
        go_simp
        with_reducible rfl
      rotate_left
      · simp only [Act.put, List.setIfInBounds_toArray, List.set_cons_zero, List.set_cons_succ, i64_w, i32_w]
        rfl
      refine pure_ (i := 6) (N := some 79) (v := ?_) (a' := ?_) #[true, true, true, false, true, true, true, false, false, false, false, false] rfl rfl (by kernel_rfl) (fun _ _ _ h => h) (Or.inl ⟨by rfl, ?_⟩) ?_ ?_
      rotate_left
      · intro w'
        go_simp
        with_reducible rfl
      rotate_left
      · simp only [Act.put, List.setIfInBounds_toArray, List.set_cons_zero, List.set_cons_succ, i64_w, i32_w]
        rfl
      refine take_ (i := 3) (N := some 76) (v := ?_) (a' := ?_) #[true, true, true, true, true, true, true, false, false, false, false, false] rfl rfl (by kernel_rfl) (fun _ _ _ h => h) (Or.inl ⟨by rfl, ?_⟩) hHeld ?_ ?_
      rotate_left
      · rintro w' ⟨s0, s1⟩
        go_simp
        with_reducible rfl
      rotate_left
      · simp only [Act.put, List.setIfInBounds_toArray, List.set_cons_zero, List.set_cons_succ, i64_w, i32_w]
        rfl
      refine one_ (i := 7) (N := none) #[true, true, true, true, true, true, true, true, false, false, false, false] rfl rfl (by kernel_rfl) (by decide) (fun K hK => ?_)
      refine skip_ (w1 := ?_) (by rfl) rfl ?_ ?_
      rotate_left
      · go_simp
        rfl
      have hb7 := blk_far (p := ⟨p, 4, none⟩) HXD.out hnp (.int .u64 stp)
      have hc70 := (blk_cell hb7 0).trans rfl
      have hc71 := (blk_cell hb7 1).trans rfl
      refine hK.out _ _ ⟨hc70, hc71⟩ (fun hHeld => ?_)
      clear hK K
      refine pure_ (i := 8) (N := some 80) (v := ?_) (a' := ?_) #[true, true, true, true, true, true, true, true, true, false, false, false] rfl rfl (by kernel_rfl) (fun _ _ _ h => h) (Or.inl ⟨by rfl, ?_⟩) ?_ ?_
      rotate_left
      · intro w'
        go_simp
        with_reducible rfl
      rotate_left
      · simp only [Act.put, List.setIfInBounds_toArray, List.set_cons_zero, List.set_cons_succ, i64_w, i32_w]
        rfl
      refine pure_ (i := 9) (N := some 81) (v := ?_) (a' := ?_) #[true, true, true, true, true, true, true, true, true, true, false, false] rfl rfl (by kernel_rfl) (fun _ _ _ h => h) (Or.inl ⟨by rfl, ?_⟩) ?_ ?_
      rotate_left
      · intro w'
        go_simp
        with_reducible rfl
      rotate_left
      · simp only [Act.put, List.setIfInBounds_toArray, List.set_cons_zero, List.set_cons_succ, i64_w, i32_w]
        rfl
      refine pure_ (i := 10) (N := some 82) (v := ?_) (a' := ?_) #[true, true, true, true, true, true, true, true, true, true, true, false] rfl rfl (by kernel_rfl) (fun _ _ _ h => h) (Or.inl ⟨by rfl, ?_⟩) ?_ ?_
      rotate_left
      · intro w'
        go_simp
        with_reducible rfl
      rotate_left
      · simp only [Act.put, List.setIfInBounds_toArray, List.set_cons_zero, List.set_cons_succ, i64_w, i32_w]
        rfl
      refine last_ (i := 11) (N := none) #[true, true, true, true, true, true, true, true, true, true, true, true] rfl rfl (by kernel_rfl) (by decide) (fun K hK => ?_)
      refine skip_ (w1 := ?_) (by rfl) rfl ?_ ?_
      rotate_left
      · go_simp
        rfl
      refine hK.out _ _ ?_
      clear hK K
      refine done_ (by kernel_rfl) ?_
      clear z0 z1 fz4 fz2 fz3 zp4 zp2 zp3 zq4 zq2 zq3 fq4 fq2 fq3
      have h8 := HD.out.last (sn + 1) v stp t
      obtain ⟨W8, hW8⟩ : ∃ W8, W8 = (((w5.setCell ⟨p, 4, none⟩ (.int .u64 stp)).setCell ⟨p, 2, none⟩ (.int .i64 t)).setCell ⟨p, 3, none⟩ (.int .u64 (v : Nat))).drew := ⟨_, rfl⟩
      have hb8 := blk_put (blk_put (blk_put HD.out.blk 4 (.int .u64 stp) rfl) 2 (.int .i64 t) rfl) 3 (.int .u64 (v : Nat)) rfl
      have HS8 : Hid (w.heap.size ≤ W8.heap.size) := Lib.hid (by rw [hW8]; simp only [World.setCell, Array.size_modify, Array.size_setIfInBounds, World.drew]; exact HSZ5.out)
      rw [← hW8]
      change Pk w0 (((((w5.setCell ⟨p, 4, none⟩ (.int .u64 stp)).setCell ⟨p, 2, none⟩ (.int .i64 t)).setCell ⟨p, 3, none⟩ (.int .u64 (v : Nat))).drew).setCell ⟨p, 1, none⟩ (.int .i64 ((sn + 1 : Nat)))) _ p g _ _ at h8
      rw [← hW8] at h8
      have q8 : W8.cell? ⟨p, 1, none⟩ = some (.int .i64 (sn : Nat)) := by rw [hW8]; exact (blk_cell hb8 1).trans rfl
      have f8 : W8.frozen? ⟨p, 1, none⟩ = false := by rw [hW8]; exact blk_frozen hb8 1
      have H8 := Lib.hid h8
      clear h8 hb8 hW8
      go_wp2_with fail
      go_end0
      refine ⟨rfl, ?_⟩
      have h9 := H8.out.back H.out (fun k hk => hk.1) (by simpa [World.setCell] using HS8.out)
      rw [HDD.out, List.append_assoc, HXV.out, HSTP.out] at h9
      unfold addB
      rw [if_neg c1, if_neg c2]
      exact h9
end Go.Proofs.YtmllgglcdlcdhaaDoor
