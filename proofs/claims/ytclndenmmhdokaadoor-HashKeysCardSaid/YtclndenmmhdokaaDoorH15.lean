/- The document's block. -/
import Derived.Test.YtclndenmmhdokaaDoorH14
namespace Go.Proofs.YtclndenmmhdokaaDoor
open Go Go.RowKit Go.Proofs.YtclndenmmhdokaaDoorW.PrintWords Go.Proofs.YtclndenmmhdokaaDoorW.PrintMore Go.Proofs.YtclndenmmhdokaaDoorW.PrintLast Bq
set_option linter.unusedVariables false
set_option linter.unusedSimpArgs false
attribute [local go_sem ↓] Go.wp_at_zero Go.wp_at_succ
/-- 64 words, all 0, new. -/
def z64 : Obj := .cells (nums .u32 (List.replicate 64 0)).toArray 77
section
variable {ops : Array Oper} {rest : List Oper} {o : Oper} {a : Act} {w : World} {Q : Exit → Act → World → Prop}
theorem wl_alloc64 (hgd : o.guard = none) (ho : o.op = .alloc 77)
    (h : wpList Tryd.prog ops Q rest (a.put o.dst (.pointer (some ⟨w.heap.size, 0, none⟩))) (w.alloc z64)) : wpList Tryd.prog ops Q (o :: rest) a w := by
  refine wpList_plain hgd fun K hK => ?_
  unfold Oper.wp
  unfold execOp
  rw [ho]
  go_simp
  exact hK _ _ h
end
theorem z64_k (w : World) : Blk ((w.alloc z64).alloc z64) w.heap.size .u32 77 (List.replicate 64 0) := blk_alloc (blk_new w _) _
theorem z64_w (w : World) : Blk ((w.alloc z64).alloc z64) (w.alloc z64).heap.size .u32 77 (List.replicate 64 0) := blk_new (w.alloc z64) _
theorem z64_ne (w : World) : (w.alloc z64).heap.size ≠ w.heap.size := by rw [World.size_alloc]; omega
/-- The document's block's variables. -/
structure Bst (w wr : World) (kb vb : Nat) (sl vl W : List Int) : Prop where
  s : Blk wr w.heap.size .u32 44 sl
  r : Blk wr (w.heap.size + 1) .u32 44 (List.replicate 8 0)
  k : Blk wr kb .u32 77 Sha.K
  ww : Blk wr (kb + 1) .u32 77 W
  v : Blk wr vb .u32 44 vl
  b : Below w.heap.size w wr
  hk : w.heap.size + 2 ≤ kb
  hv : kb + 2 ≤ vb
theorem Bst.drew {w wr : World} {kb vb : Nat} {sl vl W : List Int} (h : Bst w wr kb vb sl vl W) : Bst w wr.drew kb vb sl vl W := ⟨h.s, h.r, h.k, h.ww, h.v, h.b.drew, h.hk, h.hv⟩
theorem Bst.put {w wr : World} {kb vb : Nat} {sl W : List Int} {st : Sha.V8} (h : Bst w wr kb vb sl st.list W) (V : Sha.V8) : Bst w (put8A wr vb V) kb vb sl V.list W := by
  have h1 := h.hk
  have h2 := h.hv
  have hb : Below w.heap.size w (put8A wr vb V) := by
    have hg : w.heap.size ≤ vb := by omega
    exact ((((((((h.b.setCell (p := ⟨vb, 0, none⟩) hg _).setCell (p := ⟨vb, 1, none⟩) hg _).setCell (p := ⟨vb, 2, none⟩) hg _).setCell (p := ⟨vb, 3, none⟩) hg _).setCell (p := ⟨vb, 4, none⟩) hg _).setCell (p := ⟨vb, 5, none⟩) hg _).setCell (p := ⟨vb, 6, none⟩) hg _).setCell (p := ⟨vb, 7, none⟩) hg _)
  exact ⟨(put8A_far (by omega)).trans h.s, (put8A_far (by omega)).trans h.r, (put8A_far (by omega)).trans h.k, (put8A_far (by omega)).trans h.ww, put8A_blk h.v, hb, h1, h2⟩
theorem Bst.put8 {w wr : World} {kb vb : Nat} {sl W : List Int} {st : Sha.V8} (h : Bst w wr kb vb sl st.list W) (V : Sha.V8) {x0 x1 x2 x3 x4 x5 x6 x7 : Int} (e0 : x0 = V.a) (e1 : x1 = V.b) (e2 : x2 = V.c) (e3 : x3 = V.d) (e4 : x4 = V.e) (e5 : x5 = V.f) (e6 : x6 = V.g) (e7 : x7 = V.h) :
    Bst w ((((((((wr.setCell ⟨vb, 0, none⟩ (.int .u32 x0)).setCell ⟨vb, 1, none⟩ (.int .u32 x1)).setCell ⟨vb, 2, none⟩ (.int .u32 x2)).setCell ⟨vb, 3, none⟩ (.int .u32 x3)).setCell ⟨vb, 4, none⟩ (.int .u32 x4)).setCell ⟨vb, 5, none⟩ (.int .u32 x5)).setCell ⟨vb, 6, none⟩ (.int .u32 x6)).setCell ⟨vb, 7, none⟩ (.int .u32 x7)) kb vb sl V.list W := by
  subst e0 e1 e2 e3 e4 e5 e6 e7
  exact h.put V
theorem Bst.sput {w wr : World} {kb vb : Nat} {sl sl' vl W : List Int} (h : Bst w wr kb vb sl vl W) (i : Nat) (x : Int) (e : sl.set i x = sl') : Bst w (wr.setCell ⟨w.heap.size, i, none⟩ (.int .u32 x)) kb vb sl' vl W := by
  have h1 := h.hk
  have h2 := h.hv
  exact ⟨Blk.cast (Blk.put h.s i x) e, Blk.other h.r (by omega), Blk.other h.k (by omega), Blk.other h.ww (by omega), Blk.other h.v (by omega), h.b.setCell (p := ⟨w.heap.size, i, none⟩) (Nat.le_refl _) _, h1, h2⟩

set_option maxRecDepth 20000 in
set_option maxHeartbeats 4000000 in
theorem rblock_calls (w : World) (v : Sha.V8) (A : Option Addr) (m c : Nat) (xs : List Int) (hC : (Kd.int .u8).C w A m xs) (hm : 64 ≤ m) (hmc : m ≤ c) (hb : Byts xs) :
    Calls Tryd.prog 37 #[aggV v, .slice A m c] w fun e w' => e = .returned (aggV (Sha.block v xs)) ∧ Below w.heap.size w w' := by
  have HC := Lib.hid hC
  have HB := Lib.hid hb
  have hmx : xs.length = m := hC.1
  obtain ⟨W, hW⟩ : ∃ W, W = Sha.sched (Sha.wordsOf xs) 48 := ⟨_, rfl⟩
  have hWl : W.length = 64 := by rw [hW]; exact Sha.sched_length _ (Sha.wordsOf_length xs) 48
  have HW := Lib.hid hW
  have HWL := Lib.hid hWl
  clear hC hb hW hWl
  unfold aggV
  go_enter Tryd.func37, Tryd.ntmps37
  go_upto_region 1 with fail
  obtain ⟨w2, hw2⟩ : ∃ w2, w2 = ((w.alloc (.cells (nums .u32 v.list).toArray 44)).alloc (.cells (nums .u32 (List.replicate 8 0)).toArray 44)) := ⟨_, rfl⟩
  have k0 : Blk w2 w.heap.size .u32 44 v.list := by rw [hw2]; exact blk_alloc (blk_new w _) _
  have k1 : Blk w2 (w.heap.size + 1) .u32 44 (List.replicate 8 0) := by
    rw [hw2]
    have h := blk_new (w.alloc (.cells (nums .u32 v.list).toArray 44)) (.cells (nums .u32 (List.replicate 8 0)).toArray 44)
    rw [World.size_alloc] at h
    exact h
  have kb : Below w.heap.size w w2 := by rw [hw2]; exact ((Below.refl _ w).alloc (Nat.le_refl _) _).alloc (by simp) _
  change Code.wp _ _ _ _ ((w.alloc (.cells (nums .u32 v.list).toArray 44)).alloc (.cells (nums .u32 (List.replicate 8 0)).toArray 44))
  rw [← hw2]
  have K0 := Lib.hid k0
  have K1 := Lib.hid k1
  have KB := Lib.hid kb
  have hs2 := blk_lt k1
  clear hw2 k0 k1 kb
  have hKl : (nums .u32 Sha.K).toArray.size = 64 := rfl
  have hWs : (nums .u32 W).toArray.size = 64 := by rw [List.size_toArray, nums_length, HWL.out]
  have e64 : (Tryd.prog.info? 77).map (·.size) = some 64 := by kernel_rfl
  have SZK : Hid ((Tryd.prog.info? 77).map (·.size) = some (nums .u32 Sha.K).toArray.size) := Lib.hid (by rw [hKl]; exact e64)
  have SZW : Hid ((Tryd.prog.info? 77).map (·.size) = some (nums .u32 W).toArray.size) := Lib.hid (by rw [hWs]; exact e64)
  have TH1 : Hid (∀ W4 : World, ((W4.alloc z64).alloc z64).there W4.heap.size 0 (nums .u32 Sha.K).toArray.size) := Lib.hid (fun W4 => by rw [hKl]; exact (z64_k W4).there)
  have TH2 : Hid (∀ W4 : World, (putA ((W4.alloc z64).alloc z64) W4.heap.size .u32 Sha.K).there (W4.alloc z64).heap.size 0 (nums .u32 W).toArray.size) := Lib.hid (fun W4 => by
    rw [hWs]
    have h : Blk (putA ((W4.alloc z64).alloc z64) W4.heap.size .u32 Sha.K) (W4.alloc z64).heap.size .u32 77 (List.replicate 64 0) := (putA_far (z64_ne W4)).trans (z64_w W4)
    exact h.there)
  clear hKl hWs e64
  go_upto_region 2 with (first | (go_at_call 59; refine (table_calls w2).mono ?_; rintro e w3 ⟨rfl, hB3⟩; have HB3 := Lib.hid hB3; have hs3 := hB3.size; have hwd := words_calls w3 A m c xs (Kd.C_below HC.out (KB.out.trans (below_lower hB3 (by omega)))) hm hmc HB.out; rw [← HW.out] at hwd; have HWD := Lib.hid hwd; clear hB3 hwd) | (go_at_call 60; refine HWD.out.mono ?_; rintro e w4 ⟨rfl, hB4⟩; have HB4 := Lib.hid hB4; have hs4 := hB4.size; clear hB4; apply_assumption; refine wl_alloc64 rfl rfl ?_; refine wl_alloc64 rfl rfl ?_; refine wpList_store_mid rfl _ _ _ rfl w4.heap.size 0 (nums .u32 Sha.K).toArray rfl rfl (TH1.out w4) SZK.out (all_oneCell_toArray (nums_one .u32 Sha.K)) ?_; refine wpList_store_mid rfl _ _ _ rfl (w4.alloc z64).heap.size 0 (nums .u32 W).toArray rfl rfl (TH2.out w4) SZW.out (all_oneCell_toArray (nums_one .u32 W)) ?_; change wpList _ _ _ _ _ (putA (putA ((w4.alloc z64).alloc z64) w4.heap.size .u32 Sha.K) (w4.alloc z64).heap.size .u32 W)))
  simp only [Act.put, List.setIfInBounds_toArray, List.set_cons_zero, List.set_cons_succ]
  have hkb : (w4.alloc z64).heap.size = w4.heap.size + 1 := World.size_alloc _ _
  rw [hkb]
  obtain ⟨w5, hw5⟩ : ∃ w5, w5 = putA (putA ((w4.alloc z64).alloc z64) w4.heap.size .u32 Sha.K) (w4.heap.size + 1) .u32 W := ⟨_, rfl⟩
  have p1 : Blk w5 w4.heap.size .u32 77 Sha.K := by
    rw [hw5]
    exact (putA_far (by omega)).trans ((z64_k w4).putA (k' := .u32) (ys := Sha.K) rfl)
  have p2 : Blk w5 (w4.heap.size + 1) .u32 77 W := by
    have h := z64_w w4
    rw [hkb] at h
    have h2 : Blk (putA ((w4.alloc z64).alloc z64) w4.heap.size .u32 Sha.K) (w4.heap.size + 1) .u32 77 (List.replicate 64 0) := (putA_far (by omega)).trans h
    rw [hw5]
    exact h2.putA (k' := .u32) (ys := W) (by rw [HWL.out]; rfl)
  have p3 : Below w4.heap.size w4 w5 := by
    rw [hw5]
    exact putA_below (putA_below (((Below.refl _ w4).alloc (Nat.le_refl _) _).alloc (by rw [World.size_alloc]; omega) _) (Nat.le_refl _)) (Nat.le_succ _)
  have p4 : Below w2.heap.size w2 w5 := (HB3.out.trans (below_lower HB4.out hs3)).trans (below_lower p3 (Nat.le_trans hs3 hs4))
  rw [← hw5]
  have g0 : Blk w5 w.heap.size .u32 44 v.list := (p4.block _ (by omega)).trans K0.out
  have g1 : Blk w5 (w.heap.size + 1) .u32 44 (List.replicate 8 0) := (p4.block _ (by omega)).trans K1.out
  have hs5 := p2.lt
  have hst : Bst w (w5.alloc (.cells (nums .u32 v.list).toArray 44)) w4.heap.size w5.heap.size v.list v.list W := by
    have e := below_alloc (Below.refl w5.heap.size w5) (.cells (nums .u32 v.list).toArray 44)
    exact ⟨blk_alloc g0 _, blk_alloc g1 _, blk_alloc p1 _, blk_alloc p2 _, blk_new w5 _, (KB.out.trans (below_lower p4 (by omega))).trans (below_lower e (by omega)), by omega, by omega⟩
  have a0 := g0.get 0 (by show 0 < 8; decide)
  have a1 := g0.get 1 (by show 1 < 8; decide)
  have a2 := g0.get 2 (by show 2 < 8; decide)
  have a3 := g0.get 3 (by show 3 < 8; decide)
  have a4 := g0.get 4 (by show 4 < 8; decide)
  have a5 := g0.get 5 (by show 5 < 8; decide)
  have a6 := g0.get 6 (by show 6 < 8; decide)
  have a7 := g0.get 7 (by show 7 < 8; decide)
  simp only [Sha.V8.list, List.getD_cons_zero, List.getD_cons_succ] at a0 a1 a2 a3 a4 a5 a6 a7
  have HST := Lib.hid hst
  clear hst g0 g1 p1 p2 p3 p4 hw5
  go_upto_region 3 with fail
  change Code.wp _ _ _ _ (w5.alloc (.cells (nums .u32 v.list).toArray 44))
  clear a0 a1 a2 a3 a4 a5 a6 a7
  obtain ⟨kb, hkb2⟩ : ∃ kb, kb = w4.heap.size := ⟨_, rfl⟩
  obtain ⟨vb, hvb⟩ : ∃ vb, vb = w5.heap.size := ⟨_, rfl⟩
  rw [← hkb2, ← hvb] at HST
  rw [← hkb2, ← hvb]
  clear hkb2 hvb hkb hs5 hs4
  generalize w5.alloc (.cells (nums .u32 v.list).toArray 44) = w6 at HST ⊢
  go_wp2_with fail
  go_loopg [19] 64 (fun kq s19 wr => ∃ i : Nat, i + kq = 64 ∧ s19 = .int .i64 i ∧ Hid (Bst w wr kb vb v.list (Sha.rounds v W i).list W))
  case atStart => exact ⟨0, by omega, rfl, HST.out⟩
  case round =>
    obtain ⟨i, hi, rfl, hK⟩ := hrel
    by_cases hlt : i < 64
    · obtain ⟨st, hst⟩ : ∃ st, st = Sha.rounds v W i := ⟨_, rfl⟩
      rw [← hst] at hK
      have HST2 := Lib.hid hst
      clear hst
      obtain ⟨a, b, cc, d, e, f, gg, hh⟩ := st
      obtain ⟨kk, hkk⟩ : ∃ kk, kk = Sha.K.getD i 0 := ⟨_, rfl⟩
      obtain ⟨ww, hww⟩ : ∃ ww, ww = W.getD i 0 := ⟨_, rfl⟩
      have HKK := Lib.hid hkk
      have HWW := Lib.hid hww
      have li : (i : Int) < 64 := by omega
      have hw32 : ∀ x, IntKind.u32.wrap x = x % 4294967296 := IntKind.wrap_u32
      have CV : Hid (∀ Z, Bst w Z kb vb v.list (Sha.V8.list ⟨a, b, cc, d, e, f, gg, hh⟩) W → (Z.cell? ⟨vb, 0, none⟩ = some (.int .u32 a) ∧ Z.cell? ⟨vb, 1, none⟩ = some (.int .u32 b) ∧ Z.cell? ⟨vb, 2, none⟩ = some (.int .u32 cc) ∧ Z.cell? ⟨vb, 3, none⟩ = some (.int .u32 d)) ∧ (Z.cell? ⟨vb, 4, none⟩ = some (.int .u32 e) ∧ Z.cell? ⟨vb, 5, none⟩ = some (.int .u32 f) ∧ Z.cell? ⟨vb, 6, none⟩ = some (.int .u32 gg) ∧ Z.cell? ⟨vb, 7, none⟩ = some (.int .u32 hh)) ∧ Z.cell? ⟨kb, i, none⟩ = some (.int .u32 kk) ∧ Z.cell? ⟨kb + 1, i, none⟩ = some (.int .u32 ww)) := Lib.hid (fun Z hZ =>
        ⟨⟨hZ.v.get 0 (by show 0 < 8; decide), hZ.v.get 1 (by show 1 < 8; decide), hZ.v.get 2 (by show 2 < 8; decide), hZ.v.get 3 (by show 3 < 8; decide)⟩, ⟨hZ.v.get 4 (by show 4 < 8; decide), hZ.v.get 5 (by show 5 < 8; decide), hZ.v.get 6 (by show 6 < 8; decide), hZ.v.get 7 (by show 7 < 8; decide)⟩, by rw [hkk]; exact hZ.k.get i hlt, by rw [hww]; exact hZ.ww.get i (by rw [HWL.out]; exact hlt)⟩)
      clear hkk hww
      go_upto_region 6 with fail
      have KD := Lib.hid hK.out.drew
      have c4 := (CV.out _ KD.out).2.1.1
      go_region_held3 (fun Z => Z.cell? ⟨vb, 4, none⟩ = some (.int .u32 e)) (first | assumption) (first | (go_at_call 61; refine (rrightZ_calls _ _ _ (by decide)).mono ?_; rintro e w' ⟨rfl, rfl⟩))
      clear c4
      generalize wr.drew = w7 at KD ⊢
      obtain ⟨⟨d0, d1, d2, d3⟩, ⟨d4, d5, d6, d7⟩, dk, dw⟩ := CV.out _ KD.out
      go_upto_region 8 with fail
      have KE := Lib.hid KD.out.drew
      have c0 := (CV.out _ KE.out).1.1
      clear d0 d1 d2 d3 d4 d5 d6 d7 dk dw
      go_region_held3 (fun Z => Z.cell? ⟨vb, 0, none⟩ = some (.int .u32 a)) (first | assumption) (first | (go_at_call 61; refine (rrightZ_calls _ _ _ (by decide)).mono ?_; rintro e w' ⟨rfl, rfl⟩))
      clear c0
      generalize w7.drew = w8 at KE ⊢
      obtain ⟨⟨d0, d1, d2, d3⟩, ⟨d4, d5, d6, d7⟩, dk, dw⟩ := CV.out _ KE.out
      go_upto_region 10 with fail
      have KF := Lib.hid KE.out.drew
      have c7 := (CV.out _ KF.out).2.1.2.2.2
      have ck := (CV.out _ KF.out).2.2.1
      have cw := (CV.out _ KF.out).2.2.2
      clear d0 d1 d2 d3 d4 d5 d6 d7 dk dw
      go_region_held3 (fun Z => Z.cell? ⟨vb, 7, none⟩ = some (.int .u32 hh) ∧ Z.cell? ⟨kb, i, none⟩ = some (.int .u32 kk) ∧ Z.cell? ⟨kb + 1, i, none⟩ = some (.int .u32 ww)) (exact ⟨c7, ck, cw⟩) (fail)
      clear c7 ck cw
      generalize w8.drew = w9 at KF ⊢
      obtain ⟨⟨d0, d1, d2, d3⟩, ⟨d4, d5, d6, d7⟩, dk, dw⟩ := CV.out _ KF.out
      have z0 := KF.out.v.free 0
      have z1 := KF.out.v.free 1
      have z2 := KF.out.v.free 2
      have z3 := KF.out.v.free 3
      have z4 := KF.out.v.free 4
      have z5 := KF.out.v.free 5
      have z6 := KF.out.v.free 6
      have z7 := KF.out.v.free 7
      go_wp2_with fail
      go_roundg (gk - 1)
      case measure => omega
      case rel =>
        have hV : Sha.rounds v W (i + 1) = Sha.rnd ⟨a, b, cc, d, e, f, gg, hh⟩ kk ww := by rw [Sha.rounds, ← HST2.out, ← HKK.out, ← HWW.out]
        refine ⟨i + 1, by omega, by go_num, ?_⟩
        rw [hV]
        refine Bst.put8 KF.out _ ?_ rfl rfl rfl ?_ rfl rfl rfl
        · simp only [Sha.rnd, Sha.t1, Sha.t2, Sha.t3, Sha.add, Sha.x2]
          omega
        · simp only [Sha.rnd, Sha.t1, Sha.t2, Sha.t3, Sha.add, Sha.x2]
          omega
    · have hi64 : i = 64 := by omega
      subst hi64
      obtain ⟨U, hU⟩ : ∃ U, U = Sha.rounds v W 64 := ⟨_, rfl⟩
      rw [← hU] at hK
      obtain ⟨S, hS⟩ : ∃ S, S = Sha.sum8 v U := ⟨_, rfl⟩
      have hSB : S = Sha.block v xs := by rw [hS, hU, HW.out]; rfl
      have HSB := Lib.hid hSB
      have HS := Lib.hid hS
      clear hU hSB hS hlt hi
      have C0 : Hid (Bst w wr kb vb (S.list.take 0 ++ v.list.drop 0) U.list W) := hK
      clear hK
      go_wp2_with fail
      go_loopg [110] 8 (fun kq s110 wr => ∃ k : Nat, k + kq = 8 ∧ s110 = .int .i64 k ∧ Hid (Bst w wr kb vb (S.list.take k ++ v.list.drop k) U.list W))
      case atStart => exact ⟨0, by omega, rfl, C0.out⟩
      case round =>
        obtain ⟨k, hk, rfl, hK⟩ := hrel
        by_cases hlt : k < 8
        · have c0 := hK.out.s.get k (by rw [mix_len _ _ _ rfl rfl (by omega)]; exact hlt)
          rw [mix_get _ _ _ rfl rfl hlt] at c0
          have f0 := hK.out.s.free k
          have c3 := hK.out.v.get k (by show k < 8; exact hlt)
          obtain ⟨x, hx⟩ : ∃ x, x = v.list.getD k 0 := ⟨_, rfl⟩
          obtain ⟨y, hy⟩ : ∃ y, y = U.list.getD k 0 := ⟨_, rfl⟩
          rw [← hx] at c0
          rw [← hy] at c3
          have hsum : (x + y) % 4294967296 = S.list.getD k 0 := by rw [HS.out, sum8_get v U k hlt, hx, hy]
          have HSUM := Lib.hid hsum
          have lk : (k : Int) < 8 := by omega
          have hw32 : ∀ x, IntKind.u32.wrap x = x % 4294967296 := IntKind.wrap_u32
          clear hx hy hsum
          go_upto_region 16 with fail
          go_still_tail 7, (by kernel_rfl)
          change wpList _ _ _ _ _ wr.drew
          go_wp2_with fail
          go_roundg (gk - 1)
          case measure => omega
          case rel =>
            rw [HSUM.out]
            exact ⟨k + 1, by omega, by go_num, hK.out.drew.sput k _ (mix_set _ _ _ rfl rfl hlt)⟩
        · have hk8 : k = 8 := by omega
          subst hk8
          have hS8 : S.list.take 8 ++ v.list.drop 8 = S.list := rfl
          rw [hS8] at hK
          have a0 := hK.out.s.get 0 (by show 0 < 8; decide)
          have a1 := hK.out.s.get 1 (by show 1 < 8; decide)
          have a2 := hK.out.s.get 2 (by show 2 < 8; decide)
          have a3 := hK.out.s.get 3 (by show 3 < 8; decide)
          have a4 := hK.out.s.get 4 (by show 4 < 8; decide)
          have a5 := hK.out.s.get 5 (by show 5 < 8; decide)
          have a6 := hK.out.s.get 6 (by show 6 < 8; decide)
          have a7 := hK.out.s.get 7 (by show 7 < 8; decide)
          simp only [Sha.V8.list, List.getD_cons_zero, List.getD_cons_succ] at a0 a1 a2 a3 a4 a5 a6 a7
          have b0 := hK.out.r.get 0 (by decide)
          have b1 := hK.out.r.get 1 (by decide)
          have b2 := hK.out.r.get 2 (by decide)
          have b3' := hK.out.r.get 3 (by decide)
          have b4 := hK.out.r.get 4 (by decide)
          have b5 := hK.out.r.get 5 (by decide)
          have b6 := hK.out.r.get 6 (by decide)
          have b7 := hK.out.r.get 7 (by decide)
          have z0 := hK.out.r.free 0
          have z1 := hK.out.r.free 1
          have z2 := hK.out.r.free 2
          have z3 := hK.out.r.free 3
          have z4 := hK.out.r.free 4
          have z5 := hK.out.r.free 5
          have z6 := hK.out.r.free 6
          have z7 := hK.out.r.free 7
          go_wp2_with fail
          have hfin := Blk.cast (Blk.put (Blk.put (Blk.put (Blk.put (Blk.put (Blk.put (Blk.put (Blk.put (hK.out.r) 0 S.a) 1 S.b) 2 S.c) 3 S.d) 4 S.e) 5 S.f) 6 S.g) 7 S.h) (show _ = S.list from rfl)
          have hg : w.heap.size ≤ w.heap.size + 1 := Nat.le_succ _
          refine bodyPost_ret (results_cell_row rfl _ _ (w.heap.size + 1) 44 (nums .u32 S.list).toArray (0, 0) _ rfl hfin Tryd.underlying44 rfl (by kernel_rfl)) rfl ⟨?_, ((((((((hK.out.b.setCell (p := ⟨w.heap.size + 1, 0, none⟩) hg _).setCell (p := ⟨w.heap.size + 1, 1, none⟩) hg _).setCell (p := ⟨w.heap.size + 1, 2, none⟩) hg _).setCell (p := ⟨w.heap.size + 1, 3, none⟩) hg _).setCell (p := ⟨w.heap.size + 1, 4, none⟩) hg _).setCell (p := ⟨w.heap.size + 1, 5, none⟩) hg _).setCell (p := ⟨w.heap.size + 1, 6, none⟩) hg _).setCell (p := ⟨w.heap.size + 1, 7, none⟩) hg _)⟩
          rw [← HSB.out]
          rfl
end Go.Proofs.YtclndenmmhdokaaDoor
