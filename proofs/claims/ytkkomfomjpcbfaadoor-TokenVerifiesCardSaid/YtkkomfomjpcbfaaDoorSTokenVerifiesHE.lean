import Derived.Test.YtkkomfomjpcbfaaDoorSTokenVerifiesH14
import Derived.Test.YtkkomfomjpcbfaaDoorSTokenVerifiesHA
import Derived.Test.YtkkomfomjpcbfaaDoorSTokenVerifiesH2r
import Derived.Stop.BytesEq
namespace Go.Proofs.YtkkomfomjpcbfaaDoor.Bq
end Go.Proofs.YtkkomfomjpcbfaaDoor.Bq
set_option linter.unusedVariables false
set_option linter.unusedSimpArgs false
section
namespace Go.Proofs.YtkkomfomjpcbfaaDoor
open Go Go.RowKit Go.Proofs.YtkkomfomjpcbfaaDoorW.PrintWords Go.Proofs.YtkkomfomjpcbfaaDoorW.PrintMore Go.Proofs.YtkkomfomjpcbfaaDoorW.PrintLast Bq
attribute [local go_sem ↓] Go.wp_at_zero Go.wp_at_succ
def z64 : Obj := .cells (nums .u32 (List.replicate 64 0)).toArray 99
section
variable {ops : Array Oper} {rest : List Oper} {o : Oper} {a : Act} {w : World} {Q : Exit → Act → World → Prop}
theorem wl_alloc64 (hgd : o.guard = none) (ho : o.op = .alloc 99)
  (h : wpList Tryd.prog ops Q rest (a.put o.dst (.pointer (some ⟨w.heap.size, 0, none⟩))) (w.alloc z64)) : wpList Tryd.prog ops Q (o :: rest) a w := by
 refine wpList_plain hgd fun K hK => ?_
 unfold Oper.wp
 unfold execOp
 rw [ho]
 go_simp
 exact hK _ _ h
end
theorem z64_k (w : World) : Blk ((w.alloc z64).alloc z64) w.heap.size .u32 99 (List.replicate 64 0) := kd (kC w _) _
theorem z64_w (w : World) : Blk ((w.alloc z64).alloc z64) (w.alloc z64).heap.size .u32 99 (List.replicate 64 0) := kC (w.alloc z64) _
theorem z64_ne (w : World) : (w.alloc z64).heap.size ≠ w.heap.size := by rw [World.size_alloc]; omega
structure Bst (w wr : World) (kb vb : Nat) (sl vl W : List Int) : Prop where
 s : Blk wr w.heap.size .u32 93 sl
 r : Blk wr (w.heap.size + 1) .u32 93 (List.replicate 8 0)
 k : Blk wr kb .u32 99 Sha.K
 ww : Blk wr (kb + 1) .u32 99 W
 v : Blk wr vb .u32 93 vl
 b : Below w.heap.size w wr
 hk : w.heap.size + 2 ≤ kb
 hv : kb + 2 ≤ vb
theorem Bst.drew {w wr : World} {kb vb : Nat} {sl vl W : List Int} (h : Bst w wr kb vb sl vl W) : Bst w wr.drew kb vb sl vl W := ⟨h.s, h.r, h.k, h.ww, h.v, h.b.drew, h.hk, h.hv⟩
theorem Bst.put {w wr : World} {kb vb : Nat} {sl W : List Int} {st : Sha.V8} (h : Bst w wr kb vb sl st.list W) (V : Sha.V8) : Bst w (put8A wr vb V) kb vb sl V.list W := by
 have h1 := h.hk
 have h2 := h.hv
 have hb : Below w.heap.size w (put8A wr vb V) := by
  have hg : w.heap.size ≤ vb := by omega
  exact ((((((((h.b.setCell (p := ⟨vb, 0, none⟩) hg _).setCell (p := ⟨vb, 1, none⟩) hg _).setCell (p := ⟨vb, 2, none⟩) hg _).setCell (p := ⟨vb, 3, none⟩) hg _).setCell (p := ⟨vb, 4, none⟩) hg _).setCell (p := ⟨vb, 5, none⟩) hg _).setCell (p := ⟨vb, 6, none⟩) hg _).setCell (p := ⟨vb, 7, none⟩) hg _)
 exact ⟨(put8A_far (by omega)).trans h.s, (put8A_far (by omega)).trans h.r, (put8A_far (by omega)).trans h.k, (put8A_far (by omega)).trans h.ww, put8A_blk h.v, hb, h1, h2⟩
theorem Bst.put8 {w wr : World} {kb vb : Nat} {sl W : List Int} {st : Sha.V8} (h : Bst w wr kb vb sl st.list W) (V : Sha.V8) {x0 x1 x2 x3 x4 x5 x6 x7 : Int} (e0 : x0 = V.a) (e1 : x1 = V.b) (e2 : x2 = V.c) (e3 : x3 = V.d) (e4 : x4 = V.e) (e5 : x5 = V.f) (e6 : x6 = V.g) (e7 : x7 = V.h) :
  Bst w ((((((((wr.setCell ⟨vb, 0, none⟩ (.int .u32 x0)).setCell ⟨vb, 1, none⟩ (.int .u32 x1)).setCell ⟨vb, 2, none⟩ (.int .u32 x2)).setCell ⟨vb, 3, none⟩ (.int .u32 x3)).setCell ⟨vb, 4, none⟩ (.int .u32 x4)).setCell ⟨vb, 5, none⟩ (.int .u32 x5)).setCell ⟨vb, 6, none⟩ (.int .u32 x6)).setCell ⟨vb, 7, none⟩ (.int .u32 x7)) kb vb sl V.list W := by
 subst e0 e1 e2 e3 e4 e5 e6 e7
 exact h.put V
theorem Bst.sput {w wr : World} {kb vb : Nat} {sl sl' vl W : List Int} (h : Bst w wr kb vb sl vl W) (i : Nat) (x : Int) (e : sl.set i x = sl') : Bst w (wr.setCell ⟨w.heap.size, i, none⟩ (.int .u32 x)) kb vb sl' vl W := by
 have h1 := h.hk
 have h2 := h.hv
 exact ⟨Blk.cast (Blk.put h.s i x) e, Blk.other h.r (by omega), Blk.other h.k (by omega), Blk.other h.ww (by omega), Blk.other h.v (by omega), h.b.setCell (p := ⟨w.heap.size, i, none⟩) (Nat.le_refl _) _, h1, h2⟩
set_option maxRecDepth 20000 in
set_option maxHeartbeats 4000000 in
theorem rblock_calls (w : World) (v : Sha.V8) (A : Option Addr) (m c : Nat) (xs : List Int) (hC : (Kd.int .u8).C w A m xs) (hm : 64 ≤ m) (hmc : m ≤ c) (hb : Byts xs) :
  Calls Tryd.prog 70 #[aggV v, .slice A m c] w fun e w' => e = .returned (aggV (Sha.block v xs)) ∧ Below w.heap.size w w' := by
 have HC := Lib.hid hC
 have HB := Lib.hid hb
 have hmx : xs.length = m := hC.1
 obtain ⟨W, hW⟩ : ∃ W, W = Sha.sched (Sha.wordsOf xs) 48 := ⟨_, rfl⟩
 have hWl : W.length = 64 := by rw [hW]; exact Sha.sched_length _ (Sha.wordsOf_length xs) 48
 have HW := Lib.hid hW
 have HWL := Lib.hid hWl
 clear hC hb hW hWl
 unfold aggV
 go_enter Tryd.func70, Tryd.ntmps70
 go_upto_region 1 with fail
 obtain ⟨w2, hw2⟩ : ∃ w2, w2 = ((w.alloc (.cells (nums .u32 v.list).toArray 93)).alloc (.cells (nums .u32 (List.replicate 8 0)).toArray 93)) := ⟨_, rfl⟩
 have k0 : Blk w2 w.heap.size .u32 93 v.list := by rw [hw2]; exact kd (kC w _) _
 have k1 : Blk w2 (w.heap.size + 1) .u32 93 (List.replicate 8 0) := by
  rw [hw2]
  have h := kC (w.alloc (.cells (nums .u32 v.list).toArray 93)) (.cells (nums .u32 (List.replicate 8 0)).toArray 93)
  rw [World.size_alloc] at h
  exact h
 have kb : Below w.heap.size w w2 := by rw [hw2]; exact ((Below.refl _ w).alloc (Nat.le_refl _) _).alloc (by simp) _
 change Code.wp _ _ _ _ ((w.alloc (.cells (nums .u32 v.list).toArray 93)).alloc (.cells (nums .u32 (List.replicate 8 0)).toArray 93))
 rw [← hw2]
 have K0 := Lib.hid k0
 have K1 := Lib.hid k1
 have KB := Lib.hid kb
 have hs2 := ky k1
 clear hw2 k0 k1 kb
 have hKl : (nums .u32 Sha.K).toArray.size = 64 := rfl
 have hWs : (nums .u32 W).toArray.size = 64 := by rw [List.size_toArray, nums_length, HWL.out]
 have e64 : (Tryd.prog.info? 99).map (·.size) = some 64 := by kernel_rfl
 have SZK : Hid ((Tryd.prog.info? 99).map (·.size) = some (nums .u32 Sha.K).toArray.size) := Lib.hid (by rw [hKl]; exact e64)
 have SZW : Hid ((Tryd.prog.info? 99).map (·.size) = some (nums .u32 W).toArray.size) := Lib.hid (by rw [hWs]; exact e64)
 have TH1 : Hid (∀ W4 : World, ((W4.alloc z64).alloc z64).there W4.heap.size 0 (nums .u32 Sha.K).toArray.size) := Lib.hid (fun W4 => by rw [hKl]; exact (z64_k W4).there)
 have TH2 : Hid (∀ W4 : World, (putA ((W4.alloc z64).alloc z64) W4.heap.size .u32 Sha.K).there (W4.alloc z64).heap.size 0 (nums .u32 W).toArray.size) := Lib.hid (fun W4 => by
  rw [hWs]
  have h : Blk (putA ((W4.alloc z64).alloc z64) W4.heap.size .u32 Sha.K) (W4.alloc z64).heap.size .u32 99 (List.replicate 64 0) := (putA_far (z64_ne W4)).trans (z64_w W4)
  exact h.there)
 clear hKl hWs e64
 go_upto_region 2 with (first | (go_at_call 74; refine (table_calls w2).mono ?_; rintro e w3 ⟨rfl, hB3⟩; have HB3 := Lib.hid hB3; have hs3 := hB3.size; have hwd := words_calls w3 A m c xs (Kd.C_below HC.out (KB.out.trans (ks hB3 (by omega)))) hm hmc HB.out; rw [← HW.out] at hwd; have HWD := Lib.hid hwd; clear hB3 hwd) | (go_at_call 75; refine HWD.out.mono ?_; rintro e w4 ⟨rfl, hB4⟩; have HB4 := Lib.hid hB4; have hs4 := hB4.size; clear hB4; apply_assumption; refine wl_alloc64 rfl rfl ?_; refine wl_alloc64 rfl rfl ?_; refine wpList_store_mid rfl _ _ _ rfl w4.heap.size 0 (nums .u32 Sha.K).toArray rfl rfl (TH1.out w4) SZK.out (all_oneCell_toArray (nums_one .u32 Sha.K)) ?_; refine wpList_store_mid rfl _ _ _ rfl (w4.alloc z64).heap.size 0 (nums .u32 W).toArray rfl rfl (TH2.out w4) SZW.out (all_oneCell_toArray (nums_one .u32 W)) ?_; change wpList _ _ _ _ _ (putA (putA ((w4.alloc z64).alloc z64) w4.heap.size .u32 Sha.K) (w4.alloc z64).heap.size .u32 W)))
 simp only [Act.put, List.setIfInBounds_toArray, List.set_cons_zero, List.set_cons_succ]
 have hkb : (w4.alloc z64).heap.size = w4.heap.size + 1 := World.size_alloc _ _
 rw [hkb]
 obtain ⟨w5, hw5⟩ : ∃ w5, w5 = putA (putA ((w4.alloc z64).alloc z64) w4.heap.size .u32 Sha.K) (w4.heap.size + 1) .u32 W := ⟨_, rfl⟩
 have p1 : Blk w5 w4.heap.size .u32 99 Sha.K := by
  rw [hw5]
  exact (putA_far (by omega)).trans ((z64_k w4).putA (k' := .u32) (ys := Sha.K) rfl)
 have p2 : Blk w5 (w4.heap.size + 1) .u32 99 W := by
  have h := z64_w w4
  rw [hkb] at h
  have h2 : Blk (putA ((w4.alloc z64).alloc z64) w4.heap.size .u32 Sha.K) (w4.heap.size + 1) .u32 99 (List.replicate 64 0) := (putA_far (by omega)).trans h
  rw [hw5]
  exact h2.putA (k' := .u32) (ys := W) (by rw [HWL.out]; rfl)
 have p3 : Below w4.heap.size w4 w5 := by
  rw [hw5]
  exact putA_below (putA_below (((Below.refl _ w4).alloc (Nat.le_refl _) _).alloc (by rw [World.size_alloc]; omega) _) (Nat.le_refl _)) (Nat.le_succ _)
 have p4 : Below w2.heap.size w2 w5 := (HB3.out.trans (ks HB4.out hs3)).trans (ks p3 (Nat.le_trans hs3 hs4))
 rw [← hw5]
 have g0 : Blk w5 w.heap.size .u32 93 v.list := (p4.block _ (by omega)).trans K0.out
 have g1 : Blk w5 (w.heap.size + 1) .u32 93 (List.replicate 8 0) := (p4.block _ (by omega)).trans K1.out
 have hs5 := p2.lt
 have hst : Bst w (w5.alloc (.cells (nums .u32 v.list).toArray 93)) w4.heap.size w5.heap.size v.list v.list W := by
  have e := kt (Below.refl w5.heap.size w5) (.cells (nums .u32 v.list).toArray 93)
  exact ⟨kd g0 _, kd g1 _, kd p1 _, kd p2 _, kC w5 _, (KB.out.trans (ks p4 (by omega))).trans (ks e (by omega)), by omega, by omega⟩
 have a0 := g0.get 0 (by show 0 < 8; decide)
 have a1 := g0.get 1 (by show 1 < 8; decide)
 have a2 := g0.get 2 (by show 2 < 8; decide)
 have a3 := g0.get 3 (by show 3 < 8; decide)
 have a4 := g0.get 4 (by show 4 < 8; decide)
 have a5 := g0.get 5 (by show 5 < 8; decide)
 have a6 := g0.get 6 (by show 6 < 8; decide)
 have a7 := g0.get 7 (by show 7 < 8; decide)
 simp only [Sha.V8.list, List.getD_cons_zero, List.getD_cons_succ] at a0 a1 a2 a3 a4 a5 a6 a7
 have HST := Lib.hid hst
 clear hst g0 g1 p1 p2 p3 p4 hw5
 go_upto_region 3 with fail
 change Code.wp _ _ _ _ (w5.alloc (.cells (nums .u32 v.list).toArray 93))
 clear a0 a1 a2 a3 a4 a5 a6 a7
 obtain ⟨kb, hkb2⟩ : ∃ kb, kb = w4.heap.size := ⟨_, rfl⟩
 obtain ⟨vb, hvb⟩ : ∃ vb, vb = w5.heap.size := ⟨_, rfl⟩
 rw [← hkb2, ← hvb] at HST
 rw [← hkb2, ← hvb]
 clear hkb2 hvb hkb hs5 hs4
 generalize w5.alloc (.cells (nums .u32 v.list).toArray 93) = w6 at HST ⊢
 go_wp2_with fail
 go_loopg [19] 64 (fun kq s19 wr => ∃ i : Nat, i + kq = 64 ∧ s19 = .int .i64 i ∧ Hid (Bst w wr kb vb v.list (Sha.rounds v W i).list W))
 case atStart => exact ⟨0, by omega, rfl, HST.out⟩
 case round =>
  obtain ⟨i, hi, rfl, hK⟩ := hrel
  by_cases hlt : i < 64
  ·obtain ⟨st, hst⟩ : ∃ st, st = Sha.rounds v W i := ⟨_, rfl⟩
   rw [← hst] at hK
   have HST2 := Lib.hid hst
   clear hst
   obtain ⟨a, b, cc, d, e, f, gg, hh⟩ := st
   obtain ⟨kk, hkk⟩ : ∃ kk, kk = Sha.K.getD i 0 := ⟨_, rfl⟩
   obtain ⟨ww, hww⟩ : ∃ ww, ww = W.getD i 0 := ⟨_, rfl⟩
   have HKK := Lib.hid hkk
   have HWW := Lib.hid hww
   have li : (i : Int) < 64 := by omega
   have hw32 : ∀ x, IntKind.u32.wrap x = x % 4294967296 := IntKind.wrap_u32
   have CV : Hid (∀ Z, Bst w Z kb vb v.list (Sha.V8.list ⟨a, b, cc, d, e, f, gg, hh⟩) W → (Z.cell? ⟨vb, 0, none⟩ = some (.int .u32 a) ∧ Z.cell? ⟨vb, 1, none⟩ = some (.int .u32 b) ∧ Z.cell? ⟨vb, 2, none⟩ = some (.int .u32 cc) ∧ Z.cell? ⟨vb, 3, none⟩ = some (.int .u32 d)) ∧ (Z.cell? ⟨vb, 4, none⟩ = some (.int .u32 e) ∧ Z.cell? ⟨vb, 5, none⟩ = some (.int .u32 f) ∧ Z.cell? ⟨vb, 6, none⟩ = some (.int .u32 gg) ∧ Z.cell? ⟨vb, 7, none⟩ = some (.int .u32 hh)) ∧ Z.cell? ⟨kb, i, none⟩ = some (.int .u32 kk) ∧ Z.cell? ⟨kb + 1, i, none⟩ = some (.int .u32 ww)) := Lib.hid (fun Z hZ =>
    ⟨⟨hZ.v.get 0 (by show 0 < 8; decide), hZ.v.get 1 (by show 1 < 8; decide), hZ.v.get 2 (by show 2 < 8; decide), hZ.v.get 3 (by show 3 < 8; decide)⟩, ⟨hZ.v.get 4 (by show 4 < 8; decide), hZ.v.get 5 (by show 5 < 8; decide), hZ.v.get 6 (by show 6 < 8; decide), hZ.v.get 7 (by show 7 < 8; decide)⟩, by rw [hkk]; exact hZ.k.get i hlt, by rw [hww]; exact hZ.ww.get i (by rw [HWL.out]; exact hlt)⟩)
   clear hkk hww
   go_upto_region 6 with fail
   have KD := Lib.hid hK.out.drew
   have c4 := (CV.out _ KD.out).2.1.1
   go_region_held3 (fun Z => Z.cell? ⟨vb, 4, none⟩ = some (.int .u32 e)) (first | assumption) (first | (go_at_call 76; refine (rrightZ_calls _ _ _ (by decide)).mono ?_; rintro e w' ⟨rfl, rfl⟩))
   clear c4
   generalize wr.drew = w7 at KD ⊢
   obtain ⟨⟨d0, d1, d2, d3⟩, ⟨d4, d5, d6, d7⟩, dk, dw⟩ := CV.out _ KD.out
   go_upto_region 8 with fail
   have KE := Lib.hid KD.out.drew
   have c0 := (CV.out _ KE.out).1.1
   clear d0 d1 d2 d3 d4 d5 d6 d7 dk dw
   go_region_held3 (fun Z => Z.cell? ⟨vb, 0, none⟩ = some (.int .u32 a)) (first | assumption) (first | (go_at_call 76; refine (rrightZ_calls _ _ _ (by decide)).mono ?_; rintro e w' ⟨rfl, rfl⟩))
   clear c0
   generalize w7.drew = w8 at KE ⊢
   obtain ⟨⟨d0, d1, d2, d3⟩, ⟨d4, d5, d6, d7⟩, dk, dw⟩ := CV.out _ KE.out
   go_upto_region 10 with fail
   have KF := Lib.hid KE.out.drew
   have c7 := (CV.out _ KF.out).2.1.2.2.2
   have ck := (CV.out _ KF.out).2.2.1
   have cw := (CV.out _ KF.out).2.2.2
   clear d0 d1 d2 d3 d4 d5 d6 d7 dk dw
   go_region_held3 (fun Z => Z.cell? ⟨vb, 7, none⟩ = some (.int .u32 hh) ∧ Z.cell? ⟨kb, i, none⟩ = some (.int .u32 kk) ∧ Z.cell? ⟨kb + 1, i, none⟩ = some (.int .u32 ww)) (exact ⟨c7, ck, cw⟩) (fail)
   clear c7 ck cw
   generalize w8.drew = w9 at KF ⊢
   obtain ⟨⟨d0, d1, d2, d3⟩, ⟨d4, d5, d6, d7⟩, dk, dw⟩ := CV.out _ KF.out
   have z0 := KF.out.v.free 0
   have z1 := KF.out.v.free 1
   have z2 := KF.out.v.free 2
   have z3 := KF.out.v.free 3
   have z4 := KF.out.v.free 4
   have z5 := KF.out.v.free 5
   have z6 := KF.out.v.free 6
   have z7 := KF.out.v.free 7
   go_wp2_with fail
   go_roundg (gk - 1)
   case measure => omega
   case rel =>
    have hV : Sha.rounds v W (i + 1) = Sha.rnd ⟨a, b, cc, d, e, f, gg, hh⟩ kk ww := by rw [Sha.rounds, ← HST2.out, ← HKK.out, ← HWW.out]
    refine ⟨i + 1, by omega, by go_num, ?_⟩
    rw [hV]
    refine Bst.put8 KF.out _ ?_ rfl rfl rfl ?_ rfl rfl rfl
    ·simp only [Sha.rnd, Sha.t1, Sha.t2, Sha.t3, Sha.add, Sha.x2]
     omega
    ·simp only [Sha.rnd, Sha.t1, Sha.t2, Sha.t3, Sha.add, Sha.x2]
     omega
  ·have hi64 : i = 64 := by omega
   subst hi64
   obtain ⟨U, hU⟩ : ∃ U, U = Sha.rounds v W 64 := ⟨_, rfl⟩
   rw [← hU] at hK
   obtain ⟨S, hS⟩ : ∃ S, S = Sha.sum8 v U := ⟨_, rfl⟩
   have hSB : S = Sha.block v xs := by rw [hS, hU, HW.out]; rfl
   have HSB := Lib.hid hSB
   have HS := Lib.hid hS
   clear hU hSB hS hlt hi
   have C0 : Hid (Bst w wr kb vb (S.list.take 0 ++ v.list.drop 0) U.list W) := hK
   clear hK
   go_wp2_with fail
   go_loopg [110] 8 (fun kq s110 wr => ∃ k : Nat, k + kq = 8 ∧ s110 = .int .i64 k ∧ Hid (Bst w wr kb vb (S.list.take k ++ v.list.drop k) U.list W))
   case atStart => exact ⟨0, by omega, rfl, C0.out⟩
   case round =>
    obtain ⟨k, hk, rfl, hK⟩ := hrel
    by_cases hlt : k < 8
    ·have c0 := hK.out.s.get k (by rw [mix_len _ _ _ rfl rfl (by omega)]; exact hlt)
     rw [mix_get _ _ _ rfl rfl hlt] at c0
     have f0 := hK.out.s.free k
     have c3 := hK.out.v.get k (by show k < 8; exact hlt)
     obtain ⟨x, hx⟩ : ∃ x, x = v.list.getD k 0 := ⟨_, rfl⟩
     obtain ⟨y, hy⟩ : ∃ y, y = U.list.getD k 0 := ⟨_, rfl⟩
     rw [← hx] at c0
     rw [← hy] at c3
     have hsum : (x + y) % 4294967296 = S.list.getD k 0 := by rw [HS.out, sum8_get v U k hlt, hx, hy]
     have HSUM := Lib.hid hsum
     have lk : (k : Int) < 8 := by omega
     have hw32 : ∀ x, IntKind.u32.wrap x = x % 4294967296 := IntKind.wrap_u32
     clear hx hy hsum
     go_upto_region 16 with fail
     go_still_tail 7, (by kernel_rfl)
     change wpList _ _ _ _ _ wr.drew
     go_wp2_with fail
     go_roundg (gk - 1)
     case measure => omega
     case rel =>
      rw [HSUM.out]
      exact ⟨k + 1, by omega, by go_num, hK.out.drew.sput k _ (mix_set _ _ _ rfl rfl hlt)⟩
    ·have hk8 : k = 8 := by omega
     subst hk8
     have hS8 : S.list.take 8 ++ v.list.drop 8 = S.list := rfl
     rw [hS8] at hK
     have a0 := hK.out.s.get 0 (by show 0 < 8; decide)
     have a1 := hK.out.s.get 1 (by show 1 < 8; decide)
     have a2 := hK.out.s.get 2 (by show 2 < 8; decide)
     have a3 := hK.out.s.get 3 (by show 3 < 8; decide)
     have a4 := hK.out.s.get 4 (by show 4 < 8; decide)
     have a5 := hK.out.s.get 5 (by show 5 < 8; decide)
     have a6 := hK.out.s.get 6 (by show 6 < 8; decide)
     have a7 := hK.out.s.get 7 (by show 7 < 8; decide)
     simp only [Sha.V8.list, List.getD_cons_zero, List.getD_cons_succ] at a0 a1 a2 a3 a4 a5 a6 a7
     have b0 := hK.out.r.get 0 (by decide)
     have b1 := hK.out.r.get 1 (by decide)
     have b2 := hK.out.r.get 2 (by decide)
     have b3' := hK.out.r.get 3 (by decide)
     have b4 := hK.out.r.get 4 (by decide)
     have b5 := hK.out.r.get 5 (by decide)
     have b6 := hK.out.r.get 6 (by decide)
     have b7 := hK.out.r.get 7 (by decide)
     have z0 := hK.out.r.free 0
     have z1 := hK.out.r.free 1
     have z2 := hK.out.r.free 2
     have z3 := hK.out.r.free 3
     have z4 := hK.out.r.free 4
     have z5 := hK.out.r.free 5
     have z6 := hK.out.r.free 6
     have z7 := hK.out.r.free 7
     go_wp2_with fail
     have hfin := Blk.cast (Blk.put (Blk.put (Blk.put (Blk.put (Blk.put (Blk.put (Blk.put (Blk.put (hK.out.r) 0 S.a) 1 S.b) 2 S.c) 3 S.d) 4 S.e) 5 S.f) 6 S.g) 7 S.h) (show _ = S.list from rfl)
     have hg : w.heap.size ≤ w.heap.size + 1 := Nat.le_succ _
     refine bodyPost_ret (results_cell_row rfl _ _ (w.heap.size + 1) 93 (nums .u32 S.list).toArray (0, 0) _ rfl hfin Tryd.underlying93 rfl (by kernel_rfl)) rfl ⟨?_, ((((((((hK.out.b.setCell (p := ⟨w.heap.size + 1, 0, none⟩) hg _).setCell (p := ⟨w.heap.size + 1, 1, none⟩) hg _).setCell (p := ⟨w.heap.size + 1, 2, none⟩) hg _).setCell (p := ⟨w.heap.size + 1, 3, none⟩) hg _).setCell (p := ⟨w.heap.size + 1, 4, none⟩) hg _).setCell (p := ⟨w.heap.size + 1, 5, none⟩) hg _).setCell (p := ⟨w.heap.size + 1, 6, none⟩) hg _).setCell (p := ⟨w.heap.size + 1, 7, none⟩) hg _)⟩
     rw [← HSB.out]
     rfl
end Go.Proofs.YtkkomfomjpcbfaaDoor
end
section
namespace Go.Proofs.YtkkomfomjpcbfaaDoor
open Go Go.RowKit Go.Proofs.YtkkomfomjpcbfaaDoorW.PrintWords Go.Proofs.YtkkomfomjpcbfaaDoorW.PrintMore Go.Proofs.YtkkomfomjpcbfaaDoorW.PrintLast Bq
attribute [local go_sem ↓] Go.wp_at_zero Go.wp_at_succ
theorem join2R (w : World) (A B : Option Addr) (ca cb : Nat) (xs ys : List Int) (hA : (Kd.int .u8).C w A xs.length xs) (hB : (Kd.int .u8).C w B ys.length ys) (ha : xs.length ≤ ca) (hb : ys.length ≤ cb) (hs : xs.length + ys.length ≤ 1000000000000) :
  Calls Tryd.prog 47 #[.slice (some ⟨w.heap.size, 0, none⟩) 2 2] (w.alloc (.cells #[.slice A xs.length ca, .slice B ys.length cb] 45)) fun e w' => ∃ v, e = .returned v ∧ (Kd.int .u8).R 5 w' 0 (fun k => w.heap.size ≤ k) v (xs ++ ys) ∧ Below w.heap.size w w' := by
 have hC := lit2_C w 45 A B ca cb xs ys hA hB ha hb
 have h := join_calls _ _ 2 [xs, ys] hC (by rw [flat2, List.length_append]; exact hs)
 rw [flat2] at h
 refine h.mono ?_
 rintro e w' ⟨v, rfl, hR, hb'⟩
 have e1 : w.heap.size ≤ (w.alloc (.cells #[.slice A xs.length ca, .slice B ys.length cb] 45)).heap.size := by rw [World.size_alloc]; omega
 exact ⟨v, rfl, Kd.R_lower (Kd.R_mono hR (fun k hk => Nat.le_trans e1 hk)) (Nat.zero_le _), (kt (Below.refl _ w) _).trans (ks hb' e1)⟩
def Rng (v : Sha.V8) : Prop := ∀ i, i < 8 → 0 ≤ v.list.getD i 0 ∧ v.list.getD i 0 < 4294967296
theorem rng_H0 : Rng Sha.H0 := by unfold Rng; decide
theorem rng_block (v : Sha.V8) (xs : List Int) : Rng (Sha.block v xs) := fun i hi => by
 unfold Sha.block
 rw [sum8_get _ _ _ hi]
 omega
theorem rng_vAt (us : List Int) : ∀ j, Rng (Sha.vAt Sha.H0 us j)
 | 0 => rng_H0
 | j + 1 => rng_block _ _
theorem big8_quad (x : Int) (h0 : 0 ≤ x) (h1 : x < 4294967296) : (Sha.big8 x.toNat).drop 4 = Sha.quad x := by
 obtain ⟨n, rfl⟩ := Int.eq_ofNat_of_zero_le h0
 have e : (Sha.big8 n).drop 4 = [((n / 2 ^ 24 % 256 : Nat) : Int), ((n / 2 ^ 16 % 256 : Nat) : Int), ((n / 2 ^ 8 % 256 : Nat) : Int), ((n / 2 ^ 0 % 256 : Nat) : Int)] := rfl
 rw [Int.toNat_natCast, e]
 unfold Sha.quad
 simp
theorem digest_next (S : Sha.V8) (i : Nat) (h : i < 8) : (Sha.digest S).take (4 * i) ++ Sha.quad (S.list.getD i 0) = (Sha.digest S).take (4 * (i + 1)) := by
 rcases (by omega : i = 0 ∨ i = 1 ∨ i = 2 ∨ i = 3 ∨ i = 4 ∨ i = 5 ∨ i = 6 ∨ i = 7) with rfl | rfl | rfl | rfl | rfl | rfl | rfl | rfl <;> rfl
set_option maxRecDepth 20000 in
set_option maxHeartbeats 4000000 in
theorem rsum_calls (w : World) (A : Option Addr) (c : Nat) (t : List Int) (hC : (Kd.int .u8).C w A t.length t) (hc : t.length ≤ c) (hb : Byts t) (hl : t.length ≤ 1000000000) :
  Calls Tryd.prog 52 #[.slice A t.length c] w fun e w' => ∃ v, e = .returned v ∧ (Kd.int .u8).R 5 w' 0 (fun k => w.heap.size ≤ k) v (Sha.sum t) ∧ Below w.heap.size w w' := by
 have HC := Lib.hid hC
 have HB := Lib.hid hb
 obtain ⟨n, hn⟩ : ∃ n, n = t.length := ⟨_, rfl⟩
 obtain ⟨D, hD⟩ : ∃ D, D = Sha.sum t := ⟨_, rfl⟩
 rw [← hD]
 have HD := Lib.hid hD
 have HN := Lib.hid hn
 rw [← hn] at hc hl
 rw [← hn]
 have h128 : (Kd.int .u8).C (w.alloc (.cells #[.int .u8 128] 5)) (some ⟨w.heap.size, 0, none⟩) [(128 : Int)].length [128] := lit_C w 5 .u8 [128] (by decide)
 have hj1 := join2R (w.alloc (.cells #[.int .u8 128] 5)) A (some ⟨w.heap.size, 0, none⟩) c 1 t [128] (Kd.C_alloc hC _) h128 (by rw [← hn]; exact hc) (by decide) (by rw [← hn, List.length_singleton]; omega)
 rw [← hn, World.size_alloc, List.length_singleton] at hj1
 have HJ1 := Lib.hid hj1
 clear hC hb hD hn hj1 h128
 go_enter Tryd.func52, Tryd.ntmps52
 go_upto_region 2 with (go_at_call 47; refine HJ1.out.mono ?_; rintro e w3 ⟨v3, rfl, hR3, hB3⟩; have HR3 := Lib.hid hR3; have HB3 := Lib.hid hB3; clear hR3 hB3)
 obtain ⟨OK, hOK⟩ : ∃ OK : Nat → Prop, OK = fun k => w.heap.size ≤ k := ⟨_, rfl⟩
 have hok : ∀ k, OK k ↔ w.heap.size ≤ k := fun k => by rw [hOK]
 clear hOK
 have HOK := Lib.hid hok
 clear hok
 have r3 : (Kd.int .u8).R 5 w3 0 OK v3 (t ++ [128]) := Kd.R_mono HR3.out (fun k hk => (HOK.out k).2 (by omega))
 have b3 : Below w.heap.size w w3 := (kt (Below.refl _ w) _).trans (ks HB3.out (Nat.le_succ _))
 have R3 := Lib.hid r3
 have B3 := Lib.hid b3
 clear r3 b3 HR3 HB3
 go_loopg [3] (Sha.zeros n) (fun kq s3 wr => ∃ (j : Nat) (ts : List Int), j + kq = Sha.zeros n ∧ Hid (ts.length = n + 1 + j) ∧ ts.length ≤ 1000000100 ∧ Hid (ts = t ++ 128 :: List.replicate j 0) ∧ Hid ((Kd.int .u8).R 5 wr 0 OK s3 ts) ∧ Hid (Below w.heap.size w wr))
 case atStart => exact ⟨0, t ++ [128], by omega, by rw [HN.out]; exact List.length_append, by rw [List.length_append, ← HN.out]; simp; omega, rfl, R3.out, B3.out⟩
 case round =>
  obtain ⟨j, ts, hj, hts, htl, hT1, hR1, hB1⟩ := hrel
  obtain ⟨A1, c1, hs3⟩ := Kd.R_slice hR1.out
  subst hs3
  have hz : Sha.zeros n < 64 := by unfold Sha.zeros; omega
  have hza := Sha.zeros_at n n j rfl (by omega)
  rw [← hts.out] at hza
  have hsz := hB1.out.size
  by_cases hlt : j < Sha.zeros n
  ·have h1 : ¬ ts.length % 64 = 56 := by omega
   obtain ⟨r, hr⟩ : ∃ r : Int, (ts.length : Int) % 64 = r := ⟨_, rfl⟩
   have hr1 : ¬ r = 56 := by omega
   have HJ := Lib.hid hj
   have HLT := Lib.hid hlt
   clear h1 hza hz hlt hj
   go_wp2_with (at_builtin; refine Kd.R_append (Kd.int .u8) (w0 := wr) (W := wr) 0 rfl (.tmp 15) (.tmp 16) 45 5 (.int .u8 0) 1 rfl Tryd.underlying45 info_u8' rfl (by decide) (by decide) _ ts 0 [.int .u8 0] OK (fun _ => False) rfl rfl rfl (fun _ h => h.elim) (fun k hk => (HOK.out k).2 (by omega)) hR1.out (Below.refl _ _) (Nat.zero_le _) (by omega) ?_; intro v2 w2 hR2 _ hg2 _; have HR2 := Lib.hid hR2; have HG2 := Lib.hid hg2; clear hR2 hg2)
   go_roundg (gk - 1)
   case measure => have := HJ.out; have := HLT.out; omega
   case rel =>
    have hlt := HLT.out
    have hj := HJ.out
    have hz : Sha.zeros n < 64 := by unfold Sha.zeros; omega
    have hl2 : (ts ++ [(0 : Int)]).length = ts.length + 1 := List.length_append
    have ht2 := hts.out
    refine ⟨j + 1, ts ++ [0], by omega, by show (ts ++ [(0 : Int)]).length = _; omega, by omega, ?_, HR2.out, hB1.out.grown HG2.out hsz (fun k hk => (HOK.out k).1 (hR1.out.1 k hk))⟩
    show ts ++ [0] = t ++ 128 :: List.replicate (j + 1) 0
    rw [hT1.out, List.replicate_succ', List.append_assoc, List.cons_append]
  ·have hjz : j = Sha.zeros n := by omega
   have h1 : ts.length % 64 = 56 := by omega
   have hr1 : (ts.length : Int) % 64 = 56 := by omega
   have HJ := Lib.hid hjz
   have hR1v := Kd.R_reads' hR1.out
   have HC1 := Lib.hid hR1v.2.2
   have hcap1 := hR1v.2.1
   clear h1 hza hz hlt hj hjz hR1v
   go_upto_region 4 with fail
   clear hr1
   have e1 : IntKind.u64.wrap (n : Int) = (n : Int) := IntWalk.u64_in _ (by omega)
   have e2 : IntKind.u64.wrap (8 * (n : Int)) = ((8 * n : Nat) : Int) := by rw [IntWalk.u64_in _ (by omega)]; omega
   obtain ⟨B, hB8⟩ : ∃ B, B = Sha.big8 (8 * n) := ⟨_, rfl⟩
   have hBl : B.length = 8 := by rw [hB8, Sha.big8_length]
   have hbig := big_calls wr (8 * n) (by omega)
   rw [← hB8] at hbig
   have HBIG := Lib.hid hbig
   have HB8 := Lib.hid hB8
   clear hbig hB8
   go_upto_region 5 with (first | (go_at_call 69; refine HBIG.out.mono ?_; rintro e w5 ⟨v5, rfl, hR5, hB5⟩; obtain ⟨A5, c5, hv5⟩ := Kd.R_slice hR5; subst hv5; rw [hBl]; have hr5 := Kd.R_reads' hR5; rw [hBl] at hr5; have hC5 := hr5.2.2; have HC5 := Lib.hid hr5.2.2; have hcap5 := hr5.2.1; have HB5 := Lib.hid hB5; have hs5 := hB5.size; have hj2 := join2R w5 A1 A5 c1 c5 ts B (Kd.C_below HC1.out hB5) (by rw [hBl]; exact hC5) hcap1 (by rw [hBl]; exact hcap5) (by rw [hBl]; omega); rw [hBl] at hj2; have HJ2 := Lib.hid hj2; clear hR5 hB5 hr5 hC5 hj2) | (go_at_call 47; refine HJ2.out.mono ?_; rintro e w6 ⟨v6, rfl, hR6, hB6⟩; have HR6 := Lib.hid hR6; have HB6 := Lib.hid hB6; clear hR6 hB6))
   have b6 : Below w.heap.size w w6 := (hB1.out.trans (ks HB5.out hsz)).trans (ks HB6.out (Nat.le_trans hsz hs5))
   obtain ⟨us, hus⟩ : ∃ us, us = ts ++ B := ⟨_, rfl⟩
   have hr6 := HR6.out
   rw [← hus] at hr6
   obtain ⟨A6, c6, hv6⟩ := Kd.R_slice hr6
   subst hv6
   have hUS : us = t ++ Sha.tail n := by
    rw [hus, hT1.out, HJ.out, HB8.out]
    simp [Sha.tail]
   have hUSl : us.length = n + Sha.zeros n + 9 := by rw [hUS, List.length_append, Sha.tail_length, ← HN.out]; omega
   have hz : Sha.zeros n < 64 := by unfold Sha.zeros; omega
   obtain ⟨J, hJ⟩ : ∃ J, us.length = 64 * J := by
    refine ⟨us.length / 64, ?_⟩
    unfold Sha.zeros at hUSl
    omega
   have hJ1 : us.length ≤ 64 * J := Nat.le_of_eq hJ
   have hJ2 : 64 * J ≤ us.length := Nat.le_of_eq hJ.symm
   clear hJ
   have hbu : Byts us := by
    rw [hUS]
    intro x hx
    rcases List.mem_append.1 hx with h | h
    ·exact HB.out x h
    ·exact Sha.byts_tail n x h
   have HBU := Lib.hid hbu
   have HUS := Lib.hid hUS
   have hus2 : us.length ≤ 1000000200 := by omega
   have b6s := b6.size
   obtain ⟨sb, hsb⟩ : ∃ sb, sb = w6.heap.size := ⟨_, rfl⟩
   have hsb2 : w.heap.size ≤ sb := by rw [hsb]; exact b6s
   have hV6 : Kd.V (Kd.int .u8) 5 w6 0 (fun k => k ≠ sb) (.slice A6 us.length c6) us := Kd.V_mono (Kd.V_bound (Kd.R_V (base' := 0) hr6)) (fun k hk => by have := hk.2; omega)
   have V6 := Lib.hid (Kd.V_alloc hV6 (.cells (nums .u32 Sha.H0.list).toArray 93))
   have B6 := Lib.hid (b6.alloc b6s (.cells (nums .u32 Sha.H0.list).toArray 93))
   have S6 : Hid (Blk (w6.alloc (.cells (nums .u32 Sha.H0.list).toArray 93)) sb .u32 93 Sha.H0.list) := Lib.hid (by rw [hsb]; exact kC w6 _)
   clear hUS hbu hus hr6 hV6 b6 hUSl hz hBl HR6 hR1 hT1 hcap1 hB1 hts htl
   go_wp2_with fail
   change Code.wp _ _ _ _ (w6.alloc (.cells (nums .u32 Sha.H0.list).toArray 93))
   rw [← hsb]
   clear hsb b6s
   generalize w6.alloc (.cells (nums .u32 Sha.H0.list).toArray 93) = w9 at V6 B6 S6 ⊢
   go_loopg [3] J (fun kq s3 wr => ∃ (j : Nat) (xs : List Int), j + kq = J ∧ xs.length = 64 * kq ∧ Hid (xs = us.drop (64 * j)) ∧ Hid (Kd.V (Kd.int .u8) 5 wr 0 (fun k => k ≠ sb) s3 xs) ∧ Hid (Blk wr sb .u32 93 (Sha.vAt Sha.H0 us j).list) ∧ Hid (Below w.heap.size w wr))
   case atStart => exact ⟨0, us, by omega, by omega, rfl, V6.out, S6.out, B6.out⟩
   case round =>
    obtain ⟨j, xs, hj, hxs, hX, hVx, hBk, hB3⟩ := hrel
    obtain ⟨A3, c3, hs4⟩ := Kd.V_slice hVx.out
    subst hs4
    by_cases hlt : 0 < gk
    ·have hx0 : 0 < xs.length := by omega
     have hx64 : 64 ≤ xs.length := by omega
     obtain ⟨st, hst⟩ : ∃ st, st = Sha.vAt Sha.H0 us j := ⟨_, rfl⟩
     have hbk := hBk.out
     rw [← hst] at hbk
     have HST := Lib.hid hst
     clear hst
     have b1 := hbk.get 0 (by show 0 < 8; decide)
     have b2 := hbk.get 1 (by show 1 < 8; decide)
     have b3 := hbk.get 2 (by show 2 < 8; decide)
     have b4 := hbk.get 3 (by show 3 < 8; decide)
     have b5 := hbk.get 4 (by show 4 < 8; decide)
     have b6 := hbk.get 5 (by show 5 < 8; decide)
     have b7 := hbk.get 6 (by show 6 < 8; decide)
     have b8 := hbk.get 7 (by show 7 < 8; decide)
     simp only [Sha.V8.list, List.getD_cons_zero, List.getD_cons_succ] at b1 b2 b3 b4 b5 b6 b7 b8
     have HBK := Lib.hid hbk
     clear hbk
     have hc3 := (Kd.V_at hVx.out).2.1
     have hCX := Kd.C_take (m := 64) (Kd.F_now (Kd.V_at hVx.out).2.2) hx64
     have hl64 : (xs.take 64).length = 64 := by rw [List.length_take]; omega
     rw [hl64] at hCX
     have hBX : Byts (xs.take 64) := fun x hx => by
      have h := List.mem_of_mem_take hx
      rw [hX.out] at h
      exact HBU.out x (List.mem_of_mem_drop h)
     have hcall := rblock_calls wr.drew st A3 64 c3 (xs.take 64) (Kd.C_drew hCX) (Nat.le_refl _) (by omega) hBX
     obtain ⟨V, hV⟩ : ∃ V, V = Sha.block st (xs.take 64) := ⟨_, rfl⟩
     rw [← hV] at hcall
     unfold aggV at hcall
     have HCALL := Lib.hid hcall
     have HVV := Lib.hid hV
     clear hCX hBX hcall hV hl64
     have i1 : (64 : Int) ≤ (xs.length : Int) := by omega
     have i2 : (xs.length : Int) ≤ (c3 : Int) := by omega
     have i3 : (64 : Int) ≤ (c3 : Int) := by omega
     have HX := Lib.hid hxs
     clear hxs
     have HCUT : Hid (Kd.F (Kd.int .u8) wr (fun k => k ≠ sb) (if c3 = 64 then A3 else A3.map (fun x => ⟨x.block, x.off + 64, none⟩)) (xs.length - 64) (xs.drop 64)) := by
      have h := Kd.F_cut (Kd.V_at hVx.out).2.2 hx64 hc3
      have e : (fun x : Addr => x.add (64 * (Kd.int .u8).sz)) = fun x => ⟨x.block, x.off + 64, none⟩ := by
       funext x
       exact add_pos x 64 (by decide)
      rw [e, List.length_drop] at h
      exact h
     go_upto_region 7 with fail
     go_region_with (first | (go_at_call 70; refine HCALL.out.mono ?_; rintro e w7 ⟨rfl, hB7⟩; have hbk : Blk w7 sb .u32 93 st.list := (hB7.block sb (ky HBK.out)).trans HBK.out; have y0 : w7.frozen? ⟨sb, 0, none⟩ = false := kc hbk 0; have x0 : w7.cell? ⟨sb, 0, none⟩ = some (.int .u32 st.a) := hbk.get 0 (by show 0 < 8; decide); have y1 : w7.frozen? ⟨sb, 1, none⟩ = false := kc hbk 1; have x1 : w7.cell? ⟨sb, 1, none⟩ = some (.int .u32 st.b) := hbk.get 1 (by show 1 < 8; decide); have y2 : w7.frozen? ⟨sb, 2, none⟩ = false := kc hbk 2; have x2 : w7.cell? ⟨sb, 2, none⟩ = some (.int .u32 st.c) := hbk.get 2 (by show 2 < 8; decide); have y3 : w7.frozen? ⟨sb, 3, none⟩ = false := kc hbk 3; have x3 : w7.cell? ⟨sb, 3, none⟩ = some (.int .u32 st.d) := hbk.get 3 (by show 3 < 8; decide); have y4 : w7.frozen? ⟨sb, 4, none⟩ = false := kc hbk 4; have x4 : w7.cell? ⟨sb, 4, none⟩ = some (.int .u32 st.e) := hbk.get 4 (by show 4 < 8; decide); have y5 : w7.frozen? ⟨sb, 5, none⟩ = false := kc hbk 5; have x5 : w7.cell? ⟨sb, 5, none⟩ = some (.int .u32 st.f) := hbk.get 5 (by show 5 < 8; decide); have y6 : w7.frozen? ⟨sb, 6, none⟩ = false := kc hbk 6; have x6 : w7.cell? ⟨sb, 6, none⟩ = some (.int .u32 st.g) := hbk.get 6 (by show 6 < 8; decide); have y7 : w7.frozen? ⟨sb, 7, none⟩ = false := kc hbk 7; have x7 : w7.cell? ⟨sb, 7, none⟩ = some (.int .u32 st.h) := hbk.get 7 (by show 7 < 8; decide); have HB7 := Lib.hid hB7; have HB5 := Lib.hid hbk; clear hB7 hbk))
     go_wp2_with fail
     all_goals
      go_roundg (gk - 1)
      case measure => omega
      case rel =>
       have hcut := HCUT.out
       first | rw [if_pos h] at hcut | rw [if_neg h] at hcut
       have hxs := HX.out
       have hld : (xs.drop 64).length = xs.length - 64 := List.length_drop
       refine ⟨j + 1, xs.drop 64, by omega, by rw [hld]; omega, ?_, ⟨_, c3 - 64, by first | (rw [hld]; done) | rw [hld, show c3 - 64 = 0 by omega], by rw [hld]; omega, ?_⟩, ?_, ?_⟩
       ·show xs.drop 64 = us.drop (64 * (j + 1))
        rw [hX.out, List.drop_drop]
        rfl
       ·rw [hld]
        exact Kd.F_step hcut (fun k hk hlt => (put8A_far (W := w7) (g := sb) (V := V) hk).trans (HB7.out.block k hlt))
       ·have hv : V = Sha.vAt Sha.H0 us (j + 1) := by
         rw [HVV.out, Sha.vAt, ← HST.out, ← hX.out]
        show Blk _ sb .u32 _ (Sha.vAt Sha.H0 us (j + 1)).list
        rw [← hv]
        exact put8A_blk HB5.out
       ·have b7 : Below w.heap.size w w7 := (hB3.out.drew).trans (ks HB7.out hB3.out.size)
        exact ((((((((b7.setCell (p := ⟨sb, 0, none⟩) hsb2 _).setCell (p := ⟨sb, 1, none⟩) hsb2 _).setCell (p := ⟨sb, 2, none⟩) hsb2 _).setCell (p := ⟨sb, 3, none⟩) hsb2 _).setCell (p := ⟨sb, 4, none⟩) hsb2 _).setCell (p := ⟨sb, 5, none⟩) hsb2 _).setCell (p := ⟨sb, 6, none⟩) hsb2 _).setCell (p := ⟨sb, 7, none⟩) hsb2 _)
    ·have hg0 : gk = 0 := by omega
     have hjJ : j = J := by omega
     have hx0 : xs.length = 0 := by omega
     obtain ⟨S, hS⟩ : ∃ S, S = Sha.vAt Sha.H0 us J := ⟨_, rfl⟩
     have hbk := hBk.out
     rw [hjJ, ← hS] at hbk
     have hrg : Rng S := by rw [hS]; exact rng_vAt us J
     have hSum : D = Sha.digest S := by
      have hUt : t ++ Sha.tail t.length = us := by rw [HUS.out, ← HN.out]
      rw [HD.out, Sha.sum, hUt, Sha.eatAll_vAt J Sha.H0 us (by omega) (by omega), hS]
     have HSUM := Lib.hid hSum
     have HBK := Lib.hid hbk
     have HRG := Lib.hid hrg
     have hBs := hB3.out.size
     have HE := Lib.hid (Kd.R_mono (R_empty (Kd.int .u8) 5 wr 0 (fun k => w.heap.size ≤ k ∧ k ≠ sb) (Nat.zero_le _) ⟨hBs, by have := hbk.lt; omega⟩) (fun k hk => hk))
     have BE := Lib.hid (hB3.out.alloc hBs (.cells #[] 5))
     have KE := Lib.hid (kd hbk (.cells #[] 5))
     clear hSum hbk hS hX hVx hBk hj hxs hlt hrg hB3
     go_upto_region 10 with fail
     generalize wr.alloc (.cells #[] 5) = w10 at HE BE KE ⊢
     go_wp2_with fail
     clear hx0
     have hDl : D.length = 32 := by rw [HSUM.out, Sha.digest_length]
     go_loopg [5, 37] 8 (fun kq s5 s37 wr => ∃ (i : Nat) (out : List Int), i + kq = 8 ∧ s37 = .int .i64 i ∧ out.length ≤ 4 * i ∧ Hid (out = D.take (4 * i)) ∧ Hid ((Kd.int .u8).R 5 wr 0 (fun k => w.heap.size ≤ k ∧ k ≠ sb) s5 out) ∧ Hid (Blk wr sb .u32 93 S.list) ∧ Hid (Below w.heap.size w wr))
     case atStart => exact ⟨0, [], by omega, rfl, by simp, by rw [Nat.mul_zero, List.take_zero]; rfl, HE.out, KE.out, BE.out⟩
     case round =>
      obtain ⟨i, out, hi, rfl, hol, hO, hRo, hSo, hBo⟩ := hrel
      obtain ⟨A4, c4, hs5⟩ := Kd.R_slice hRo.out
      subst hs5
      by_cases hlt : i < 8
      ·obtain ⟨x, hx⟩ : ∃ x, x = S.list.getD i 0 := ⟨_, rfl⟩
       have hxr := HRG.out i hlt
       have cs := hSo.out.get i (by show i < 8; exact hlt)
       rw [← hx] at cs hxr
       obtain ⟨m, hm⟩ : ∃ m, m = x.toNat := ⟨_, rfl⟩
       have hxm : x = (m : Int) := by omega
       have HX := Lib.hid hx
       obtain ⟨Q8, hQ8⟩ : ∃ Q8, Q8 = Sha.big8 m := ⟨_, rfl⟩
       have hq8l : Q8.length = 8 := by rw [hQ8, Sha.big8_length]
       have hqd : Q8.drop 4 = Sha.quad x := by rw [hQ8, hm]; exact big8_quad x hxr.1 hxr.2
       have hbig := big_calls wr m (by omega)
       rw [← hQ8] at hbig
       have HBIG := Lib.hid hbig
       have HQD := Lib.hid hqd
       have HC4 := Lib.hid (Kd.R_reads' hRo.out).2.2
       have hcap4 := (Kd.R_reads' hRo.out).2.1
       have e0 : IntKind.u64.wrap x = x := IntWalk.u64_in _ (by omega)
       have li : (i : Int) < 8 := by omega
       rw [hxm] at cs e0
       have HM := Lib.hid hxm
       clear hx hm hxm hQ8 hqd hbig hxr
       have hdl : (Q8.drop 4).length = 4 := by rw [List.length_drop, hq8l]
       have HDL := Lib.hid hdl
       clear hdl
       have hbs := hBo.out.size
       have HFUN : Hid ((fun x : Addr => x.add (4 * (Kd.int .u8).sz)) = fun x => ⟨x.block, x.off + 4, none⟩) := Lib.hid (by
        funext x
        exact add_pos x 4 (by decide))
       go_wp2_with (first | (go_at_call 69; refine HBIG.out.mono ?_; rintro e w5 ⟨v5, rfl, hR5, hB5⟩; obtain ⟨A5, c5, hv5⟩ := Kd.R_slice hR5; subst hv5; rw [hq8l]; have hr5 := Kd.R_reads' hR5; rw [hq8l] at hr5; have hcap5 := hr5.2.1; have hC5 : (Kd.int .u8).C w5 A5 Q8.length Q8 := (by rw [hq8l]; exact hr5.2.2); have i4 : ¬ c5 = 4 := (by omega); have i5 : (4 : Int) ≤ (c5 : Int) := (by omega); have hD5 := Kd.C_drop (m := 4) (c := c5) hC5 (by omega) (by omega); rw [if_neg i4, HFUN.out] at hD5; have hj3 := join2R w5 A4 (A5.map (fun x => ⟨x.block, x.off + 4, none⟩)) c4 (c5 - 4) out (Q8.drop 4) (Kd.C_below HC4.out hB5) hD5 hcap4 (by rw [HDL.out]; omega) (by rw [HDL.out]; omega); rw [HDL.out] at hj3; have HJ3 := Lib.hid hj3; have HB5 := Lib.hid hB5; clear hR5 hB5 hr5 hC5 hD5 hj3) | (go_at_call 47; refine HJ3.out.mono ?_; rintro e w6 ⟨v6, rfl, hR6, hB6⟩; have HR6 := Lib.hid hR6; have HB6 := Lib.hid hB6; clear hR6 hB6))
       go_roundg (gk - 1)
       case measure => omega
       case rel =>
        have hs5 := HB5.out.size
        have hsl := hSo.out.lt
        refine ⟨i + 1, out ++ Q8.drop 4, by omega, by go_num, by rw [List.length_append, HDL.out]; omega, ?_, Kd.R_mono HR6.out (fun k hk => ⟨by omega, by omega⟩), (HB6.out.block _ (by omega)).trans ((HB5.out.block _ hsl).trans hSo.out), (hBo.out.trans (ks HB5.out hbs)).trans (ks HB6.out (Nat.le_trans hbs hs5))⟩
        show out ++ Q8.drop 4 = D.take (4 * (i + 1))
        rw [hO.out, HQD.out, HX.out, HSUM.out]
        exact digest_next S i hlt
      ·have hi8 : i = 8 := by omega
       subst hi8
       have hout : out = D := by rw [hO.out, List.take_of_length_le (by omega)]
       have HOUT := Lib.hid hout
       have hrr := Kd.R_mono hRo.out (ok' := fun k => w.heap.size ≤ k) (fun k hk => hk.1)
       have HRR := Lib.hid hrr
       clear hout hrr hlt hi
       go_wp2_with fail
       go_ret
       have h := HRR.out
       rw [HOUT.out] at h
       rw [HOUT.out]
       exact ⟨_, rfl, h, hBo.out⟩
end Go.Proofs.YtkkomfomjpcbfaaDoor
end
section
namespace Go.Proofs.YtkkomfomjpcbfaaDoor
open Go Go.RowKit Go.Proofs.YtkkomfomjpcbfaaDoorW.PrintWords Go.Proofs.YtkkomfomjpcbfaaDoorW.PrintMore Go.Proofs.YtkkomfomjpcbfaaDoorW.PrintLast Bq
def u8s (xs : List Int) : List UInt8 := xs.map fun x => UInt8.ofNat x.toNat
theorem u8s_cells (xs : List Int) (h : Byts xs) : (u8s xs).map Extern.Stop.cell = nums .u8 xs := by
 unfold u8s nums
 rw [List.map_map]
 apply List.map_congr_left
 intro x hx
 have hb := h x hx
 show Extern.Stop.cell (UInt8.ofNat x.toNat) = Value.int .u8 x
 unfold Extern.Stop.cell
 congr 1
 have : (UInt8.ofNat x.toNat).toNat = x.toNat := by
  rw [UInt8.toNat_ofNat']
  omega
 rw [this]
 show ((x.toNat : Nat) : Int) = x
 omega
theorem u8s_inj : ∀ (xs ys : List Int), Byts xs → Byts ys → u8s xs = u8s ys → xs = ys
 | [], [], _, _, _ => rfl
 | [], _ :: _, _, _, h => by simp [u8s] at h
 | _ :: _, [], _, _, h => by simp [u8s] at h
 | x :: xs, y :: ys, hx, hy, h => by
  have h1 : UInt8.ofNat x.toNat = UInt8.ofNat y.toNat ∧ u8s xs = u8s ys := by simpa [u8s] using h
  have hxb := hx x (List.mem_cons_self ..)
  have hyb := hy y (List.mem_cons_self ..)
  have h2 := congrArg UInt8.toNat h1.1
  rw [UInt8.toNat_ofNat', UInt8.toNat_ofNat'] at h2
  have e : x = y := by omega
  rw [e, u8s_inj xs ys (fun z hz => hx z (List.mem_cons_of_mem _ hz)) (fun z hz => hy z (List.mem_cons_of_mem _ hz)) h1.2]
set_option maxRecDepth 100000 in
theorem arr_eq (W : World) (xs ys : List Int) (hx : xs.length = 32) (hy : ys.length = 32) (hbx : Byts xs) (hby : Byts ys) :
  Sem.run Tryd.prog (Op.equalIn 10000 50 (.agg (nums .u8 xs).toArray) (.agg (nums .u8 ys).toArray)) W = .ok (decide (xs = ys)) W := by
 have hsz : ∀ w : World, (sizeOf 5).run Tryd.prog w = .ok 1 w := by
  intro w
  have e : (Tryd.prog.info? 5).map (·.size) = some 1 := by kernel_rfl
  obtain ⟨i, hi, hs⟩ := Option.map_eq_some_iff.1 e
  simp [sizeOf, typeInfo, hi, hs]
 have h := run_equalIn_bytes (P := Tryd.prog) W 9998 50 5 32 Tryd.underlying50 Tryd.underlying5 hsz (u8s xs) (u8s ys) (by simp [u8s, hx]) (by simp [u8s, hy])
 rw [u8s_cells xs hbx, u8s_cells ys hby] at h
 refine h.trans ?_
 congr 1
 by_cases e : xs = ys
 ·subst e
  simp
 ·rw [decide_eq_false e]
  have : u8s xs ≠ u8s ys := fun h => e (u8s_inj xs ys hbx hby h)
  simpa using this
end Go.Proofs.YtkkomfomjpcbfaaDoor
end
