import Derived.Test.YtkkomfomjpcbfaaDoorSTokenVerifiesH2r
import Derived.StillTailTactics
import Derived.IntWalk
import Derived.Laws.Rows
set_option linter.unusedVariables false
set_option linter.unusedSimpArgs false
namespace Go.Proofs.YtkkomfomjpcbfaaDoor
open Go.RowKit Go.Proofs.YtkkomfomjpcbfaaDoorW.PrintWords Go.Proofs.YtkkomfomjpcbfaaDoorW.PrintMore Go.Proofs.YtkkomfomjpcbfaaDoorW.PrintLast
attribute [local go_sem ↓] Go.wp_at_zero Go.wp_at_succ
theorem add_pos (ad : Addr) (n : Nat) (h : n ≠ 0) : ad.add n = ⟨ad.block, ad.off + n, none⟩ := by
 unfold Addr.add
 rw [if_neg h]
def aggV (v : Sha.V8) : Value := .agg #[.int .u32 v.a, .int .u32 v.b, .int .u32 v.c, .int .u32 v.d, .int .u32 v.e, .int .u32 v.f, .int .u32 v.g, .int .u32 v.h]
set_option maxRecDepth 20000 in
set_option maxHeartbeats 4000000 in
theorem hblock_calls (w : World) (v : Sha.V8) (A : Option Addr) (m c : Nat) (xs : List Int) (hC : (Kd.int .u8).C w A m xs) (hm : 64 ≤ m) (hb : Byts xs) (hT : ∀ i, i < 64 → w.cell? ⟨0, i, none⟩ = some (.int .u32 (Sha.K.getD i 0))) :
  Calls Tryd.prog 67 #[aggV v, .slice A m c] w fun e w' => e = .returned (aggV (Sha.block v xs)) ∧ Below w.heap.size w w' := by
 have HC := Lib.hid hC
 have HB := Lib.hid hb
 have HT := Lib.hid hT
 have hmx : xs.length = m := hC.1
 clear hC hb hT
 unfold aggV
 go_enter Tryd.func67, Tryd.ntmps67
 go_upto_region 2 with fail
 obtain ⟨w3, hw3⟩ : ∃ w3, w3 = (((w.alloc (.cells (nums .u32 v.list).toArray 93)).alloc (.cells (nums .u32 (List.replicate 8 0)).toArray 93)).alloc (.cells (nums .u32 (List.replicate 64 0)).toArray 99)) := ⟨_, rfl⟩
 have k0 : Blk w3 w.heap.size .u32 93 v.list := by rw [hw3]; exact kd (kd (kC w _) _) _
 have k1 : Blk w3 (w.heap.size + 1) .u32 93 (List.replicate 8 0) := by
  rw [hw3]
  have h := kd (kC (w.alloc (.cells (nums .u32 v.list).toArray 93)) (.cells (nums .u32 (List.replicate 8 0)).toArray 93)) (.cells (nums .u32 (List.replicate 64 0)).toArray 99)
  rw [World.size_alloc] at h
  exact h
 have k2 : Blk w3 (w.heap.size + 1 + 1) .u32 99 (List.replicate 64 0) := by
  rw [hw3]
  have h := kC ((w.alloc (.cells (nums .u32 v.list).toArray 93)).alloc (.cells (nums .u32 (List.replicate 8 0)).toArray 93)) (.cells (nums .u32 (List.replicate 64 0)).toArray 99)
  rw [World.size_alloc, World.size_alloc] at h
  exact h
 have kb : Below w.heap.size w w3 := by rw [hw3]; exact (((Below.refl _ w).alloc (Nat.le_refl _) _).alloc (by simp) _).alloc (by simp; omega) _
 change Code.wp _ _ _ _ (((w.alloc (.cells (nums .u32 v.list).toArray 93)).alloc (.cells (nums .u32 (List.replicate 8 0)).toArray 93)).alloc (.cells (nums .u32 (List.replicate 64 0)).toArray 99))
 rw [← hw3]
 have K0 := Lib.hid k0
 have K1 := Lib.hid k1
 have K2 := Lib.hid k2
 have KB := Lib.hid kb
 clear hw3 k0 k1 k2 kb
 go_wp2_with fail
 go_loopg [21] 16 (fun kq s21 wr => ∃ k : Nat, k + kq = 16 ∧ s21 = .int .i64 k ∧ Hid (Blk wr w.heap.size .u32 93 v.list) ∧ Hid (Blk wr (w.heap.size + 1) .u32 93 (List.replicate 8 0)) ∧ Hid (Blk wr (w.heap.size + 1 + 1) .u32 99 ((Sha.wordsOf xs).take k ++ List.replicate (64 - k) 0)) ∧ Hid (Below w.heap.size w wr))
 case atStart => exact ⟨0, by omega, rfl, K0.out, K1.out, K2.out, KB.out⟩
 case round =>
  obtain ⟨k, hk, rfl, h0, h1, h2, hBr⟩ := hrel
  by_cases hlt : k < 16
  ·obtain ⟨ad, hA, c0⟩ := C_at_int HC.out (4 * k) (by omega)
   obtain ⟨ad1, hA1, c1⟩ := C_at_int HC.out (4 * k + 1) (by omega)
   obtain ⟨ad2, hA2, c2⟩ := C_at_int HC.out (4 * k + 2) (by omega)
   obtain ⟨ad3, hA3, c3⟩ := C_at_int HC.out (4 * k + 3) (by omega)
   subst hA
   injection hA1 with e1
   injection hA2 with e2
   injection hA3 with e3
   subst e1
   subst e2
   subst e3
   rw [← hBr.out.cell (World.block_lt_of_cell? w _ c0)] at c0
   rw [← hBr.out.cell (World.block_lt_of_cell? w _ c1)] at c1
   rw [← hBr.out.cell (World.block_lt_of_cell? w _ c2)] at c2
   rw [← hBr.out.cell (World.block_lt_of_cell? w _ c3)] at c3
   obtain ⟨y, hy⟩ : ∃ y, y = Sha.word xs k := ⟨_, rfl⟩
   have HY := Lib.hid hy
   clear hy
   have HY2 : Hid (y = bits .or .u32 (bits .or .u32 (bits .or .u32 (xs.getD (4 * k) 0 * 16777216 % 4294967296) (xs.getD (4 * k + 1) 0 * 65536 % 4294967296)) (xs.getD (4 * k + 2) 0 * 256 % 4294967296)) (xs.getD (4 * k + 3) 0)) := HY.out
   obtain ⟨x0, hx0⟩ : ∃ x, x = xs.getD (4 * k) 0 := ⟨_, rfl⟩
   obtain ⟨x1, hx1⟩ : ∃ x, x = xs.getD (4 * k + 1) 0 := ⟨_, rfl⟩
   obtain ⟨x2, hx2⟩ : ∃ x, x = xs.getD (4 * k + 2) 0 := ⟨_, rfl⟩
   obtain ⟨x3, hx3⟩ : ∃ x, x = xs.getD (4 * k + 3) 0 := ⟨_, rfl⟩
   have b0 := HB.out.get (4 * k) (by omega)
   have b1 := HB.out.get (4 * k + 1) (by omega)
   have b2 := HB.out.get (4 * k + 2) (by omega)
   have b3 := HB.out.get (4 * k + 3) (by omega)
   rw [← hx0] at c0 b0 HY2
   rw [← hx1] at c1 b1 HY2
   rw [← hx2] at c2 b2 HY2
   rw [← hx3] at c3 b3 HY2
   clear hx0 hx1 hx2 hx3
   have f0 : IntKind.i64.wrap (4 * (k : Int)) = 4 * (k : Int) := IntWalk.i64_in _ (by omega)
   have f1 : IntKind.i64.wrap (4 * (k : Int) + 1) = 4 * (k : Int) + 1 := IntWalk.i64_in _ (by omega)
   have f2 : IntKind.i64.wrap (4 * (k : Int) + 2) = 4 * (k : Int) + 2 := IntWalk.i64_in _ (by omega)
   have f3 : IntKind.i64.wrap (4 * (k : Int) + 3) = 4 * (k : Int) + 3 := IntWalk.i64_in _ (by omega)
   have g0 : (4 * (k : Int)).toNat = 4 * k := by omega
   have g1 : (4 * (k : Int) + 1).toNat = 4 * k + 1 := by omega
   have g2 : (4 * (k : Int) + 2).toNat = 4 * k + 2 := by omega
   have g3 : (4 * (k : Int) + 3).toNat = 4 * k + 3 := by omega
   have i0 : (0 : Int) ≤ 4 * (k : Int) := by omega
   have i1 : (0 : Int) ≤ 4 * (k : Int) + 1 := by omega
   have i2 : (0 : Int) ≤ 4 * (k : Int) + 2 := by omega
   have i3 : (0 : Int) ≤ 4 * (k : Int) + 3 := by omega
   have j0 : 4 * (k : Int) < (m : Int) := by omega
   have j1 : 4 * (k : Int) + 1 < (m : Int) := by omega
   have j2 : 4 * (k : Int) + 2 < (m : Int) := by omega
   have j3 : 4 * (k : Int) + 3 < (m : Int) := by omega
   have p1 : ad.add (4 * k + 1) = ⟨ad.block, ad.off + (4 * k + 1), none⟩ := add_pos ad _ (by omega)
   have p2 : ad.add (4 * k + 2) = ⟨ad.block, ad.off + (4 * k + 2), none⟩ := add_pos ad _ (by omega)
   have p3 : ad.add (4 * k + 3) = ⟨ad.block, ad.off + (4 * k + 3), none⟩ := add_pos ad _ (by omega)
   rw [p1] at c1
   rw [p2] at c2
   rw [p3] at c3
   clear p1 p2 p3
   have r0 : IntKind.u32.wrap x0 = x0 := by rw [IntKind.wrap_u32]; omega
   have r1 : IntKind.u32.wrap x1 = x1 := by rw [IntKind.wrap_u32]; omega
   have r2 : IntKind.u32.wrap x2 = x2 := by rw [IntKind.wrap_u32]; omega
   have r3 : IntKind.u32.wrap x3 = x3 := by rw [IntKind.wrap_u32]; omega
   have s0 : IntKind.u32.wrap (x0 * 16777216) = x0 * 16777216 % 4294967296 := IntKind.wrap_u32 _
   have s1 : IntKind.u32.wrap (x1 * 65536) = x1 * 65536 % 4294967296 := IntKind.wrap_u32 _
   have s2 : IntKind.u32.wrap (x2 * 256) = x2 * 256 % 4294967296 := IntKind.wrap_u32 _
   have hwl : ((Sha.wordsOf xs).take k ++ List.replicate (64 - k) (0 : Int)).length = 64 := by simp [Sha.wordsOf_length]; omega
   have t0 := h2.out.get k (by rw [hwl]; omega)
   have t1 := h2.out.free k
   go_upto_region 5 with fail
   go_still_tail 34, (by kernel_rfl)
   change wpList _ _ _ _ _ wr.drew
   go_wp2_with fail
   go_roundg (gk - 1)
   case measure => omega
   case rel =>
    rw [← HY2.out]
    have hww : (Sha.wordsOf xs).getD k 0 = y := by
     rw [HY.out, List.getD_eq_getElem?_getD]
     unfold Sha.wordsOf
     rw [List.getElem?_map, List.getElem?_range hlt]
     rfl
    have h2' := Blk.put (w := wr.drew) h2.out k y
    rw [← hww, take_set _ k 64 (by rw [Sha.wordsOf_length]; exact hlt) (by omega)] at h2'
    rw [← hww]
    exact ⟨k + 1, by omega, by go_num, Blk.other (w := wr.drew) h0.out (by omega), Blk.other (w := wr.drew) h1.out (by omega), h2', (hBr.out.drew).setCell (p := ⟨w.heap.size + 1 + 1, k, none⟩) (by show w.heap.size ≤ w.heap.size + 1 + 1; omega) _⟩
  ·have hk16 : k = 16 := by omega
   subst hk16
   have HL0 : Hid (Blk wr (w.heap.size + 1 + 1) .u32 99 (Sha.sched (Sha.wordsOf xs) 0)) := by
    have h := h2.out
    rw [List.take_of_length_le (by rw [Sha.wordsOf_length]; omega)] at h
    exact h
   obtain ⟨M, hM⟩ : ∃ M, M = Sha.wordsOf xs := ⟨_, rfl⟩
   have hMl : M.length = 16 := by rw [hM, Sha.wordsOf_length]
   rw [← hM] at HL0
   have HM := Lib.hid hM
   have HML := Lib.hid hMl
   have G0 := h0
   have G1 := h1
   have GB := hBr
   clear h0 h1 h2 hBr K0 K1 K2 KB hM hMl hk
   go_wp2_with fail
   go_loopg [7] 48 (fun kq s7 wr => ∃ i : Nat, i + kq = 48 ∧ s7 = .int .i64 ((16 + i : Nat) : Int) ∧ Hid (Blk wr w.heap.size .u32 93 v.list) ∧ Hid (Blk wr (w.heap.size + 1) .u32 93 (List.replicate 8 0)) ∧ Hid (Blk wr (w.heap.size + 1 + 1) .u32 99 (Sha.sched M i)) ∧ Hid (Below w.heap.size w wr))
   case atStart => exact ⟨0, by omega, rfl, G0.out, G1.out, HL0.out, GB.out⟩
   case round =>
    obtain ⟨i, hi, rfl, h0, h1, h2, hBr⟩ := hrel
    by_cases hlt : i < 48
    ·obtain ⟨L, hL⟩ : ∃ L, L = Sha.sched M i := ⟨_, rfl⟩
     have hLl : L.length = 64 := by rw [hL]; exact Sha.sched_length M HML.out i
     rw [← hL] at h2
     have HL := Lib.hid hL
     obtain ⟨j, hj⟩ : ∃ j, j = 16 + i := ⟨_, rfl⟩
     rw [← hj]
     have hj2 : 16 ≤ j ∧ j < 64 := by omega
     have c15 := h2.out.get (j - 15) (by omega)
     have c2 := h2.out.get (j - 2) (by omega)
     obtain ⟨q16, hq16⟩ : ∃ q, q = j - 16 := ⟨_, rfl⟩
     obtain ⟨q7, hq7⟩ : ∃ q, q = j - 7 := ⟨_, rfl⟩
     have HQ16 := Lib.hid hq16
     have HQ7 := Lib.hid hq7
     have c16 := h2.out.get (j - 16) (by omega)
     have c7 := h2.out.get (j - 7) (by omega)
     rw [← hq16] at c16
     rw [← hq7] at c7
     have cj := h2.out.get j (by omega)
     have fj := h2.out.free j
     obtain ⟨y15, hy15⟩ : ∃ y, y = L.getD (j - 15) 0 := ⟨_, rfl⟩
     obtain ⟨y2, hy2⟩ : ∃ y, y = L.getD (j - 2) 0 := ⟨_, rfl⟩
     obtain ⟨y16, hy16⟩ : ∃ y, y = L.getD q16 0 := ⟨_, rfl⟩
     obtain ⟨y7, hy7⟩ : ∃ y, y = L.getD q7 0 := ⟨_, rfl⟩
     obtain ⟨yj, hyj⟩ : ∃ y, y = L.getD j 0 := ⟨_, rfl⟩
     have HN : Hid (Sha.nxt L j = Sha.add (Sha.add (Sha.add y16 (Sha.x2 (Sha.x2 (Sha.rot (-7) y15) (Sha.rot (-18) y15)) (y15 / 8))) y7) (Sha.x2 (Sha.x2 (Sha.rot (-17) y2) (Sha.rot (-19) y2)) (y2 / 1024))) := by rw [hy15, hy2, hy16, hy7, hq16, hq7]; exact rfl
     rw [← hy15] at c15
     rw [← hy2] at c2
     rw [← hy16] at c16
     rw [← hy7] at c7
     rw [← hyj] at cj
     have f15 : IntKind.i64.wrap ((j : Int) - 15) = (j : Int) - 15 := IntWalk.i64_in _ (by omega)
     have f2 : IntKind.i64.wrap ((j : Int) - 2) = (j : Int) - 2 := IntWalk.i64_in _ (by omega)
     have g15 : ((j : Int) - 15).toNat = j - 15 := by omega
     have g2 : ((j : Int) - 2).toNat = j - 2 := by omega
     have i15 : (0 : Int) ≤ (j : Int) - 15 := by omega
     have i2 : (0 : Int) ≤ (j : Int) - 2 := by omega
     have l15 : (j : Int) - 15 < 64 := by omega
     have l2 : (j : Int) - 2 < 64 := by omega
     have hw32 : ∀ x, IntKind.u32.wrap x = x % 4294967296 := IntKind.wrap_u32
     have HJ := Lib.hid hj
     have HLL := Lib.hid hLl
     clear hL hy15 hy2 hy16 hy7 hyj hLl hj hq16 hq7
     go_upto_region 10 with fail
     go_quiet (fail)
     have H0 := Lib.hid (Blk.drewN h0.out nq)
     have H1 := Lib.hid (Blk.drewN h1.out nq)
     have H2 := Lib.hid (Blk.drewN h2.out nq)
     have HBD := Lib.hid (kA hBr.out nq)
     have d16 : (wr.drewN nq).cell? ⟨w.heap.size + 1 + 1, q16, none⟩ = some (.int .u32 y16) := c16
     have d7 : (wr.drewN nq).cell? ⟨w.heap.size + 1 + 1, q7, none⟩ = some (.int .u32 y7) := c7
     have dj : (wr.drewN nq).cell? ⟨w.heap.size + 1 + 1, j, none⟩ = some (.int .u32 yj) := cj
     have dfj : (wr.drewN nq).frozen? ⟨w.heap.size + 1 + 1, j, none⟩ = false := fj
     clear c15 c2 c16 c7 cj fj h0 h1 h2 hBr
     generalize wr.drewN nq = w4 at *
     go_upto_region 13 with (go_at_call 73; refine (rot32_calls _ _ _ (by decide)).mono ?_; rintro e w' ⟨rfl, rfl⟩)
     have f16 : IntKind.i64.wrap ((j : Int) - 16) = (q16 : Int) := by rw [IntWalk.i64_in _ (by omega)]; have := HQ16.out; omega
     have f7 : IntKind.i64.wrap ((j : Int) - 7) = (q7 : Int) := by rw [IntWalk.i64_in _ (by omega)]; have := HQ7.out; omega
     have l16 : (q16 : Int) < 64 := by have := HQ16.out; omega
     have l7 : (q7 : Int) < 64 := by have := HQ7.out; omega
     have l16n : q16 < 64 := by omega
     have l7n : q7 < 64 := by omega
     have lj : (j : Int) < 64 := by omega
     go_still_tail 14, (by kernel_rfl)
     change wpList _ _ _ _ _ w4.drew
     go_wp2_with fail
     go_roundg (gk - 1)
     case measure => omega
     case rel =>
      have e : (y16 + bits .xor .u32 (bits .xor .u32 (Sha.rot (-7) y15) (Sha.rot (-18) y15)) (y15 / 8) + y7 + bits .xor .u32 (bits .xor .u32 (Sha.rot (-17) y2) (Sha.rot (-19) y2)) (y2 / 1024)) % 4294967296 = Sha.nxt L j := by
       rw [HN.out]
       unfold Sha.add Sha.x2
       omega
      rw [e]
      have hs : Sha.sched M (i + 1) = L.set j (Sha.nxt L j) := by rw [Sha.sched, ← HL.out, ← HJ.out]
      have h2' := Blk.put (w := w4.drew) H2.out j (Sha.nxt L j)
      rw [← hs] at h2'
      exact ⟨i + 1, by omega, by have := HJ.out; go_num, Blk.other (w := w4.drew) H0.out (by omega), Blk.other (w := w4.drew) H1.out (by omega), h2', (HBD.out.drew).setCell (p := ⟨w.heap.size + 1 + 1, j, none⟩) (by show w.heap.size ≤ w.heap.size + 1 + 1; omega) _⟩
    ·have hi48 : i = 48 := by omega
     subst hi48
     obtain ⟨W, hW⟩ : ∃ W, W = Sha.sched M 48 := ⟨_, rfl⟩
     have hWl : W.length = 64 := by rw [hW]; exact Sha.sched_length M HML.out 48
     rw [← hW] at h2
     have HW := Lib.hid hW
     have HWL := Lib.hid hWl
     clear hW hWl G0 G1 GB HL0 hi
     have a0 := h0.out.get 0 (by show 0 < 8; decide)
     have a1 := h0.out.get 1 (by show 1 < 8; decide)
     have a2 := h0.out.get 2 (by show 2 < 8; decide)
     have a3 := h0.out.get 3 (by show 3 < 8; decide)
     have a4 := h0.out.get 4 (by show 4 < 8; decide)
     have a5 := h0.out.get 5 (by show 5 < 8; decide)
     have a6 := h0.out.get 6 (by show 6 < 8; decide)
     have a7 := h0.out.get 7 (by show 7 < 8; decide)
     simp only [Sha.V8.list, List.getD_cons_zero, List.getD_cons_succ] at a0 a1 a2 a3 a4 a5 a6 a7
     go_upto_region 15 with fail
     have k3 : Blk (wr.alloc (.cells (nums .u32 v.list).toArray 93)) wr.heap.size .u32 93 v.list := kC wr _
     have lt2 : w.heap.size + 1 + 1 < wr.heap.size := h2.out.lt
     have B0 := Lib.hid (Blk.alloc h0.out (.cells (nums .u32 v.list).toArray 93))
     have B1 := Lib.hid (Blk.alloc h1.out (.cells (nums .u32 v.list).toArray 93))
     have B2 := Lib.hid (Blk.alloc h2.out (.cells (nums .u32 v.list).toArray 93))
     have BB := Lib.hid (kt hBr.out (.cells (nums .u32 v.list).toArray 93))
     have B3 := Lib.hid k3
     change Code.wp _ _ _ _ (wr.alloc (.cells (nums .u32 v.list).toArray 93))
     clear a0 a1 a2 a3 a4 a5 a6 a7 h0 h1 h2 hBr k3
     obtain ⟨b3, hb3⟩ : ∃ b3, b3 = wr.heap.size := ⟨_, rfl⟩
     rw [← hb3] at B3 lt2 ⊢
     clear hb3
     generalize wr.alloc (.cells (nums .u32 v.list).toArray 93) = w5 at *
     go_wp2_with fail
     go_loopg [104] 64 (fun kq s104 wr => ∃ i : Nat, i + kq = 64 ∧ s104 = .int .i64 i ∧ Hid (Blk wr w.heap.size .u32 93 v.list) ∧ Hid (Blk wr (w.heap.size + 1) .u32 93 (List.replicate 8 0)) ∧ Hid (Blk wr (w.heap.size + 1 + 1) .u32 99 W) ∧ Hid (Blk wr b3 .u32 93 (Sha.rounds v W i).list) ∧ Hid (Below w.heap.size w wr))
     case atStart => exact ⟨0, by omega, rfl, B0.out, B1.out, B2.out, B3.out, BB.out⟩
     case round =>
      obtain ⟨i, hi, rfl, h0, h1, h2, h3, hBr⟩ := hrel
      by_cases hlt : i < 64
      ·obtain ⟨st, hst⟩ : ∃ st, st = Sha.rounds v W i := ⟨_, rfl⟩
       rw [← hst] at h3
       have HST := Lib.hid hst
       clear hst
       obtain ⟨a, b, cc, d, e, f, gg, h⟩ := st
       have v0 := h3.out.get 0 (by show 0 < 8; decide)
       have v1 := h3.out.get 1 (by show 1 < 8; decide)
       have v2 := h3.out.get 2 (by show 2 < 8; decide)
       have v3 := h3.out.get 3 (by show 3 < 8; decide)
       have v4 := h3.out.get 4 (by show 4 < 8; decide)
       have v5 := h3.out.get 5 (by show 5 < 8; decide)
       have v6 := h3.out.get 6 (by show 6 < 8; decide)
       have v7 := h3.out.get 7 (by show 7 < 8; decide)
       simp only [Sha.V8.list, List.getD_cons_zero, List.getD_cons_succ] at v0 v1 v2 v3 v4 v5 v6 v7
       have ck := HT.out i hlt
       rw [← hBr.out.cell (World.block_lt_of_cell? w _ ck)] at ck
       have cw := h2.out.get i (by rw [HWL.out]; exact hlt)
       obtain ⟨kk, hkk⟩ : ∃ kk, kk = Sha.K.getD i 0 := ⟨_, rfl⟩
       obtain ⟨ww, hww⟩ : ∃ ww, ww = W.getD i 0 := ⟨_, rfl⟩
       rw [← hkk] at ck
       rw [← hww] at cw
       have HKK := Lib.hid hkk
       have HWW := Lib.hid hww
       have li : (i : Int) < 64 := by omega
       have hw32 : ∀ x, IntKind.u32.wrap x = x % 4294967296 := IntKind.wrap_u32
       clear hkk hww
       go_upto_region 18 with fail
       have hB := hBr
       go_quiet (fail)
       have H0 := Lib.hid (Blk.drewN h0.out nq)
       have H1 := Lib.hid (Blk.drewN h1.out nq)
       have H2 := Lib.hid (Blk.drewN h2.out nq)
       have H3 := Lib.hid (Blk.drewN h3.out nq)
       have HB := Lib.hid (kA hB.out nq)
       have v0x : (wr.drewN nq).cell? ⟨b3, 0, none⟩ = some (.int .u32 a) := v0
       have v1x : (wr.drewN nq).cell? ⟨b3, 1, none⟩ = some (.int .u32 b) := v1
       have v2x : (wr.drewN nq).cell? ⟨b3, 2, none⟩ = some (.int .u32 cc) := v2
       have v3x : (wr.drewN nq).cell? ⟨b3, 3, none⟩ = some (.int .u32 d) := v3
       have v4x : (wr.drewN nq).cell? ⟨b3, 4, none⟩ = some (.int .u32 e) := v4
       have v5x : (wr.drewN nq).cell? ⟨b3, 5, none⟩ = some (.int .u32 f) := v5
       have v6x : (wr.drewN nq).cell? ⟨b3, 6, none⟩ = some (.int .u32 gg) := v6
       have v7x : (wr.drewN nq).cell? ⟨b3, 7, none⟩ = some (.int .u32 h) := v7
       have ckx : (wr.drewN nq).cell? ⟨0, i, none⟩ = some (.int .u32 kk) := ck
       have cwx : (wr.drewN nq).cell? ⟨w.heap.size + 1 + 1, i, none⟩ = some (.int .u32 ww) := cw
       clear v0 v1 v2 v3 v4 v5 v6 v7 ck cw h0 h1 h2 h3 hB
       clear hBr
       generalize wr.drewN nq = w6 at *
       go_upto_region 20 with (go_at_call 73; refine (rot32_calls _ _ _ (by decide)).mono ?_; rintro e w' ⟨rfl, rfl⟩)
       go_quiet (fail)
       have J0 := Lib.hid (Blk.drewN H0.out nq)
       have J1 := Lib.hid (Blk.drewN H1.out nq)
       have J2 := Lib.hid (Blk.drewN H2.out nq)
       have J3 := Lib.hid (Blk.drewN H3.out nq)
       have JB := Lib.hid (kA HB.out nq)
       have v0y : (w6.drewN nq).cell? ⟨b3, 0, none⟩ = some (.int .u32 a) := v0x
       have v1y : (w6.drewN nq).cell? ⟨b3, 1, none⟩ = some (.int .u32 b) := v1x
       have v2y : (w6.drewN nq).cell? ⟨b3, 2, none⟩ = some (.int .u32 cc) := v2x
       have v3y : (w6.drewN nq).cell? ⟨b3, 3, none⟩ = some (.int .u32 d) := v3x
       have v4y : (w6.drewN nq).cell? ⟨b3, 4, none⟩ = some (.int .u32 e) := v4x
       have v5y : (w6.drewN nq).cell? ⟨b3, 5, none⟩ = some (.int .u32 f) := v5x
       have v6y : (w6.drewN nq).cell? ⟨b3, 6, none⟩ = some (.int .u32 gg) := v6x
       have v7y : (w6.drewN nq).cell? ⟨b3, 7, none⟩ = some (.int .u32 h) := v7x
       have cky : (w6.drewN nq).cell? ⟨0, i, none⟩ = some (.int .u32 kk) := ckx
       have cwy : (w6.drewN nq).cell? ⟨w.heap.size + 1 + 1, i, none⟩ = some (.int .u32 ww) := cwx
       clear v0x v1x v2x v3x v4x v5x v6x v7x ckx cwx H0 H1 H2 H3 HB
       generalize w6.drewN nq = w7 at *
       have z0 := J3.out.free 0
       have z1 := J3.out.free 1
       have z2 := J3.out.free 2
       have z3 := J3.out.free 3
       have z4 := J3.out.free 4
       have z5 := J3.out.free 5
       have z6 := J3.out.free 6
       have z7 := J3.out.free 7
       go_wp2_with (go_at_call 73; refine (rot32_calls _ _ _ (by decide)).mono ?_; rintro e w' ⟨rfl, rfl⟩)
       go_roundg (gk - 1)
       case measure => omega
       case rel =>
        refine ⟨i + 1, by omega, by go_num, Blk.other (Blk.other (Blk.other (Blk.other (Blk.other (Blk.other (Blk.other (Blk.other J0.out (by omega)) (by omega)) (by omega)) (by omega)) (by omega)) (by omega)) (by omega)) (by omega), Blk.other (Blk.other (Blk.other (Blk.other (Blk.other (Blk.other (Blk.other (Blk.other J1.out (by omega)) (by omega)) (by omega)) (by omega)) (by omega)) (by omega)) (by omega)) (by omega), Blk.other (Blk.other (Blk.other (Blk.other (Blk.other (Blk.other (Blk.other (Blk.other J2.out (by omega)) (by omega)) (by omega)) (by omega)) (by omega)) (by omega)) (by omega)) (by omega), Blk.cast (Blk.put (Blk.put (Blk.put (Blk.put (Blk.put (Blk.put (Blk.put (Blk.put (J3.out) 0 _) 1 _) 2 _) 3 _) 4 _) 5 _) 6 _) 7 _) ?_, Below.setCell (Below.setCell (Below.setCell (Below.setCell (Below.setCell (Below.setCell (Below.setCell (Below.setCell (JB.out) (p := ⟨b3, 0, none⟩) (by show w.heap.size ≤ b3; omega) _) (p := ⟨b3, 1, none⟩) (by show w.heap.size ≤ b3; omega) _) (p := ⟨b3, 2, none⟩) (by show w.heap.size ≤ b3; omega) _) (p := ⟨b3, 3, none⟩) (by show w.heap.size ≤ b3; omega) _) (p := ⟨b3, 4, none⟩) (by show w.heap.size ≤ b3; omega) _) (p := ⟨b3, 5, none⟩) (by show w.heap.size ≤ b3; omega) _) (p := ⟨b3, 6, none⟩) (by show w.heap.size ≤ b3; omega) _) (p := ⟨b3, 7, none⟩) (by show w.heap.size ≤ b3; omega) _⟩
        rw [Sha.rounds, ← HST.out, ← HKK.out, ← HWW.out]
        simp only [Sha.V8.list, List.set_cons_zero, List.set_cons_succ, Sha.rnd, Sha.t1, Sha.t2, Sha.t3, Sha.add, Sha.x2]
        simp only [List.cons.injEq, and_true, true_and]
        omega
      ·have hi64 : i = 64 := by omega
       subst hi64
       obtain ⟨U, hU⟩ : ∃ U, U = Sha.rounds v W 64 := ⟨_, rfl⟩
       rw [← hU] at h3
       obtain ⟨S, hS⟩ : ∃ S, S = Sha.sum8 v U := ⟨_, rfl⟩
       have hSB : S = Sha.block v xs := by rw [hS, hU, HW.out, HM.out]; rfl
       have HSB := Lib.hid hSB
       have HS := Lib.hid hS
       clear hU hSB hS B0 B1 B2 B3 BB hi
       have C0 : Hid (Blk wr w.heap.size .u32 93 (S.list.take 0 ++ v.list.drop 0)) := h0.out
       have C1 := h1
       have C3 := h3
       have CB := hBr
       clear h0 h1 h2 h3 hBr
       go_wp2_with fail
       go_loopg [188] 8 (fun kq s188 wr => ∃ k : Nat, k + kq = 8 ∧ s188 = .int .i64 k ∧ Hid (Blk wr w.heap.size .u32 93 (S.list.take k ++ v.list.drop k)) ∧ Hid (Blk wr (w.heap.size + 1) .u32 93 (List.replicate 8 0)) ∧ Hid (Blk wr b3 .u32 93 U.list) ∧ Hid (Below w.heap.size w wr))
       case atStart => exact ⟨0, by omega, rfl, C0.out, C1.out, C3.out, CB.out⟩
       case round =>
        obtain ⟨k, hk, rfl, h0, h1, h3, hBr⟩ := hrel
        by_cases hlt : k < 8
        ·have c0 := h0.out.get k (by rw [mix_len _ _ _ rfl rfl (by omega)]; exact hlt)
         rw [mix_get _ _ _ rfl rfl hlt] at c0
         have f0 := h0.out.free k
         have c3 := h3.out.get k (by show k < 8; exact hlt)
         obtain ⟨x, hx⟩ : ∃ x, x = v.list.getD k 0 := ⟨_, rfl⟩
         obtain ⟨y, hy⟩ : ∃ y, y = U.list.getD k 0 := ⟨_, rfl⟩
         rw [← hx] at c0
         rw [← hy] at c3
         have hsum : S.list.getD k 0 = (x + y) % 4294967296 := by rw [HS.out, sum8_get v U k hlt, hx, hy]
         have HSUM := Lib.hid hsum
         have lk : (k : Int) < 8 := by omega
         have hw32 : ∀ x, IntKind.u32.wrap x = x % 4294967296 := IntKind.wrap_u32
         clear hx hy hsum
         go_upto_region 28 with fail
         go_still_tail 7, (by kernel_rfl)
         change wpList _ _ _ _ _ wr.drew
         go_wp2_with fail
         go_roundg (gk - 1)
         case measure => omega
         case rel =>
          rw [← HSUM.out]
          refine ⟨k + 1, by omega, by go_num, Blk.cast (Blk.put (w := wr.drew) h0.out k _) (mix_set _ _ _ rfl rfl hlt), Blk.other (w := wr.drew) h1.out (by omega), Blk.other (w := wr.drew) h3.out (by omega), Below.setCell hBr.out.drew (p := ⟨w.heap.size, k, none⟩) (Nat.le_refl _) _⟩
        ·have hk8 : k = 8 := by omega
         subst hk8
         have hS8 : S.list.take 8 ++ v.list.drop 8 = S.list := rfl
         rw [hS8] at h0
         have a0 := h0.out.get 0 (by show 0 < 8; decide)
         have a1 := h0.out.get 1 (by show 1 < 8; decide)
         have a2 := h0.out.get 2 (by show 2 < 8; decide)
         have a3 := h0.out.get 3 (by show 3 < 8; decide)
         have a4 := h0.out.get 4 (by show 4 < 8; decide)
         have a5 := h0.out.get 5 (by show 5 < 8; decide)
         have a6 := h0.out.get 6 (by show 6 < 8; decide)
         have a7 := h0.out.get 7 (by show 7 < 8; decide)
         simp only [Sha.V8.list, List.getD_cons_zero, List.getD_cons_succ] at a0 a1 a2 a3 a4 a5 a6 a7
         have b0 := h1.out.get 0 (by decide)
         have b1 := h1.out.get 1 (by decide)
         have b2 := h1.out.get 2 (by decide)
         have b3' := h1.out.get 3 (by decide)
         have b4 := h1.out.get 4 (by decide)
         have b5 := h1.out.get 5 (by decide)
         have b6 := h1.out.get 6 (by decide)
         have b7 := h1.out.get 7 (by decide)
         have z0 := h1.out.free 0
         have z1 := h1.out.free 1
         have z2 := h1.out.free 2
         have z3 := h1.out.free 3
         have z4 := h1.out.free 4
         have z5 := h1.out.free 5
         have z6 := h1.out.free 6
         have z7 := h1.out.free 7
         go_wp2_with fail
         have hfin := Blk.cast (Blk.put (Blk.put (Blk.put (Blk.put (Blk.put (Blk.put (Blk.put (Blk.put (h1.out) 0 S.a) 1 S.b) 2 S.c) 3 S.d) 4 S.e) 5 S.f) 6 S.g) 7 S.h) (show _ = S.list from rfl)
         refine bodyPost_ret (results_cell_row rfl _ _ (w.heap.size + 1) 93 (nums .u32 S.list).toArray (0, 0) _ rfl hfin Tryd.underlying93 rfl (by kernel_rfl)) rfl ⟨?_, Below.setCell (Below.setCell (Below.setCell (Below.setCell (Below.setCell (Below.setCell (Below.setCell (Below.setCell (hBr.out) (p := ⟨w.heap.size + 1, 0, none⟩) (by show w.heap.size ≤ w.heap.size + 1; omega) _) (p := ⟨w.heap.size + 1, 1, none⟩) (by show w.heap.size ≤ w.heap.size + 1; omega) _) (p := ⟨w.heap.size + 1, 2, none⟩) (by show w.heap.size ≤ w.heap.size + 1; omega) _) (p := ⟨w.heap.size + 1, 3, none⟩) (by show w.heap.size ≤ w.heap.size + 1; omega) _) (p := ⟨w.heap.size + 1, 4, none⟩) (by show w.heap.size ≤ w.heap.size + 1; omega) _) (p := ⟨w.heap.size + 1, 5, none⟩) (by show w.heap.size ≤ w.heap.size + 1; omega) _) (p := ⟨w.heap.size + 1, 6, none⟩) (by show w.heap.size ≤ w.heap.size + 1; omega) _) (p := ⟨w.heap.size + 1, 7, none⟩) (by show w.heap.size ≤ w.heap.size + 1; omega) _⟩
         rw [← HSB.out]
         rfl
end Go.Proofs.YtkkomfomjpcbfaaDoor
