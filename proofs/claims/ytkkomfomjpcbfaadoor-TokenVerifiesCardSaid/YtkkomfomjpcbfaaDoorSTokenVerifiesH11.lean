import Derived.Test.YtkkomfomjpcbfaaDoorSTokenVerifiesH8
import Derived.Laws.CopyOwn
set_option linter.unusedVariables false
set_option linter.unusedSimpArgs false
section
namespace Go.Proofs.YtkkomfomjpcbfaaDoor
open Go.RowKit Go.Proofs.YtkkomfomjpcbfaaDoorW.PrintWords Go.Proofs.YtkkomfomjpcbfaaDoorW.PrintMore Go.Proofs.YtkkomfomjpcbfaaDoorW.PrintLast
attribute [local go_sem ↓] Go.wp_at_zero Go.wp_at_succ
set_option maxHeartbeats 4000000 in
theorem hsum_calls (w : World) (A : Option Addr) (c : Nat) (xss : List (List Int)) (hP : Parts w (fun k => k < w.heap.size) A xss) (hb : ∀ xs ∈ xss, Byts xs) (hl : xss.flatten.length ≤ 1000000000) (hn : xss.length ≤ 1000000000)
  (hT : ∀ i, i < 64 → w.cell? ⟨0, i, none⟩ = some (.int .u32 (Sha.K.getD i 0))) :
  Calls Tryd.prog 42 #[.slice A xss.length c] w fun e w' => e = .returned (.agg (nums .u8 (Sha.sum xss.flatten)).toArray) ∧ Below w.heap.size w w' := by
 have HP := Lib.hid hP
 have HBY := Lib.hid hb
 have HT := Lib.hid hT
 have hz : 0 < w.heap.size := World.block_lt_of_cell? w _ (hT 0 (by decide))
 clear hP hb hT
 obtain ⟨D, hD⟩ : ∃ D, D = Sha.sum xss.flatten := ⟨_, rfl⟩
 have hDl : D.length = 32 := by rw [hD, Sha.sum_length]
 rw [← hD]
 have HD := Lib.hid hD
 clear hD
 go_enter Tryd.func42, Tryd.ntmps42
 go_upto_region 1 with fail
 obtain ⟨w1, hw1⟩ : ∃ w1, w1 = w.alloc (.cells (nums .u8 (List.replicate 32 0)).toArray 50) := ⟨_, rfl⟩
 have k1 : Blk w1 w.heap.size .u8 50 (List.replicate 32 0) := by rw [hw1]; exact kC w _
 have b1 : Below w.heap.size w w1 := by rw [hw1]; exact (Below.refl _ w).alloc (Nat.le_refl _) _
 change Code.wp _ _ _ _ (w.alloc (.cells (nums .u8 (List.replicate 32 0)).toArray 50))
 rw [← hw1]
 clear hw1
 have K1 := Lib.hid k1
 have B1 := Lib.hid b1
 have hs1 := k1.lt
 clear k1 b1
 go_upto_region 2 with (go_at_call 43; refine (hnew_calls w1).mono ?_; rintro e w2 ⟨g, rfl, hH, hB⟩; have HH := Lib.hid hH; have HB := Lib.hid hB; clear hH hB)
 have hs2 := HB.out.size
 have P2 : Hid (Parts w2 (fun k => k < w.heap.size) A xss) := Lib.hid ((HP.out.step (fun k hk hlt => B1.out.block k hk)).step (fun k hk hlt => HB.out.block k hlt))
 have T2 : Hid (∀ i, i < 64 → w2.cell? ⟨0, i, none⟩ = some (.int .u32 (Sha.K.getD i 0))) := Lib.hid (fun i hi => (HB.out.cell (by show 0 < w1.heap.size; omega)).trans ((B1.out.cell (by show 0 < w.heap.size; exact hz)).trans (HT.out i hi)))
 have hwr := Lib.hid (hwrite_calls w2 (fun k => w1.heap.size ≤ k) (fun k => k < w.heap.size) g [] A c xss HH.out P2.out (fun k hk => ⟨by omega, by omega⟩) HBY.out (by simpa using hl) hn T2.out (by omega))
 go_upto_region 3 with (go_at_call 44; refine hwr.out.mono ?_; rintro e w3 ⟨rfl, hH3, hM3⟩; have HH3 := Lib.hid hH3; have HM3 := Lib.hid hM3; clear hH3 hM3)
 have hs3 := HM3.out.size
 have B3 : Hid (Below w.heap.size w w3) := Lib.hid ((B1.out.trans (Mod.below (Mod.of_below HB.out (fun k => w1.heap.size ≤ k)) (by omega) (fun k hk => by omega))).trans (Mod.below HM3.out (by omega) (fun k hk => by omega)))
 have K3 : Hid (Blk w3 w.heap.size .u8 50 (List.replicate 32 0)) := Lib.hid ((HM3.out.block _ (by omega) (by omega)).trans ((HB.out.block _ hs1).trans K1.out))
 have T3 : Hid (∀ i, i < 64 → w3.cell? ⟨0, i, none⟩ = some (.int .u32 (Sha.K.getD i 0))) := Lib.hid (fun i hi => (B3.out.cell (by show 0 < w.heap.size; exact hz)).trans (HT.out i hi))
 have hsm := hsumm_calls w3 _ g ([] ++ xss.flatten) HH3.out (by simpa using hl) T3.out
 rw [List.nil_append] at hsm
 rw [← HD.out] at hsm
 have HSM := Lib.hid hsm
 clear hsm
 have hl9 : (nums .u8 D).length = 32 := by rw [nums_length, hDl]
 have hsz9 : (Tryd.prog.info? 50).map (·.size) = some (nums .u8 D).toArray.size := by
  have e : (nums .u8 D).toArray.size = 32 := by rw [List.size_toArray, hl9]
  have e2 : (Tryd.prog.info? 50).map (·.size) = some 32 := by kernel_rfl
  rw [e]
  exact e2
 have hth : ∀ W : World, Below w3.heap.size w3 W → W.there w.heap.size 0 (nums .u8 D).toArray.size := fun W hW => by
  have e : (nums .u8 D).toArray.size = 32 := by rw [List.size_toArray, hl9]
  have k : Blk W w.heap.size .u8 50 (List.replicate 32 0) := (hW.block _ K3.out.lt).trans K3.out
  rw [e]
  exact k.there
 have HTH := Lib.hid hth
 have HSZ := Lib.hid hsz9
 clear hth hsz9
 go_wp2_with (go_at_call 46; refine HSM.out.mono ?_; rintro e w4 ⟨rfl, hB4⟩; have HB4 := Lib.hid hB4; clear hB4; apply_assumption; refine wpList_store_mid rfl _ _ _ rfl w.heap.size 0 (nums .u8 D).toArray rfl rfl (HTH.out w4 HB4.out) HSZ.out (all_oneCell_toArray (nums_one .u8 D)) ?_; rw [List.toList_toArray]; change wpList _ _ _ _ _ (putA w4 w.heap.size .u8 D))
 have k4 : Blk w4 w.heap.size .u8 50 (List.replicate 32 0) := (HB4.out.block _ K3.out.lt).trans K3.out
 have hfin := k4.putA (k' := .u8) (ys := D) (by rw [hDl]; rfl)
 have b4 : Below w.heap.size w w4 := B3.out.trans (Mod.below (Mod.of_below HB4.out (fun k => w3.heap.size ≤ k)) (by omega) (fun k hk => by omega))
 exact bodyPost_ret (results_cell_row rfl _ _ w.heap.size 50 (nums .u8 D).toArray (0, 0) _ rfl hfin Tryd.underlying50 rfl HSZ.out) rfl ⟨rfl, putA_below b4 (Nat.le_refl _)⟩
end Go.Proofs.YtkkomfomjpcbfaaDoor
end
section
namespace Go.Proofs.YtkkomfomjpcbfaaDoor
open Go.RowKit Go.Proofs.YtkkomfomjpcbfaaDoorW.PrintWords Go.Proofs.YtkkomfomjpcbfaaDoorW.PrintMore Go.Proofs.YtkkomfomjpcbfaaDoorW.PrintLast
attribute [local go_sem ↓] Go.wp_at_zero Go.wp_at_succ
namespace Sha
def xor8 (c : Int) (l : List Int) : List Int := l.map fun b => bits .xor .u8 b c
def key64 (k : List Int) : List Int := if 64 < k.length then sum k ++ List.replicate 32 0 else k ++ List.replicate (64 - k.length) 0
def mac (k t : List Int) : List Int := sum (xor8 92 (key64 k) ++ sum (xor8 54 (key64 k) ++ t))
theorem xor8_length (c : Int) (l : List Int) : (xor8 c l).length = l.length := by simp [xor8]
theorem key64_length (k : List Int) : (key64 k).length = 64 := by
 unfold key64
 split
 ·rw [List.length_append, sum_length]; rfl
 ·rw [List.length_append, List.length_replicate]; omega
theorem byts_zeros (n : Nat) : Byts (List.replicate n 0) := fun x hx => by
 have := List.eq_of_mem_replicate hx
 omega
theorem byts_app {a b : List Int} (ha : Byts a) (hb : Byts b) : Byts (a ++ b) := fun x hx => (List.mem_append.1 hx).elim (ha x) (hb x)
theorem byts_key64 (k : List Int) (h : Byts k) : Byts (key64 k) := by
 unfold key64
 split
 ·exact byts_app (byts_sum _) (byts_zeros _)
 ·exact byts_app h (byts_zeros _)
theorem u8_and_lt (k : IntKind) (a b : BitVec 8) : 0 ≤ ((a ^^^ b).toNat : Int) ∧ ((a ^^^ b).toNat : Int) < 256 := by have := (a ^^^ b).isLt; omega
theorem byts_xor8 (c : Int) (l : List Int) : Byts (xor8 c l) := fun x hx => by
 obtain ⟨y, _, rfl⟩ := List.mem_map.1 hx
 have h := IntKind.wrap_u8 ((BitVec.ofInt 8 y ^^^ BitVec.ofInt 8 c).toNat : Int)
 have h2 := u8_and_lt .u8 (BitVec.ofInt 8 y) (BitVec.ofInt 8 c)
 show 0 ≤ bits .xor .u8 y c ∧ bits .xor .u8 y c < 256
 unfold bits
 first | (simp only []; omega) | exact h2 | (simp [IntKind.wrap_u8]; omega)
end Sha
theorem mixN_len (s v : List Int) (k : Nat) (hs : s.length = v.length) (hk : k ≤ v.length) : (s.take k ++ v.drop k).length = v.length := by
 rw [List.length_append, List.length_take, List.length_drop]; omega
theorem mixN_get (s v : List Int) (k : Nat) (hs : s.length = v.length) (hk : k < v.length) : (s.take k ++ v.drop k).getD k 0 = v.getD k 0 := by
 rw [List.getD_eq_getElem?_getD, List.getElem?_append_right (by rw [List.length_take]; omega), List.length_take, Nat.min_eq_left (by omega), Nat.sub_self, List.getElem?_drop, Nat.add_zero, ← List.getD_eq_getElem?_getD]
theorem mixN_set (s v : List Int) (k : Nat) (hs : s.length = v.length) (hk : k < v.length) : (s.take k ++ v.drop k).set k (s.getD k 0) = s.take (k + 1) ++ v.drop (k + 1) := by
 have h1 : (s.take k).length = k := by rw [List.length_take]; omega
 rw [List.set_append_right _ _ (by omega), h1, Nat.sub_self, List.drop_eq_getElem_cons hk, List.set_cons_zero, List.take_succ_eq_append_getElem (by omega), List.append_assoc, List.getD_eq_getElem?_getD, List.getElem?_eq_getElem (by omega)]
 rfl
theorem Blk.C {w : World} {g t : Nat} {k : IntKind} {xs : List Int} (h : Blk w g k t xs) (hm : xs.length ≤ 9223372036854775807) : (Kd.int k).C w (some ⟨g, 0, none⟩) xs.length xs := by
 refine ⟨rfl, hm, fun hp => ⟨⟨g, 0, none⟩, rfl, fun i p hi => ⟨[.int k p], rfl, rfl, fun j u hu => ?_⟩⟩⟩
 rcases j with _ | j
 ·injection hu with hu
  subst hu
  have hlt : i < xs.length := (List.getElem?_eq_some_iff.1 hi).1
  have hg := h.get i hlt
  rw [List.getD_eq_getElem?_getD, hi] at hg
  have e : (⟨g, 0, none⟩ : Addr).add (i * 1 + 0) = ⟨g, i, none⟩ := by rw [Addr.add_mid]; simp
  exact (congrArg w.cell? e).trans hg
 ·cases hu
theorem Blk.F {w : World} {g t : Nat} {k : IntKind} {xs : List Int} (h : Blk w g k t xs) (hm : xs.length ≤ 9223372036854775807) : Kd.F (Kd.int k) w (fun j => j = g) (some ⟨g, 0, none⟩) xs.length xs :=
 fun W hW => Blk.C (t := t) ((hW g rfl h.lt).trans h) hm
set_option maxHeartbeats 4000000 in
theorem pad_calls (w : World) (xs : List Int) (c : Int) (hl : xs.length = 64) (hb : Byts xs) :
  Calls Tryd.prog 45 #[.agg (nums .u8 xs).toArray, .int .u8 c] w fun e w' => e = .returned (.slice (some ⟨w.heap.size, 0, none⟩) 64 64) ∧ Blk w' w.heap.size .u8 66 (Sha.xor8 c xs) ∧ Below w.heap.size w w' := by
 have HB := Lib.hid hb
 clear hb
 go_enter Tryd.func45, Tryd.ntmps45
 go_upto_region 1 with fail
 obtain ⟨Y, hY⟩ : ∃ Y, Y = Sha.xor8 c xs := ⟨_, rfl⟩
 have hYl : Y.length = xs.length := by rw [hY, Sha.xor8_length]
 obtain ⟨w1, hw1⟩ : ∃ w1, w1 = w.alloc (.cells (nums .u8 xs).toArray 66) := ⟨_, rfl⟩
 have k1 : Blk w1 w.heap.size .u8 66 (Y.take 0 ++ xs.drop 0) := by rw [hw1]; exact kC w _
 have b1 : Below w.heap.size w w1 := by rw [hw1]; exact (Below.refl _ w).alloc (Nat.le_refl _) _
 rw [← hw1]
 have HY := Lib.hid hY
 have K1 := Lib.hid k1
 have B1 := Lib.hid b1
 clear hw1 hY k1 b1
 go_wp2_with fail
 go_loopg [6] 64 (fun kq s6 wr => ∃ k : Nat, k + kq = 64 ∧ s6 = .int .i64 k ∧ Hid (Blk wr w.heap.size .u8 66 (Y.take k ++ xs.drop k)) ∧ Hid (Below w.heap.size w wr))
 case atStart => exact ⟨0, by omega, rfl, K1.out, B1.out⟩
 case round =>
  obtain ⟨k, hk, rfl, h1, hBr⟩ := hrel
  by_cases hlt : k < 64
  ·have c0 := h1.out.get k (by rw [mixN_len _ _ _ hYl (by omega)]; omega)
   rw [mixN_get _ _ _ hYl (by omega)] at c0
   have f0 := h1.out.free k
   obtain ⟨x, hx⟩ : ∃ x, x = xs.getD k 0 := ⟨_, rfl⟩
   obtain ⟨y, hy⟩ : ∃ y, bits .xor .u8 x c = y := ⟨_, rfl⟩
   have hyY : y = Y.getD k 0 := by
    rw [← hy, HY.out, hx]
    unfold Sha.xor8
    rw [List.getD_eq_getElem?_getD, List.getD_eq_getElem?_getD, List.getElem?_map, List.getElem?_eq_getElem (by omega)]
    rfl
   rw [← hx] at c0
   have HYY := Lib.hid hyY
   have lk : (k : Int) < 64 := by omega
   clear hx hyY
   go_wp2_with fail
   go_roundg (gk - 1)
   case measure => omega
   case rel =>
    refine ⟨k + 1, by omega, by go_num, ?_, hBr.out.setCell (p := ⟨w.heap.size, k, none⟩) (Nat.le_refl _) _⟩
    rw [HYY.out]
    exact Blk.cast (Blk.put h1.out k _) (mixN_set _ _ _ hYl (by omega))
  ·have hk64 : k = 64 := by omega
   subst hk64
   have h2 := h1.out
   rw [List.take_of_length_le (by omega), List.drop_of_length_le (by omega), List.append_nil, HY.out] at h2
   have H2 := Lib.hid h2
   clear h2 hlt hk
   go_wp2_with fail
   go_ret
   exact ⟨rfl, H2.out, hBr.out⟩
end Go.Proofs.YtkkomfomjpcbfaaDoor
end
section
namespace Go.Proofs.YtkkomfomjpcbfaaDoor
open Go.RowKit Go.Proofs.YtkkomfomjpcbfaaDoorW.PrintWords Go.Proofs.YtkkomfomjpcbfaaDoorW.PrintMore Go.Proofs.YtkkomfomjpcbfaaDoorW.PrintLast
attribute [local go_sem ↓] Go.wp_at_zero Go.wp_at_succ
section
variable {ops : Array Oper} {rest : List Oper} {o : Oper} {a : Act} {w : World} {Q : Exit → Act → World → Prop}
theorem wl_alloc32 (hgd : o.guard = none) (ho : o.op = .alloc 50)
  (h : wpList Tryd.prog ops Q rest (a.put o.dst (.pointer (some ⟨w.heap.size, 0, none⟩))) (w.alloc (.cells (nums .u8 (List.replicate 32 0)).toArray 50))) : wpList Tryd.prog ops Q (o :: rest) a w := by
 refine wpList_plain hgd fun K hK => ?_
 unfold Oper.wp
 unfold execOp
 rw [ho]
 go_simp
 exact hK _ _ h
theorem wl_move {P : Program} (x : Operand) (hgd : o.guard = none) (ho : o.op = .move x) (h : wpList P ops Q rest (a.put o.dst (a.eval x)) w) : wpList P ops Q (o :: rest) a w := by
 refine wpList_plain hgd fun K hK => ?_
 unfold Oper.wp
 unfold execOp
 rw [ho]
 exact hK _ _ h
end
theorem Hs.step {w w1 : World} {ok : Nat → Prop} {g : Nat} {t : List Int} (h : Hs w ok g t) (hm : ∀ k, ok k → k < w.heap.size → w1.heap[k]? = w.heap[k]?) : Hs w1 ok g t := by
 obtain ⟨vl, h⟩ := h
 exact ⟨vl, (hm g h.okg (ky h.blk)).trans h.blk, Kd.R_step h.row hm, h.okg, h.byts⟩
theorem Hs.bound {w : World} {ok : Nat → Prop} {g : Nat} {t : List Int} (h : Hs w ok g t) : Hs w (fun k => ok k ∧ k < w.heap.size) g t := by
 obtain ⟨vl, h⟩ := h
 exact ⟨vl, h.blk, Kd.R_mono (Kd.R_bound h.row) (fun k hk => ⟨hk.1, hk.2.2.1⟩), ⟨h.okg, ky h.blk⟩, h.byts⟩
theorem Hs.mono {w : World} {ok ok' : Nat → Prop} {g : Nat} {t : List Int} (h : Hs w ok g t) (hk : ∀ k, ok k → ok' k) : Hs w ok' g t := by
 obtain ⟨vl, h⟩ := h
 exact ⟨vl, h.blk, Kd.R_mono h.row hk, hk g h.okg, h.byts⟩
theorem C_src {k : IntKind} {w : World} {A : Option Addr} {n : Nat} {xs : List Int} (h : (Kd.int k).C w A n xs) (hn : 0 < n) : ∃ ad, A = some ad ∧ ∀ j v, (nums k xs)[j]? = some v → w.cell? (ad.add j) = some v := by
 have hl : xs.length = n := h.1
 obtain ⟨ad, hA, _⟩ := C_at_int h 0 hn
 refine ⟨ad, hA, fun j v hv => ?_⟩
 have hj : j < xs.length := by
  have := (List.getElem?_eq_some_iff.1 hv).1
  rwa [nums_length] at this
 obtain ⟨ad', hA', hc⟩ := C_at_int h j (by omega)
 rw [hA] at hA'
 injection hA' with e
 subst e
 have h2 := nums_get k xs j hj
 rw [List.getElem?_toArray, hv] at h2
 rw [hc]
 exact h2.symm
theorem splice_zeros (ys : List Int) (n : Nat) (h : ys.length ≤ n) : splice (nums .u8 (List.replicate n 0)) 0 (nums .u8 ys) = nums .u8 (ys ++ List.replicate (n - ys.length) 0) := by
 unfold splice
 rw [List.take_zero, List.nil_append, Nat.zero_add, nums_length]
 simp [nums]
theorem ks {B B' : Nat} {w w1 : World} (h : Below B' w w1) (hB : B ≤ B') : Below B w w1 := ⟨h.os, h.tape, h.output, h.size, fun k hk => h.block k (Nat.lt_of_lt_of_le hk hB)⟩
structure Kst (w wr : World) (K : List Int) : Prop where
 r : Blk wr w.heap.size .u8 50 (List.replicate 32 0)
 k : Blk wr (w.heap.size + 1) .u8 66 K
 b : Below w.heap.size w wr
theorem Kst.size {w wr : World} {K : List Int} (h : Kst w wr K) : w.heap.size + 2 ≤ wr.heap.size := ky h.k
theorem Kst.step {w wr w1 : World} {K : List Int} {S : Nat → Prop} (h : Kst w wr K) (hm : Mod S wr w1) (hS : ∀ k, S k → w.heap.size + 2 ≤ k) : Kst w w1 K :=
 ⟨hm.blk h.r (fun hk => by have := hS _ hk; omega), hm.blk h.k (fun hk => by have := hS _ hk; omega), h.b.trans (Mod.below hm (by have := h.size; omega) (fun k hk => by have := hS k hk; omega))⟩
theorem Kst.below {w wr w1 : World} {K : List Int} (h : Kst w wr K) (hb : Below wr.heap.size wr w1) : Kst w w1 K := h.step (Mod.of_below hb (fun k => wr.heap.size ≤ k)) (fun k hk => Nat.le_trans h.size hk)
theorem Kst.alloc {w wr : World} {K : List Int} (h : Kst w wr K) (o : Obj) : Kst w (wr.alloc o) K := h.below (kt (Below.refl _ _) o)
theorem cell_alloc_new (w : World) (v : Value) (t : Nat) : (w.alloc (.cells #[v] t)).cell? ⟨w.heap.size, 0, none⟩ = some v := (ka (kC w (.cells #[v] t)) 0).trans rfl
theorem Parts.bound {w : World} {okP : Nat → Prop} {A : Option Addr} {xss : List (List Int)} (h : Parts w okP A xss) : Parts w (fun k => okP k ∧ k < w.heap.size) A xss := by
 intro i hi
 obtain ⟨ad, B, c, e, hk, hc, hF⟩ := h i hi
 exact ⟨ad, B, c, e, ⟨hk, World.block_lt_of_cell? w _ hc⟩, hc, Kd.F_bound hF⟩
theorem Parts.mono {w : World} {okP okP' : Nat → Prop} {A : Option Addr} {xss : List (List Int)} (h : Parts w okP A xss) (hk : ∀ k, okP k → okP' k) : Parts w okP' A xss := by
 intro i hi
 obtain ⟨ad, B, c, e, h1, hc, hF⟩ := h i hi
 exact ⟨ad, B, c, e, hk _ h1, hc, Kd.F_mono hF hk⟩
theorem Parts.one {w : World} {okP : Nat → Prop} {B : Option Addr} {c t : Nat} {xs : List Int} (hf : Kd.F (Kd.int .u8) w okP B xs.length xs) (hk : okP w.heap.size) :
  Parts (w.alloc (.cells #[.slice B xs.length c] t)) okP (some ⟨w.heap.size, 0, none⟩) [xs] := by
 intro i hi
 have hi0 : i = 0 := by simpa using hi
 subst hi0
 exact ⟨⟨w.heap.size, 0, none⟩, B, c, rfl, hk, cell_alloc_new w _ t, Kd.F_alloc hf _⟩
theorem Parts.two {w : World} {okP : Nat → Prop} {B B' : Option Addr} {c c' t : Nat} {xs ys : List Int} (hf : Kd.F (Kd.int .u8) w okP B xs.length xs) (hf' : Kd.F (Kd.int .u8) w okP B' ys.length ys) (hk : okP w.heap.size) :
  Parts (w.alloc (.cells #[.slice B xs.length c, .slice B' ys.length c'] t)) okP (some ⟨w.heap.size, 0, none⟩) [xs, ys] := by
 intro i hi
 have hi0 : i = 0 ∨ i = 1 := by simp at hi; omega
 rcases hi0 with rfl | rfl
 ·exact ⟨⟨w.heap.size, 0, none⟩, B, c, rfl, hk, (ka (kC w (.cells #[.slice B xs.length c, .slice B' ys.length c'] t)) 0).trans rfl, Kd.F_alloc hf _⟩
 ·refine ⟨⟨w.heap.size, 0, none⟩, B', c', rfl, ?_, ?_, Kd.F_alloc hf' _⟩
  ·rw [Addr.add_mid]; exact hk
  ·rw [Addr.add_mid, Nat.zero_add]
   exact (ka (kC w (.cells #[.slice B xs.length c, .slice B' ys.length c'] t)) 1).trans rfl
set_option maxRecDepth 20000 in
set_option maxHeartbeats 4000000 in
theorem mac_calls (w : World) (Ak : Option Addr) (ck : Nat) (key : List Int) (A : Option Addr) (c : Nat) (xss : List (List Int)) (hK : (Kd.int .u8).C w Ak key.length key) (hbk : Byts key) (hkl : key.length ≤ 900000000)
  (hP : Parts w (fun k => k < w.heap.size) A xss) (hb : ∀ xs ∈ xss, Byts xs) (hl : xss.flatten.length ≤ 900000000) (hn : xss.length ≤ 900000000)
  (hT : ∀ i, i < 64 → w.cell? ⟨0, i, none⟩ = some (.int .u32 (Sha.K.getD i 0))) :
  Calls Tryd.prog 27 #[.slice Ak key.length ck, .slice A xss.length c] w fun e w' => e = .returned (.agg (nums .u8 (Sha.mac key xss.flatten)).toArray) ∧ Below w.heap.size w w' := by
 have HK := Lib.hid hK
 have HBK := Lib.hid hbk
 have HP := Lib.hid hP
 have HBY := Lib.hid hb
 have HT := Lib.hid hT
 have hz : 0 < w.heap.size := World.block_lt_of_cell? w _ (hT 0 (by decide))
 clear hK hbk hP hb hT
 obtain ⟨K64, hK64⟩ : ∃ K64, K64 = Sha.key64 key := ⟨_, rfl⟩
 obtain ⟨D, hD⟩ : ∃ D, D = Sha.mac key xss.flatten := ⟨_, rfl⟩
 have hDl : D.length = 32 := by rw [hD]; exact Sha.sum_length _
 have hKl : K64.length = 64 := by rw [hK64]; exact Sha.key64_length _
 rw [← hD]
 have HD := Lib.hid hD
 have HK6 := Lib.hid hK64
 clear hD hK64
 go_enter Tryd.func27, Tryd.ntmps27
 go_upto_region 2 with fail
 obtain ⟨w2, hw2⟩ : ∃ w2, w2 = ((w.alloc (.cells (nums .u8 (List.replicate 32 0)).toArray 50)).alloc (.cells (nums .u8 (List.replicate 64 0)).toArray 66)) := ⟨_, rfl⟩
 have k2 : Kst w w2 (List.replicate 64 0) := by
  rw [hw2]
  refine ⟨kd (kC w _) _, ?_, ((Below.refl _ w).alloc (Nat.le_refl _) _).alloc (by simp) _⟩
  have h := kC (w.alloc (.cells (nums .u8 (List.replicate 32 0)).toArray 50)) (.cells (nums .u8 (List.replicate 64 0)).toArray 66)
  rw [World.size_alloc] at h
  exact h
 change Code.wp _ _ _ _ ((w.alloc (.cells (nums .u8 (List.replicate 32 0)).toArray 50)).alloc (.cells (nums .u8 (List.replicate 64 0)).toArray 66))
 rw [← hw2]
 have K2 := Lib.hid k2
 clear hw2 k2
 go_upto_if 11 with fail
 go_cut [] (fun wx => Hid (Kst w wx K64))
 case first =>
  by_cases hlt : 64 < key.length
  ·have hlt2 : (64 : Int) < (key.length : Int) := by omega
   go_upto_region 3 with fail
   obtain ⟨D1, hD1⟩ : ∃ D1, D1 = Sha.sum key := ⟨_, rfl⟩
   have hD1l : D1.length = 32 := by rw [hD1, Sha.sum_length]
   have HD1 := Lib.hid hD1
   clear hD1
   have hs2 := K2.out.size
   have hf2 : Kd.F (Kd.int .u8) w2 (fun k => k < (w2.alloc (.cells #[.slice Ak key.length ck] 45)).heap.size) Ak key.length key := Kd.F_mono (Kd.C_F (Kd.heap_int .u8) (Kd.C_below HK.out K2.out.b)) (fun k hk => by rw [World.size_alloc]; omega)
   have hp2 : Parts (w2.alloc (.cells #[.slice Ak key.length ck] 45)) (fun k => k < (w2.alloc (.cells #[.slice Ak key.length ck] 45)).heap.size) (some ⟨w2.heap.size, 0, none⟩) [key] := Parts.one hf2 (by rw [World.size_alloc]; omega)
   have hcall := hsum_calls _ _ 1 [key] hp2 (fun xs hx => by rw [List.mem_singleton.1 hx]; exact HBK.out) (by simp; omega) (by simp) (fun i hi => ((K2.out.alloc _).b.cell (World.block_lt_of_cell? w _ (HT.out i hi))).trans (HT.out i hi))
   have hfl : [key].flatten = key := by simp
   rw [hfl, ← HD1.out] at hcall
   have HCALL := Lib.hid hcall
   clear hcall hf2 hp2 hfl
   have hl1 : (nums .u8 D1).length = 32 := by rw [nums_length, hD1l]
   have hsz1 : (Tryd.prog.info? 50).map (·.size) = some (nums .u8 D1).toArray.size := by
    have e : (nums .u8 D1).toArray.size = 32 := by rw [List.size_toArray, hl1]
    have e2 : (Tryd.prog.info? 50).map (·.size) = some 32 := by kernel_rfl
    rw [e]
    exact e2
   have hth : ∀ W : World, (W.alloc (.cells (nums .u8 (List.replicate 32 0)).toArray 50)).there W.heap.size 0 (nums .u8 D1).toArray.size := fun W => by
    have e : (nums .u8 D1).toArray.size = 32 := by rw [List.size_toArray, hl1]
    have k : Blk (W.alloc (.cells (nums .u8 (List.replicate 32 0)).toArray 50)) W.heap.size .u8 50 (List.replicate 32 0) := kC W _
    rw [e]
    exact k.there
   have HTH := Lib.hid hth
   have HSZ := Lib.hid hsz1
   clear hth hsz1 hl1
   go_upto_region 4 with (go_at_call 42; refine HCALL.out.mono ?_; rintro e w4 ⟨rfl, hB4⟩; have HB4 := Lib.hid hB4; clear hB4; apply_assumption; refine wl_alloc32 rfl rfl ?_; refine wpList_store_mid rfl _ _ _ rfl w4.heap.size 0 (nums .u8 D1).toArray rfl rfl (HTH.out w4) HSZ.out (all_oneCell_toArray (nums_one .u8 D1)) ?_; rw [List.toList_toArray]; change wpList _ _ _ _ _ (putA (w4.alloc (.cells (nums .u8 (List.replicate 32 0)).toArray 50)) w4.heap.size .u8 D1))
   simp only [Act.put, List.setIfInBounds_toArray, List.set_cons_zero, List.set_cons_succ]
   have k4 : Kst w w4 (List.replicate 64 0) := (K2.out.alloc _).below HB4.out
   have a4 : Blk (w4.alloc (.cells (nums .u8 (List.replicate 32 0)).toArray 50)) w4.heap.size .u8 50 (List.replicate 32 0) := kC w4 _
   have k5 : Kst w (putA (w4.alloc (.cells (nums .u8 (List.replicate 32 0)).toArray 50)) w4.heap.size .u8 D1) (List.replicate 64 0) := (k4.alloc _).step (putA_mod (S := fun k => w4.heap.size ≤ k) (Mod.refl _ _) (.inl (Nat.le_refl _))) (fun k hk => Nat.le_trans k4.size hk)
   have a5 := a4.putA (k' := .u8) (ys := D1) (by rw [hD1l]; rfl)
   obtain ⟨sb, hsb⟩ : ∃ sb, sb = w4.heap.size := ⟨_, rfl⟩
   have hsb2 : w.heap.size + 2 ≤ sb := by rw [hsb]; exact k4.size
   obtain ⟨w5, hw5⟩ : ∃ w5, w5 = putA (w4.alloc (.cells (nums .u8 (List.replicate 32 0)).toArray 50)) w4.heap.size .u8 D1 := ⟨_, rfl⟩
   rw [← hw5, ← hsb] at a5
   rw [← hw5] at k5
   rw [← hw5, ← hsb]
   clear hw5 hsb a4 k4
   have K5 := Lib.hid k5
   have A5 := Lib.hid a5
   clear k5 a5
   have hkk : w5.drew.heap[w.heap.size + 1]? = some (.cells (nums .u8 (List.replicate 64 0)).toArray 66 (0, 0)) := K5.out.k
   have HKK := Lib.hid hkk
   have HSRC := Lib.hid (C_src (w := w5.drew) (Kd.C_drew (A5.out.C (by omega))) (by omega))
   clear hkk
   go_region_held3 (fun _ => True) (exact trivial) (first | (refine step_copy_splice rfl (.tmp 15) (.tmp 16) 45 45 rfl 5 Tryd.underlying45 (by kernel_rfl) _ _ _ _ _ _ rfl rfl (w.heap.size + 1) 0 (nums .u8 (List.replicate 64 0)) 66 HKK.out (nums .u8 D1) (by rw [nums_length, hD1l]; rfl) (fun hp => ⟨rfl, HSRC.out⟩) (by rw [nums_length, nums_length, List.length_replicate, hD1l]; omega) (nums_one .u8 D1) (w.heap.size + 1) w5.drew (Below.refl _ _) (Nat.le_refl _) ?_; intro w6 hg6 hb6; have HG6 := Lib.hid hg6; have HB6 := Lib.hid hb6; clear hg6 hb6))
   go_wp2_with fail
   go_meet
   have hr6 := (HB6.out.block _ (by omega)).trans K5.out.r
   have hk6 : w6.heap[w.heap.size + 1]? = _ := HG6.out.out
   rw [splice_zeros D1 64 (by omega), hD1l] at hk6
   have e : K64 = D1 ++ List.replicate (64 - 32) 0 := by rw [HK6.out, Sha.key64, if_pos hlt, ← HD1.out]
   rw [e]
   exact ⟨hr6, hk6, K5.out.b.trans (Below.trans ((Below.refl _ _).drew) (ks HB6.out (Nat.le_succ _)))⟩
  ·have hlt2 : ¬ (64 : Int) < (key.length : Int) := by omega
   go_wp2_with (show wpList _ _ _ ({ dst := _, op := .call { callee := .builtin .copy, args := _, argTypes := _ }, type := _, pos := _, after := _, guard := _ } :: _) _ _; refine wpList_copy_splice rfl (.tmp 18) (.tmp 19) 45 45 rfl 5 Tryd.underlying45 (by kernel_rfl) _ _ _ _ _ _ rfl rfl (w.heap.size + 1) 0 (nums .u8 (List.replicate 64 0)) 66 K2.out.k (nums .u8 key) (by rw [nums_length]; exact (Nat.min_eq_left (by omega)).symm) (fun hp => ⟨rfl, C_src (Kd.C_below HK.out K2.out.b) (by rw [nums_length] at hp; exact hp)⟩) (by rw [nums_length, nums_length, List.length_replicate]; omega) (nums_one .u8 key) (w.heap.size + 1) w2 (Below.refl _ w2) (Nat.le_refl _) ?_; intro w3 hg3 hb3; have HG3 := Lib.hid hg3; have HB3 := Lib.hid hb3; clear hg3 hb3)
   go_meet
   have hr3 := (HB3.out.block _ (by omega)).trans K2.out.r
   have hk3 : w3.heap[w.heap.size + 1]? = _ := HG3.out.out
   rw [splice_zeros key 64 (by omega)] at hk3
   have e : K64 = key ++ List.replicate (64 - key.length) 0 := by rw [HK6.out, Sha.key64, if_neg hlt]
   rw [e]
   exact ⟨hr3, hk3, K2.out.b.trans (ks HB3.out (Nat.le_succ _))⟩
 case rest =>
  have hs6 := hcut.out.size
  have T6 : ∀ W : World, Below w.heap.size w W → ∀ i, i < 64 → W.cell? ⟨0, i, none⟩ = some (.int .u32 (Sha.K.getD i 0)) := fun W hW i hi => (hW.cell (World.block_lt_of_cell? w _ (HT.out i hi))).trans (HT.out i hi)
  have T6 := Lib.hid T6
  go_upto_region 7 with (go_at_call 43; refine (hnew_calls _).mono ?_; rintro e w7 ⟨g, rfl, hH7, hB7⟩; have HB7 := Lib.hid hB7; have HH7 := Lib.hid hH7.bound; clear hB7 hH7)
  have hs7 := HB7.out.size
  have K7 := Lib.hid (hcut.out.below HB7.out)
  have hKn : (nums .u8 K64).length = 64 := by rw [nums_length, hKl]
  obtain ⟨X1, hX1⟩ : ∃ X1, X1 = Sha.xor8 54 K64 := ⟨_, rfl⟩
  have hX1l : X1.length = 64 := by rw [hX1, Sha.xor8_length, hKl]
  have hbX1 : Byts X1 := by rw [hX1]; exact Sha.byts_xor8 _ _
  have hpad1 := pad_calls w7 K64 54 hKl (by rw [HK6.out]; exact Sha.byts_key64 _ HBK.out)
  rw [← hX1] at hpad1
  have HX1 := Lib.hid hX1
  have HBX1 := Lib.hid hbX1
  have HPAD1 := Lib.hid hpad1
  clear hX1 hbX1 hpad1
  refine wp_region_lit ?_
  refine wl_move _ rfl rfl ?_
  refine wpList_load_mid rfl _ _ rfl (w.heap.size + 1) 0 rfl (nums .u8 K64) _ K7.out.k.range Tryd.underlying66 rfl (by rw [hKn]; kernel_rfl) ?_
  simp only [Act.put, List.setIfInBounds_toArray, List.set_cons_zero, List.set_cons_succ]
  go_upto_region 8 with (first | (go_at_call 45; refine HPAD1.out.mono ?_; rintro e w8 ⟨rfl, hA8, hB8⟩; have HA8 := Lib.hid hA8; have HB8 := Lib.hid hB8; clear hA8 hB8; have hs8 := HA8.out.lt; have K8 := Lib.hid (K7.out.below HB8.out); have hf8 : Kd.F (Kd.int .u8) w8 (fun k => w7.heap.size ≤ k) (some ⟨w7.heap.size, 0, none⟩) X1.length X1 := Kd.F_mono (HA8.out.F (by omega)) (fun k hk => by omega); have hp9 := Parts.one (c := 64) (t := 45) hf8 (Nat.le_of_lt hs8); rw [hX1l] at hp9; have HP9 := Lib.hid hp9; clear hf8 hp9; have hwr9 := hwrite_calls (w8.alloc (.cells #[.slice (some ⟨w7.heap.size, 0, none⟩) 64 64] 45)) (fun k => wc.heap.size ≤ k ∧ k < w7.heap.size) (fun k => w7.heap.size ≤ k ∧ k < (w8.alloc (.cells #[.slice (some ⟨w7.heap.size, 0, none⟩) 64 64] 45)).heap.size) g [] (some ⟨w8.heap.size, 0, none⟩) 1 [X1] (HH7.out.step (fun k hk hlt => (Below.heap_alloc w8 _ k (by omega)).trans (HB8.out.block k hk.2))) (HP9.out.bound) (fun k hk => ⟨by omega, hk.2⟩) (fun xs hx => by rw [List.mem_singleton.1 hx]; exact HBX1.out) (by simp; omega) (by simp) (T6.out _ (K8.out.alloc _).b) (by omega); have HWR9 := Lib.hid hwr9; clear hwr9) | (go_at_call 44; refine HWR9.out.mono ?_; rintro e w10 ⟨rfl, hH10, hM10⟩; have HH10 := Lib.hid hH10; have HM10 := Lib.hid hM10; clear hH10 hM10))
  have hs10 := HM10.out.size
  have hs9 : w8.heap.size + 1 = (w8.alloc (.cells #[.slice (some ⟨w7.heap.size, 0, none⟩) 64 64] 45)).heap.size := (World.size_alloc _ _).symm
  have K10 := Lib.hid ((K8.out.alloc _).step HM10.out (fun k hk => by omega))
  have hf1 : [] ++ [X1].flatten = X1 := by simp
  have hh10 := HH10.out
  rw [hf1] at hh10
  have hP10 : Parts w10 (fun k => k < w.heap.size) A xss := HP.out.step (fun k hk hlt => K10.out.b.block k hk)
  have hwr10 := hwrite_calls w10 _ (fun k => k < w.heap.size) g X1 A c xss hh10 hP10 (fun k hk => ⟨by omega, by omega⟩) HBY.out (by omega) (by omega) (T6.out _ K10.out.b) (by omega)
  have HWR10 := Lib.hid hwr10
  clear hh10 hP10 hwr10 hf1
  go_upto_region 9 with (go_at_call 44; refine HWR10.out.mono ?_; rintro e w11 ⟨rfl, hH11, hM11⟩; have HH11 := Lib.hid hH11; have HM11 := Lib.hid hM11; clear hH11 hM11)
  have hs11 := HM11.out.size
  have K11 := Lib.hid (K10.out.step HM11.out (fun k hk => by omega))
  obtain ⟨D1, hD1⟩ : ∃ D1, D1 = Sha.sum (X1 ++ xss.flatten) := ⟨_, rfl⟩
  have hD1l : D1.length = 32 := by rw [hD1, Sha.sum_length]
  have hsm11 := hsumm_calls w11 _ g (X1 ++ xss.flatten) HH11.out (by rw [List.length_append]; omega) (T6.out _ K11.out.b)
  rw [← hD1] at hsm11
  have HSM11 := Lib.hid hsm11
  have HD1 := Lib.hid hD1
  clear hD1 hsm11
  have hl1 : (nums .u8 D1).length = 32 := by rw [nums_length, hD1l]
  have hsz1 : (Tryd.prog.info? 50).map (·.size) = some (nums .u8 D1).toArray.size := by
   have e : (nums .u8 D1).toArray.size = 32 := by rw [List.size_toArray, hl1]
   have e2 : (Tryd.prog.info? 50).map (·.size) = some 32 := by kernel_rfl
   rw [e]
   exact e2
  have hth : ∀ W : World, (W.alloc (.cells (nums .u8 (List.replicate 32 0)).toArray 50)).there W.heap.size 0 (nums .u8 D1).toArray.size := fun W => by
   have e : (nums .u8 D1).toArray.size = 32 := by rw [List.size_toArray, hl1]
   have k : Blk (W.alloc (.cells (nums .u8 (List.replicate 32 0)).toArray 50)) W.heap.size .u8 50 (List.replicate 32 0) := kC W _
   rw [e]
   exact k.there
  have HTH := Lib.hid hth
  have HSZ := Lib.hid hsz1
  clear hth hsz1 hl1
  go_upto_region 10 with (go_at_call 46; refine HSM11.out.mono ?_; rintro e w12 ⟨rfl, hB12⟩; have HB12 := Lib.hid hB12; clear hB12; apply_assumption; refine wl_alloc32 rfl rfl ?_; refine wpList_store_mid rfl _ _ _ rfl w12.heap.size 0 (nums .u8 D1).toArray rfl rfl (HTH.out w12) HSZ.out (all_oneCell_toArray (nums_one .u8 D1)) ?_; rw [List.toList_toArray]; change wpList _ _ _ _ _ (putA (w12.alloc (.cells (nums .u8 (List.replicate 32 0)).toArray 50)) w12.heap.size .u8 D1))
  simp only [Act.put, List.setIfInBounds_toArray, List.set_cons_zero, List.set_cons_succ]
  have k12 : Kst w w12 K64 := K11.out.below HB12.out
  have a12 : Blk (w12.alloc (.cells (nums .u8 (List.replicate 32 0)).toArray 50)) w12.heap.size .u8 50 (List.replicate 32 0) := kC w12 _
  have k13 : Kst w (putA (w12.alloc (.cells (nums .u8 (List.replicate 32 0)).toArray 50)) w12.heap.size .u8 D1) K64 := (k12.alloc _).step (putA_mod (S := fun k => w12.heap.size ≤ k) (Mod.refl _ _) (.inl (Nat.le_refl _))) (fun k hk => Nat.le_trans k12.size hk)
  have a13 := a12.putA (k' := .u8) (ys := D1) (by rw [hD1l]; rfl)
  obtain ⟨sb, hsb⟩ : ∃ sb, sb = w12.heap.size := ⟨_, rfl⟩
  have hsb2 : w.heap.size + 2 ≤ sb := by rw [hsb]; exact k12.size
  obtain ⟨w13, hw13⟩ : ∃ w13, w13 = putA (w12.alloc (.cells (nums .u8 (List.replicate 32 0)).toArray 50)) w12.heap.size .u8 D1 := ⟨_, rfl⟩
  rw [← hw13, ← hsb] at a13
  rw [← hw13] at k13
  rw [← hw13, ← hsb]
  clear hw13 hsb a12 k12
  have K13 := Lib.hid k13
  have A13 := Lib.hid a13
  clear k13 a13
  obtain ⟨X2, hX2⟩ : ∃ X2, X2 = Sha.xor8 92 K64 := ⟨_, rfl⟩
  have hX2l : X2.length = 64 := by rw [hX2, Sha.xor8_length, hKl]
  have hbX2 : Byts X2 := by rw [hX2]; exact Sha.byts_xor8 _ _
  have hpad2 := pad_calls w13.drew K64 92 hKl (by rw [HK6.out]; exact Sha.byts_key64 _ HBK.out)
  rw [← hX2] at hpad2
  obtain ⟨pb, hpb⟩ : ∃ pb, pb = w13.drew.heap.size := ⟨_, rfl⟩
  have hpb2 : pb = w13.heap.size := hpb
  have hsp : sb < pb := by rw [hpb2]; exact A13.out.lt
  rw [← hpb] at hpad2
  have HX2 := Lib.hid hX2
  have HBX2 := Lib.hid hbX2
  have HPAD2 := Lib.hid hpad2
  have HPB := Lib.hid hpb2
  clear hX2 hbX2 hpad2 hpb hpb2
  have K13d : Hid (Kst w w13.drew K64) := Lib.hid (K13.out.step ((Mod.refl (fun _ => False) _).drew) (fun k hk => hk.elim))
  have hu64 : Tryd.prog.underlying 66 = some (.array 64 5) := Tryd.underlying66
  have hu32 : Tryd.prog.underlying 50 = some (.array 32 5) := Tryd.underlying50
  have hi64 : (Tryd.prog.info? 66).map (·.size) = some (nums .u8 K64).length := by
   have e2 : (Tryd.prog.info? 66).map (·.size) = some 64 := by kernel_rfl
   rw [hKn]
   exact e2
  have hDn : (nums .u8 D).length = 32 := by rw [nums_length, hDl]
  have hi32 : (Tryd.prog.info? 50).map (·.size) = some (nums .u8 D).length := by
   have e2 : (Tryd.prog.info? 50).map (·.size) = some 32 := by kernel_rfl
   rw [hDn]
   exact e2
  have h1D : ∀ v ∈ nums .u8 D, v.oneCell' = true := nums_one .u8 D
  have r13 := Lib.hid K13d.out.k.range
  have HDD : Hid (D = Sha.sum (X2 ++ D1)) := by
   rw [HD.out, Sha.mac, ← HK6.out, ← HX2.out, ← HX1.out, ← HD1.out]
   rfl
  go_region_held3 (fun w' => w'.rangeAt (w.heap.size + 1) 0 (nums .u8 K64)) (first | with_reducible exact r13.out | with_reducible exact r14.out | with_reducible exact r15.out _ | with_reducible exact r16.out | with_reducible exact World.rangeAt_setCells_apart r16.out _ _ _ (.inl (by omega)) | exact r13.out)
   (first | (go_at_call 42; refine HSUM.out.mono ?_; rintro e w16 ⟨rfl, hB16⟩; have HB16 := Lib.hid hB16; clear hB16; have K16 : Hid (Kst w w16 K64) := Lib.hid ((K14.out.alloc _).below HB16.out); have r16 := Lib.hid K16.out.k.range; have th16 : w16.there w.heap.size 0 32 := K16.out.r.there) | (go_at_call 45; refine HPAD2.out.mono ?_; rintro e w14 ⟨rfl, hA14, hB14⟩; have HA14 := Lib.hid hA14; have HB14 := Lib.hid hB14; clear hA14 hB14; have hs14 := HA14.out.lt; have K14 : Hid (Kst w w14 K64) := Lib.hid (K13d.out.below (ks HB14.out (Nat.le_of_eq HPB.out.symm))); have r14 := Lib.hid K14.out.k.range; have r15 := Lib.hid (fun o => (K14.out.alloc o).k.range); have hA14b : Kd.F (Kd.int .u8) w14 (fun k => k < (w14.alloc (.cells #[.slice (some ⟨pb, 0, none⟩) 64 64, .slice (some ⟨sb, 0, none⟩) 32 32] 45)).heap.size) (some ⟨pb, 0, none⟩) X2.length X2 := Kd.F_mono (HA14.out.F (by omega)) (fun k hk => by rw [World.size_alloc]; omega); have hS14 : Blk w14 sb .u8 50 D1 := (HB14.out.block sb hsp).trans A13.out; have hA14c : Kd.F (Kd.int .u8) w14 (fun k => k < (w14.alloc (.cells #[.slice (some ⟨pb, 0, none⟩) 64 64, .slice (some ⟨sb, 0, none⟩) 32 32] 45)).heap.size) (some ⟨sb, 0, none⟩) D1.length D1 := Kd.F_mono (hS14.F (by omega)) (fun k hk => by rw [World.size_alloc]; omega); have hp15 := Parts.two (c := 64) (c' := 32) (t := 45) hA14b hA14c; rw [hX2l, hD1l] at hp15; have hsum := hsum_calls _ _ 2 [X2, D1] (hp15 (by rw [World.size_alloc]; omega)) (fun xs hx => by rcases List.mem_cons.1 hx with rfl | hx; exact HBX2.out; rw [List.mem_singleton.1 hx, HD1.out]; exact Sha.byts_sum _) (by simp only [List.flatten_cons, List.flatten_nil, List.length_append, List.length_nil]; omega) (by simp) (T6.out _ (K14.out.alloc _).b); have hfl : [X2, D1].flatten = X2 ++ D1 := (by simp); rw [hfl, ← HDD.out] at hsum; have HSUM := Lib.hid hsum; clear hA14b hA14c hS14 hp15 hsum hfl))
  go_wp2_with fail
  have hfin := K16.out.r.putA (k' := .u8) (ys := D) (by rw [hDl]; rfl)
  have hsD : (Tryd.prog.info? 50).map (·.size) = some (nums .u8 D).toArray.size := by
   rw [List.size_toArray]
   exact hi32
  exact bodyPost_ret (results_cell_row rfl _ _ w.heap.size 50 (nums .u8 D).toArray (0, 0) _ rfl hfin Tryd.underlying50 rfl hsD) rfl ⟨rfl, putA_below K16.out.b (Nat.le_refl _)⟩
end Go.Proofs.YtkkomfomjpcbfaaDoor
end
