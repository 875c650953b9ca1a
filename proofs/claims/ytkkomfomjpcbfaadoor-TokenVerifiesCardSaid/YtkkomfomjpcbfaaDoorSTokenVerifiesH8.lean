import Derived.Test.YtkkomfomjpcbfaaDoorSTokenVerifiesHA
set_option linter.unusedVariables false
set_option linter.unusedSimpArgs false
namespace Go.Proofs.YtkkomfomjpcbfaaDoor
open Go.RowKit Go.Proofs.YtkkomfomjpcbfaaDoorW.PrintWords Go.Proofs.YtkkomfomjpcbfaaDoorW.PrintMore Go.Proofs.YtkkomfomjpcbfaaDoorW.PrintLast
attribute [local go_sem ↓] Go.wp_at_zero Go.wp_at_succ
structure Two (w wr : World) (xs : List Int) : Prop where
 r : Blk wr w.heap.size .u8 50 (List.replicate 32 0)
 o : Blk wr (w.heap.size + 1) .u8 50 xs
 b : Below w.heap.size w wr
theorem Two.alloc {w wr : World} {xs : List Int} (h : Two w wr xs) (o : Obj) : Two w (wr.alloc o) xs := ⟨kd h.r o, kd h.o o, kt h.b o⟩
theorem Two.size {w wr : World} {xs : List Int} (h : Two w wr xs) : w.heap.size + 2 ≤ wr.heap.size := ky h.o
theorem Two.grown {w wr w1 : World} {xs : List Int} {row : Option Nat} (h : Two w wr xs) (hg : wr.grownBy w1 row) (hr : ∀ k, row = some k → w.heap.size + 2 ≤ k) : Two w w1 xs :=
 ⟨blk_grown h.r hg (fun e => by have := hr _ e.symm; omega), blk_grown h.o hg (fun e => by have := hr _ e.symm; omega), h.b.grown hg (by have := h.size; omega) (fun k hk => by have := hr k hk; omega)⟩
theorem Two.far {w wr : World} {xs : List Int} (h : Two w wr xs) {g i : Nat} (hg : w.heap.size + 2 ≤ g) (v : Value) : Two w (wr.setCell ⟨g, i, none⟩ v) xs :=
 ⟨Blk.other h.r (by omega), Blk.other h.o (by omega), h.b.setCell (p := ⟨g, i, none⟩) (by show w.heap.size ≤ g; omega) v⟩
theorem Two.below {w wr w1 : World} {xs : List Int} (h : Two w wr xs) (hb : Below wr.heap.size wr w1) : Two w w1 xs :=
 ⟨(hb.block _ (ky h.r)).trans h.r, (hb.block _ (ky h.o)).trans h.o, h.b.trans (Mod.below (Mod.of_below hb (fun k => wr.heap.size ≤ k)) (by have := h.size; omega) (fun k hk => by have := h.size; omega))⟩
theorem wordsOf_take (xs : List Int) : Sha.wordsOf (xs.take 64) = Sha.wordsOf xs := by
 apply List.map_congr_left
 intro i hi
 have hi : i < 16 := List.mem_range.1 hi
 have h : ∀ k, k < 64 → (xs.take 64).getD k 0 = xs.getD k 0 := fun k hk => by
  rw [List.getD_eq_getElem?_getD, List.getD_eq_getElem?_getD, List.getElem?_take_of_lt hk]
 simp only [Sha.word]
 rw [h _ (by omega), h _ (by omega), h _ (by omega), h _ (by omega)]
theorem block_take (v : Sha.V8) (xs : List Int) : Sha.block v (xs.take 64) = Sha.block v xs := by unfold Sha.block; rw [wordsOf_take]
def put8A (W : World) (g : Nat) (V : Sha.V8) : World :=
 (((((((W.setCell ⟨g, 0, none⟩ (.int .u32 V.a)).setCell ⟨g, 1, none⟩ (.int .u32 V.b)).setCell ⟨g, 2, none⟩ (.int .u32 V.c)).setCell ⟨g, 3, none⟩ (.int .u32 V.d)).setCell ⟨g, 4, none⟩ (.int .u32 V.e)).setCell ⟨g, 5, none⟩ (.int .u32 V.f)).setCell ⟨g, 6, none⟩ (.int .u32 V.g)).setCell ⟨g, 7, none⟩ (.int .u32 V.h)
theorem put8A_blk {W : World} {g t : Nat} {st V : Sha.V8} (hb : Blk W g .u32 t st.list) : Blk (put8A W g V) g .u32 t V.list :=
 Blk.cast (Blk.put (Blk.put (Blk.put (Blk.put (Blk.put (Blk.put (Blk.put (Blk.put hb 0 V.a) 1 V.b) 2 V.c) 3 V.d) 4 V.e) 5 V.f) 6 V.g) 7 V.h) rfl
theorem put8A_far {W : World} {g k : Nat} {V : Sha.V8} (h : k ≠ g) : (put8A W g V).heap[k]? = W.heap[k]? := by
 unfold put8A
 rw [Below.heap_setCell _ _ _ k (by exact h), Below.heap_setCell _ _ _ k (by exact h), Below.heap_setCell _ _ _ k (by exact h), Below.heap_setCell _ _ _ k (by exact h), Below.heap_setCell _ _ _ k (by exact h), Below.heap_setCell _ _ _ k (by exact h), Below.heap_setCell _ _ _ k (by exact h), Below.heap_setCell _ _ _ k (by exact h)]
theorem Two.put8A {w wr : World} {xs : List Int} (h : Two w wr xs) {g : Nat} (hg : w.heap.size + 2 ≤ g) (V : Sha.V8) : Two w (put8A wr g V) xs :=
 ((((((((h.far hg _).far hg _).far hg _).far hg _).far hg _).far hg _).far hg _).far hg _)
set_option maxRecDepth 100000 in
theorem index8_run (w : World) (v : Sha.V8) (i : Nat) (hi : i < 8) :
  Sem.run Tryd.prog (Instr.index 93 (aggV v) (.int .i64 (i : Int))) w = .ok (.int .u32 (v.list.getD i 0)) w := by
 rcases (by omega : i = 0 ∨ i = 1 ∨ i = 2 ∨ i = 3 ∨ i = 4 ∨ i = 5 ∨ i = 6 ∨ i = 7) with rfl | rfl | rfl | rfl | rfl | rfl | rfl | rfl <;> rfl
set_option maxRecDepth 20000 in
set_option maxHeartbeats 4000000 in
theorem hsumm_calls (w : World) (ok : Nat → Prop) (g : Nat) (t : List Int) (hH : Hs w ok g t) (hl : t.length ≤ 1000000000) (hT : ∀ i, i < 64 → w.cell? ⟨0, i, none⟩ = some (.int .u32 (Sha.K.getD i 0))) :
  Calls Tryd.prog 46 #[.pointer (some ⟨g, 0, none⟩)] w fun e w' => e = .returned (.agg (nums .u8 (Sha.sum t)).toArray) ∧ Below w.heap.size w w' := by
 obtain ⟨vl, hs⟩ := hH
 obtain ⟨v0, hv0⟩ : ∃ v0, v0 = (Sha.eatAll Sha.H0 t).1 := ⟨_, rfl⟩
 obtain ⟨l, hll⟩ : ∃ l, l = (Sha.eatAll Sha.H0 t).2 := ⟨_, rfl⟩
 obtain ⟨n, hn⟩ : ∃ n, n = t.length := ⟨_, rfl⟩
 have hl64 : l.length < 64 := by rw [hll]; exact (Sha.eatAll_left _ Sha.H0 t (Nat.le_refl _)).1
 have hlm : l.length % 64 = n % 64 := by
  have h := (Sha.eatAll_left _ Sha.H0 t (Nat.le_refl _)).2
  rw [hll, hn, h]
  omega
 rw [← hv0, ← hll, ← hn] at hs
 rw [← hn] at hl
 obtain ⟨Al, cl, hvl⟩ := Kd.R_slice hs.row
 subst hvl
 have hgb := hs.blk
 have hglt := ky hgb
 have HS := Lib.hid hs
 have HV0 := Lib.hid hv0
 have HLL := Lib.hid hll
 have HN := Lib.hid hn
 have HT := Lib.hid hT
 clear hs hv0 hll hn hT
 go_enter Tryd.func46, Tryd.ntmps46
 go_upto_region 2 with fail
 obtain ⟨w2, hw2⟩ : ∃ w2, w2 = ((w.alloc (.cells (nums .u8 (List.replicate 32 0)).toArray 50)).alloc (.cells (nums .u8 (List.replicate 32 0)).toArray 50)) := ⟨_, rfl⟩
 have k2 : Two w w2 (List.replicate 32 0) := by
  rw [hw2]
  refine ⟨kd (kC w _) _, ?_, ((Below.refl _ w).alloc (Nat.le_refl _) _).alloc (by simp) _⟩
  have h := kC (w.alloc (.cells (nums .u8 (List.replicate 32 0)).toArray 50)) (.cells (nums .u8 (List.replicate 32 0)).toArray 50)
  rw [World.size_alloc] at h
  exact h
 change Code.wp _ _ _ _ ((w.alloc (.cells (nums .u8 (List.replicate 32 0)).toArray 50)).alloc (.cells (nums .u8 (List.replicate 32 0)).toArray 50))
 rw [← hw2]
 have K2 := Lib.hid k2
 clear hw2 k2
 have hgb2 := (K2.out.b.block g hglt).trans hgb
 go_upto_region 4 with (go_at_call 66; refine (hok_made _ _ _ _ _ _ hgb2).mono ?_; rintro e w' ⟨rfl, rfl⟩)
 have c9 : (w2.alloc (.cells #[] 5)).cell? ⟨g, 9, none⟩ = some (.slice Al l.length cl) := (ka (kd hgb2 _) 9).trans rfl
 have hok2 : w.heap.size + 2 ≤ w2.heap.size := K2.out.size
 have HC4 : Hid ((Kd.int .u8).C (w2.alloc (.cells #[] 5)) Al l.length l) := Lib.hid (Kd.C_below (Kd.C_below (Kd.R_reads' HS.out.row).2.2 (Mod.below (Mod.of_below K2.out.b (fun k => w.heap.size ≤ k)) (Nat.le_refl _) (fun k hk => hk))) (kt (Below.refl _ w2) _))
 obtain ⟨OK, hOK⟩ : ∃ OK : Nat → Prop, OK = fun k => w.heap.size + 2 ≤ k := ⟨_, rfl⟩
 have hok : ∀ k, OK k ↔ w.heap.size + 2 ≤ k := fun k => by rw [hOK]
 clear hOK
 have HOK := Lib.hid hok
 clear hok
 have hk4 : OK w2.heap.size := (HOK.out _).2 hok2
 have hfr4 : ∀ k, (w2.alloc (.cells #[] 5)).heap.size ≤ k → OK k := fun k hk => (HOK.out k).2 (by rw [World.size_alloc] at hk; omega)
 go_upto_region 5 with (at_builtin; refine (plain_int .u8).list_append rfl (.tmp 13) (.tmp 17) 45 (.int .u8 0) 1 rfl Tryd.underlying45 info_u8' rfl (by decide) l.length cl rfl rfl (R_empty (Kd.int .u8) 5 w2 0 OK (Nat.zero_le _) hk4) HC4.out hfr4 (Nat.zero_le _) (by show (0 + l.length) * 1 ≤ _; omega) ?_; intro v5 w5 hR5 hg5 hat5; rw [List.nil_append] at hR5; obtain ⟨A5, c5, hv5⟩ := Kd.R_slice hR5; subst hv5; have hg5' : (w2.alloc (.cells #[] 5)).grownBy w5 (some w2.heap.size) := hg5; have HG5 := Lib.hid hg5'; have HR5 := Lib.hid hR5; clear hR5 hg5 hg5' hat5)
 have k5 : Two w w5 (List.replicate 32 0) := (K2.out.alloc _).grown HG5.out (fun k hk => by injection hk with hk; omega)
 have K5 := Lib.hid k5
 have hk5 := k5.size
 have hgb5 := (k5.b.block g hglt).trans hgb
 clear k5 c9 HC4 HG5 hgb2 hfr4 hk4
 go_upto_region 6 with (at_builtin; refine Kd.R_append (Kd.int .u8) (w0 := w5) (W := w5) 0 rfl (.tmp 19) (.tmp 20) 45 5 (.int .u8 0) 1 rfl Tryd.underlying45 info_u8' rfl (by decide) (by decide) _ l 128 [.int .u8 128] OK (fun _ => False) rfl rfl rfl (fun _ h => h.elim) (fun k hk => (HOK.out k).2 (by omega)) HR5.out (Below.refl _ _) (Nat.zero_le _) (by omega) ?_; intro v6 w6 hR6 _ hg6 _; have HR6 := Lib.hid hR6; have HG6 := Lib.hid hg6; clear hR6 hg6)
 have k6 : Two w w6 (List.replicate 32 0) := K5.out.grown HG6.out (fun k hk => (HOK.out k).1 (HR5.out.1 k hk))
 have K6 := Lib.hid k6
 clear k6 HG6 HR5 K5 K2 hk5 hok2 hgb5
 go_loopg [4] (Sha.zeros n) (fun kq s4 wr => ∃ (j : Nat) (ts : List Int), j + kq = Sha.zeros n ∧ ts.length = l.length + 1 + j ∧ Hid (ts = l ++ 128 :: List.replicate j 0) ∧ Hid ((Kd.int .u8).R 5 wr 0 OK s4 ts) ∧ Hid (Two w wr (List.replicate 32 0)))
 case atStart => exact ⟨0, l ++ [128], by omega, by rw [List.length_append]; rfl, rfl, HR6.out, K6.out⟩
 case round =>
  obtain ⟨j, ts, hj, hts, hT1, hR1, hK1⟩ := hrel
  obtain ⟨A1, c1, hs4⟩ := Kd.R_slice hR1.out
  subst hs4
  have hz : Sha.zeros n < 64 := by unfold Sha.zeros; omega
  have hza := Sha.zeros_at n l.length j hlm (by omega)
  rw [← hts] at hza
  have hsz := hK1.out.size
  by_cases hlt : j < Sha.zeros n
  ·have h1 : ¬ ts.length % 64 = 56 := by omega
   obtain ⟨r, hr⟩ : ∃ r : Int, (ts.length : Int) % 64 = r := ⟨_, rfl⟩
   have hr1 : ¬ r = 56 := by omega
   have hts9 : ts.length ≤ 200 := by omega
   have HJ := Lib.hid hj
   have HTS := Lib.hid hts
   have HLT := Lib.hid hlt
   clear h1 hza hz hlt hts hj
   go_wp2_with (at_builtin; refine Kd.R_append (Kd.int .u8) (w0 := wr) (W := wr) 0 rfl (.tmp 26) (.tmp 27) 45 5 (.int .u8 0) 1 rfl Tryd.underlying45 info_u8' rfl (by decide) (by decide) _ ts 0 [.int .u8 0] OK (fun _ => False) rfl rfl rfl (fun _ h => h.elim) (fun k hk => (HOK.out k).2 (by omega)) hR1.out (Below.refl _ _) (Nat.zero_le _) (by omega) ?_; intro v2 w2 hR2 _ hg2 _; have HR2 := Lib.hid hR2; have HG2 := Lib.hid hg2; clear hR2 hg2)
   go_roundg (gk - 1)
   case measure => have := HJ.out; have := HLT.out; omega
   case rel =>
    have hlt := HLT.out
    have hj := HJ.out
    refine ⟨j + 1, ts ++ [0], by omega, by rw [List.length_append, HTS.out]; rfl, ?_, HR2.out, hK1.out.grown HG2.out (fun k hk => (HOK.out k).1 (hR1.out.1 k hk))⟩
    show ts ++ [0] = l ++ 128 :: List.replicate (j + 1) 0
    rw [hT1.out, List.replicate_succ', List.append_assoc, List.cons_append]
  ·have hjz : j = Sha.zeros n := by omega
   have h1 : ts.length % 64 = 56 := by omega
   have hr1 : (ts.length : Int) % 64 = 56 := by omega
   have hts9 : ts.length ≤ 200 := by omega
   have HJ := Lib.hid hjz
   have HTS := Lib.hid hts
   clear h1 hza hz hlt hts hj hjz
   go_upto_region 8 with fail
   obtain ⟨B, hB8⟩ : ∃ B, B = Sha.big8 (8 * n) := ⟨_, rfl⟩
   have hBl : B.length = 8 := by rw [hB8, Sha.big8_length]
   have HB8 := Lib.hid hB8
   have hbg := fun i (h : i < 8) => Sha.big8_next (8 * n) i h
   rw [← hB8] at hbg
   have HBG := Lib.hid hbg
   clear hB8 hbg hr1
   go_wp2_with fail
   go_loopg [4, 29] 8 (fun kq s4 s29 wr => ∃ (i : Nat) (us : List Int), i + kq = 8 ∧ us.length ≤ 200 + i ∧ s29 = .int .i64 i ∧ Hid (us = ts ++ B.take i) ∧ Hid ((Kd.int .u8).R 5 wr 0 OK s4 us) ∧ Hid (Two w wr (List.replicate 32 0)))
   case atStart => exact ⟨0, ts, by omega, by omega, rfl, by rw [List.take_zero, List.append_nil]; rfl, hR1.out, hK1.out⟩
   case round =>
    obtain ⟨i, us, hi, hus, rfl, hU, hR2, hK2⟩ := hrel
    obtain ⟨A2, c2, hs4⟩ := Kd.R_slice hR2.out
    subst hs4
    have hsz := hK2.out.size
    by_cases hlt : i < 8
    ·have c10 : wr.cell? ⟨g, 10, none⟩ = some (.int .i64 n) := (ka ((hK2.out.b.block g hglt).trans hgb) 10).trans rfl
     have e1 : IntKind.u64.wrap (n : Int) = (n : Int) := IntWalk.u64_in _ (by omega)
     have e2 : IntKind.u64.wrap ((n : Int) * 8) = (n : Int) * 8 := IntWalk.u64_in _ (by omega)
     have e3 : IntKind.i64.wrap (8 * (i : Int)) = 8 * (i : Int) := IntWalk.i64_in _ (by omega)
     obtain ⟨p, hp⟩ : ∃ p : Int, 56 - 8 * (i : Int) = p := ⟨_, rfl⟩
     obtain ⟨pn, hpn⟩ : ∃ pn : Nat, pn = 56 - 8 * i := ⟨_, rfl⟩
     have e4 : IntKind.i64.wrap p = p := IntWalk.i64_in _ (by omega)
     have e5 : IntKind.u64.wrap p = p := IntWalk.u64_in _ (by omega)
     have e6 : p.toNat = pn := by omega
     have e7 : (0 : Int) ≤ p := by omega
     have e8 : pn < 64 := by omega
     have HPN := Lib.hid hpn
     clear hpn
     obtain ⟨y, hy⟩ : ∃ y : Int, (n : Int) * 8 / 2 ^ pn % 256 = y := ⟨_, rfl⟩
     have HY : Hid (y = ((8 * n / 2 ^ (56 - 8 * i) % 256 : Nat) : Int)) := by
      have e : ((8 * n / 2 ^ pn % 256 : Nat) : Int) = (n : Int) * 8 / 2 ^ pn % 256 := by
       rw [Int.natCast_emod, Int.natCast_ediv, Int.natCast_mul, Int.natCast_pow, Int.mul_comm]
       rfl
      rw [← hy, ← e, HPN.out]
      rfl
     go_wp2_with (at_builtin; refine Kd.R_append (Kd.int .u8) (w0 := wr) (W := wr) 0 rfl (.tmp 32) (.tmp 45) 45 5 (.int .u8 0) 1 rfl Tryd.underlying45 info_u8' rfl (by decide) (by decide) _ us y [.int .u8 y] OK (fun _ => False) rfl rfl rfl (fun _ h => h.elim) (fun k hk => (HOK.out k).2 (by omega)) hR2.out (Below.refl _ _) (Nat.zero_le _) (by omega) ?_; intro v2 w2 hR3 _ hg3 _; have HR3 := Lib.hid hR3; have HG3 := Lib.hid hg3; clear hR3 hg3)
     go_roundg (gk - 1)
     case measure => omega
     case rel =>
      refine ⟨i + 1, us ++ [y], by omega, by rw [List.length_append]; simp; omega, by go_num, ?_, HR3.out, hK2.out.grown HG3.out (fun k hk => (HOK.out k).1 (hR2.out.1 k hk))⟩
      show us ++ [y] = ts ++ B.take (i + 1)
      rw [hU.out, HY.out, ← HBG.out i hlt, List.append_assoc]
    ·have hi8 : i = 8 := by omega
     subst hi8
     have hU8 : us = l ++ Sha.tail n := by
      rw [hU.out, List.take_of_length_le (by omega), hT1.out, HJ.out, HB8.out]
      simp [Sha.tail]
     have HU8 := Lib.hid hU8
     clear hU8
     have HUS := Lib.hid hus
     obtain ⟨D0, hD0⟩ : ∃ D0, D0 = Two w wr (List.replicate 32 0) := ⟨_, rfl⟩
     have hgb3 := (hK2.out.b.block g hglt).trans hgb
     have a1 : wr.cell? ⟨g, 1, none⟩ = some (.int .u32 v0.a) := (ka hgb3 1).trans rfl
     have a2 : wr.cell? ⟨g, 2, none⟩ = some (.int .u32 v0.b) := (ka hgb3 2).trans rfl
     have a3 : wr.cell? ⟨g, 3, none⟩ = some (.int .u32 v0.c) := (ka hgb3 3).trans rfl
     have a4 : wr.cell? ⟨g, 4, none⟩ = some (.int .u32 v0.d) := (ka hgb3 4).trans rfl
     have a5 : wr.cell? ⟨g, 5, none⟩ = some (.int .u32 v0.e) := (ka hgb3 5).trans rfl
     have a6 : wr.cell? ⟨g, 6, none⟩ = some (.int .u32 v0.f) := (ka hgb3 6).trans rfl
     have a7 : wr.cell? ⟨g, 7, none⟩ = some (.int .u32 v0.g) := (ka hgb3 7).trans rfl
     have a8 : wr.cell? ⟨g, 8, none⟩ = some (.int .u32 v0.h) := (ka hgb3 8).trans rfl
     clear hlt hi hus
     go_upto_region 14 with fail
     obtain ⟨vb, hvb⟩ : ∃ vb, vb = wr.heap.size := ⟨_, rfl⟩
     have hvb2 : w.heap.size + 2 ≤ vb := by have := hK2.out.size; omega
     obtain ⟨w9, hw9⟩ : ∃ w9, w9 = wr.alloc (.cells (nums .u32 v0.list).toArray 93) := ⟨_, rfl⟩
     have kv : Blk w9 vb .u32 93 v0.list := by rw [hw9, hvb]; exact kC wr _
     have k9 : Two w w9 (List.replicate 32 0) := by rw [hw9]; exact hK2.out.alloc _
     have hV : Kd.V (Kd.int .u8) 5 wr 0 (fun k => OK k ∧ k < vb) (.slice A2 us.length c2) us := by
      rw [hvb]
      exact Kd.V_bound (Kd.R_V (base' := 0) hR2.out)
     have hV9 : Kd.V (Kd.int .u8) 5 w9 0 (fun k => k ≠ vb) (.slice A2 us.length c2) us := by
      rw [hw9]
      exact Kd.V_mono (Kd.V_alloc hV _) (fun k hk => by have := hk.2; omega)
     change Code.wp _ _ _ _ (wr.alloc (.cells (nums .u32 v0.list).toArray 93))
     rw [← hvb, ← hw9]
     clear hvb hw9 hV hgb3 a1 a2 a3 a4 a5 a6 a7 a8
     have KV := Lib.hid kv
     have K9 := Lib.hid k9
     have HV9 := Lib.hid hV9
     clear kv k9 hV9 hR2 hU hR1 HR6
     have hMl : us.length = l.length + Sha.zeros n + 9 := by rw [HU8.out, List.length_append, Sha.tail_length]; omega
     obtain ⟨J, hJ⟩ : ∃ J, us.length = 64 * J := by
      refine ⟨us.length / 64, ?_⟩
      unfold Sha.zeros at hMl
      omega
     have HMl := Lib.hid hMl
     clear hMl
     have hbu : Byts us := by
      rw [HU8.out]
      intro x hx
      rcases List.mem_append.1 hx with h | h
      ·exact HS.out.byts x h
      ·exact Sha.byts_tail n x h
     have HBU := Lib.hid hbu
     clear hbu
     have hus2 : us.length ≤ 300 := by have := HUS.out; omega
     go_loopg [4] J (fun kq s4 wr => ∃ (j : Nat) (xs : List Int), j + kq = J ∧ xs.length = 64 * kq ∧ Hid (xs = us.drop (64 * j)) ∧ Hid (Kd.V (Kd.int .u8) 5 wr 0 (fun k => k ≠ vb) s4 xs) ∧ Hid (Blk wr vb .u32 93 (Sha.vAt v0 us j).list) ∧ Hid (Two w wr (List.replicate 32 0)))
     case atStart => exact ⟨0, us, by omega, by omega, rfl, HV9.out, KV.out, K9.out⟩
     case round =>
      obtain ⟨j, xs, hj, hxs, hX, hVx, hBk, hK3⟩ := hrel
      obtain ⟨A3, c3, hs4⟩ := Kd.V_slice hVx.out
      subst hs4
      by_cases hlt : 0 < gk
      ·have hx0 : 0 < xs.length := by omega
       have hx64 : 64 ≤ xs.length := by omega
       obtain ⟨st, hst⟩ : ∃ st, st = Sha.vAt v0 us j := ⟨_, rfl⟩
       have hbk := hBk.out
       rw [← hst] at hbk
       have HST := Lib.hid hst
       clear hst
       have b1 := hbk.get 0 (by show 0 < 8; decide)
       have b2 := hbk.get 1 (by show 1 < 8; decide)
       have b3 := hbk.get 2 (by show 2 < 8; decide)
       have b4 := hbk.get 3 (by show 3 < 8; decide)
       have b5 := hbk.get 4 (by show 4 < 8; decide)
       have b6 := hbk.get 5 (by show 5 < 8; decide)
       have b7 := hbk.get 6 (by show 6 < 8; decide)
       have b8 := hbk.get 7 (by show 7 < 8; decide)
       simp only [Sha.V8.list, List.getD_cons_zero, List.getD_cons_succ] at b1 b2 b3 b4 b5 b6 b7 b8
       have HBK := Lib.hid hbk
       clear hbk
       have hCX := Kd.F_now (Kd.V_at hVx.out).2.2
       have hBX : Byts xs := fun x hx => by
        rw [hX.out] at hx
        exact HBU.out x (List.mem_of_mem_drop hx)
       have HCALL := Lib.hid (hblock_calls wr st A3 xs.length c3 xs hCX hx64 hBX (fun i hi => (hK3.out.b.cell (World.block_lt_of_cell? w _ (HT.out i hi))).trans (HT.out i hi)))
       clear hCX hBX
       have hc3 := (Kd.V_at hVx.out).2.1
       have i1 : (64 : Int) ≤ (xs.length : Int) := by omega
       have i2 : (xs.length : Int) ≤ (c3 : Int) := by omega
       obtain ⟨V, hV⟩ : ∃ V, V = Sha.block st xs := ⟨_, rfl⟩
       have HVV := Lib.hid hV
       rw [← hV] at HCALL
       clear hV
       unfold aggV at HCALL
       have HX := Lib.hid hxs
       clear hxs
       have HCUT : Hid (Kd.F (Kd.int .u8) wr (fun k => k ≠ vb) (if c3 = 64 then A3 else A3.map (fun x => ⟨x.block, x.off + 64, none⟩)) (xs.length - 64) (xs.drop 64)) := by
        have h := Kd.F_cut (Kd.V_at hVx.out).2.2 hx64 hc3
        have e : (fun x : Addr => x.add (64 * (Kd.int .u8).sz)) = fun x => ⟨x.block, x.off + 64, none⟩ := by
         funext x
         exact add_pos x 64 (by decide)
        rw [e, List.length_drop] at h
        exact h
       go_upto_region 16 with fail
       go_upto_region 15 with (go_at_call 67; refine HCALL.out.mono ?_; rintro e w4 ⟨rfl, hB4⟩; have hbk : Blk w4 vb .u32 93 st.list := (hB4.block vb (ky HBK.out)).trans HBK.out; have y0 : w4.frozen? ⟨vb, 0, none⟩ = false := kc hbk 0; have x0 : w4.cell? ⟨vb, 0, none⟩ = some (.int .u32 st.a) := hbk.get 0 (by show 0 < 8; decide); have y1 : w4.frozen? ⟨vb, 1, none⟩ = false := kc hbk 1; have x1 : w4.cell? ⟨vb, 1, none⟩ = some (.int .u32 st.b) := hbk.get 1 (by show 1 < 8; decide); have y2 : w4.frozen? ⟨vb, 2, none⟩ = false := kc hbk 2; have x2 : w4.cell? ⟨vb, 2, none⟩ = some (.int .u32 st.c) := hbk.get 2 (by show 2 < 8; decide); have y3 : w4.frozen? ⟨vb, 3, none⟩ = false := kc hbk 3; have x3 : w4.cell? ⟨vb, 3, none⟩ = some (.int .u32 st.d) := hbk.get 3 (by show 3 < 8; decide); have y4 : w4.frozen? ⟨vb, 4, none⟩ = false := kc hbk 4; have x4 : w4.cell? ⟨vb, 4, none⟩ = some (.int .u32 st.e) := hbk.get 4 (by show 4 < 8; decide); have y5 : w4.frozen? ⟨vb, 5, none⟩ = false := kc hbk 5; have x5 : w4.cell? ⟨vb, 5, none⟩ = some (.int .u32 st.f) := hbk.get 5 (by show 5 < 8; decide); have y6 : w4.frozen? ⟨vb, 6, none⟩ = false := kc hbk 6; have x6 : w4.cell? ⟨vb, 6, none⟩ = some (.int .u32 st.g) := hbk.get 6 (by show 6 < 8; decide); have y7 : w4.frozen? ⟨vb, 7, none⟩ = false := kc hbk 7; have x7 : w4.cell? ⟨vb, 7, none⟩ = some (.int .u32 st.h) := hbk.get 7 (by show 7 < 8; decide); have HB4 := Lib.hid hB4; have HB5 := Lib.hid hbk; clear hB4 hbk)
       go_wp2_with fail
       all_goals
        go_roundg (gk - 1)
        case measure => omega
        case rel =>
         have hcut := HCUT.out
         first | rw [if_pos h] at hcut | rw [if_neg h] at hcut
         have hxs := HX.out
         have hld : (xs.drop 64).length = xs.length - 64 := List.length_drop
         refine ⟨j + 1, xs.drop 64, by omega, by rw [hld]; omega, ?_, ⟨_, c3 - 64, by first | (rw [hld]; done) | rw [hld, show c3 - 64 = 0 by omega], by rw [hld]; omega, ?_⟩, ?_, ?_⟩
         ·show xs.drop 64 = us.drop (64 * (j + 1))
          rw [hX.out, List.drop_drop]
          rfl
         ·rw [hld]
          exact Kd.F_step hcut (fun k hk hlt => (put8A_far (W := w4) (g := vb) (V := V) hk).trans (HB4.out.block k hlt))
         ·have hv : V = Sha.vAt v0 us (j + 1) := by
           rw [HVV.out, Sha.vAt, ← HST.out, ← hX.out, block_take]
          show Blk _ vb .u32 _ (Sha.vAt v0 us (j + 1)).list
          rw [← hv]
          exact put8A_blk HB5.out
         ·exact Two.put8A (hK3.out.below HB4.out) hvb2 V
      ·have hg0 : gk = 0 := by omega
       have hjJ : j = J := by omega
       have hx0 : xs.length = 0 := by omega
       obtain ⟨S, hS⟩ : ∃ S, S = Sha.vAt v0 us J := ⟨_, rfl⟩
       have hbk := hBk.out
       rw [hjJ, ← hS] at hbk
       have hSum : Sha.sum t = Sha.digest S := by
        have hUt : t ++ Sha.tail t.length = t ++ Sha.tail n := by rw [HN.out]
        rw [Sha.sum, hUt, Sha.eatAll_append _ Sha.H0 t _ (Nat.le_refl _), ← HV0.out, ← HLL.out, ← HU8.out, Sha.eatAll_vAt J v0 us (by omega) (by omega), hS]
       have HSUM := Lib.hid hSum
       have HBK := Lib.hid hbk
       clear hSum hbk hS hX hVx hBk hj hxs hlt
       have b1 := HBK.out.get 0 (by show 0 < 8; decide)
       have b2 := HBK.out.get 1 (by show 1 < 8; decide)
       have b3 := HBK.out.get 2 (by show 2 < 8; decide)
       have b4 := HBK.out.get 3 (by show 3 < 8; decide)
       have b5 := HBK.out.get 4 (by show 4 < 8; decide)
       have b6 := HBK.out.get 5 (by show 5 < 8; decide)
       have b7 := HBK.out.get 6 (by show 6 < 8; decide)
       have b8 := HBK.out.get 7 (by show 7 < 8; decide)
       simp only [Sha.V8.list, List.getD_cons_zero, List.getD_cons_succ] at b1 b2 b3 b4 b5 b6 b7 b8
       go_upto_region 18 with fail
       clear b1 b2 b3 b4 b5 b6 b7 b8
       have hD0 : (Sha.digest S).take (4 * 0) ++ List.replicate (32 - 4 * 0) 0 = List.replicate 32 0 := rfl
       have hK4 := hK3.out
       rw [← hD0] at hK4
       have HK4 := Lib.hid hK4
       clear hK4 hD0
       obtain ⟨D, hD⟩ : ∃ D, D = Sha.digest S := ⟨_, rfl⟩
       rw [← hD] at HK4
       have HD := Lib.hid hD
       have hDl : D.length = 32 := by rw [hD, Sha.digest_length]
       clear hD
       go_loopg [61] 8 (fun kq s61 wr => ∃ i : Nat, i + kq = 8 ∧ s61 = .int .i64 i ∧ Hid (Two w wr (D.take (4 * i) ++ List.replicate (32 - 4 * i) 0)))
       case atStart => exact ⟨0, by omega, rfl, HK4.out⟩
       case round =>
        obtain ⟨i, hi, rfl, hK5⟩ := hrel
        by_cases hlt : i < 8
        ·obtain ⟨x, hx⟩ : ∃ x, x = S.list.getD i 0 := ⟨_, rfl⟩
         have hidx := index8_run wr S i hlt
         unfold aggV at hidx
         rw [← hx] at hidx
         have HX := Lib.hid hx
         clear hx
         have m0 : (i : Int) < 8 := by omega
         go_upto_region 20 with fail
         have hml : (D.take (4 * i) ++ List.replicate (32 - 4 * i) 0).length = 32 := by
          rw [List.length_append, List.length_take, List.length_replicate]
          omega
         have c0 := hK5.out.o.get (4 * i) (by rw [hml]; omega)
         have c1' := hK5.out.o.get (4 * i + 1) (by rw [hml]; omega)
         have c2' := hK5.out.o.get (4 * i + 2) (by rw [hml]; omega)
         have c3' := hK5.out.o.get (4 * i + 3) (by rw [hml]; omega)
         have z0 := hK5.out.o.free (4 * i)
         have z1 := hK5.out.o.free (4 * i + 1)
         have z2 := hK5.out.o.free (4 * i + 2)
         have z3 := hK5.out.o.free (4 * i + 3)
         have f0 : IntKind.i64.wrap (4 * (i : Int)) = 4 * (i : Int) := IntWalk.i64_in _ (by omega)
         have f1 : IntKind.i64.wrap (4 * (i : Int) + 1) = 4 * (i : Int) + 1 := IntWalk.i64_in _ (by omega)
         have f2 : IntKind.i64.wrap (4 * (i : Int) + 2) = 4 * (i : Int) + 2 := IntWalk.i64_in _ (by omega)
         have f3 : IntKind.i64.wrap (4 * (i : Int) + 3) = 4 * (i : Int) + 3 := IntWalk.i64_in _ (by omega)
         have g0 : (4 * (i : Int)).toNat = 4 * i := by omega
         have g1 : (4 * (i : Int) + 1).toNat = 4 * i + 1 := by omega
         have g2 : (4 * (i : Int) + 2).toNat = 4 * i + 2 := by omega
         have g3 : (4 * (i : Int) + 3).toNat = 4 * i + 3 := by omega
         have i0 : (0 : Int) ≤ 4 * (i : Int) := by omega
         have i1 : (0 : Int) ≤ 4 * (i : Int) + 1 := by omega
         have i2 : (0 : Int) ≤ 4 * (i : Int) + 2 := by omega
         have i3 : (0 : Int) ≤ 4 * (i : Int) + 3 := by omega
         have j0 : 4 * (i : Int) < 32 := by omega
         have j1 : 4 * (i : Int) + 1 < 32 := by omega
         have j2 : 4 * (i : Int) + 2 < 32 := by omega
         have j3 : 4 * (i : Int) + 3 < 32 := by omega
         clear hml hidx
         go_wp2_with fail
         go_roundg (gk - 1)
         case measure => omega
         case rel =>
          have q0 := Sha.digest_get S i 0 hlt (by decide)
          have q1 := Sha.digest_get S i 1 hlt (by decide)
          have q2 := Sha.digest_get S i 2 hlt (by decide)
          have q3 := Sha.digest_get S i 3 hlt (by decide)
          rw [← HX.out, ← HD.out] at q0 q1 q2 q3
          refine ⟨i + 1, by omega, by go_num, ⟨?_, ?_, ?_⟩⟩
          ·exact Blk.other (Blk.other (Blk.other (Blk.other hK5.out.r (by omega)) (by omega)) (by omega)) (by omega)
          ·refine Blk.cast (Blk.put (Blk.put (Blk.put (Blk.put hK5.out.o (4 * i) _) (4 * i + 1) _) (4 * i + 2) _) (4 * i + 3) _) ?_
           have e0 : x / 16777216 % 256 = D.getD (4 * i) 0 := q0.symm
           have e1 : x / 65536 % 256 = D.getD (4 * i + 1) 0 := q1.symm
           have e2 : x / 256 % 256 = D.getD (4 * i + 2) 0 := q2.symm
           have e3 : x % 256 = D.getD (4 * i + 3) 0 := q3.symm
           rw [e0, e1, e2, e3, take_set D (4 * i) 32 (by omega) (by omega), take_set D (4 * i + 1) 32 (by omega) (by omega), take_set D (4 * i + 1 + 1) 32 (by omega) (by omega), take_set D (4 * i + 1 + 1 + 1) 32 (by omega) (by omega)]
           rfl
          ·exact (((hK5.out.b.setCell (p := ⟨w.heap.size + 1, 4 * i, none⟩) (Nat.le_succ _) _).setCell (p := ⟨w.heap.size + 1, 4 * i + 1, none⟩) (Nat.le_succ _) _).setCell (p := ⟨w.heap.size + 1, 4 * i + 2, none⟩) (Nat.le_succ _) _).setCell (p := ⟨w.heap.size + 1, 4 * i + 3, none⟩) (Nat.le_succ _) _
        ·have hi8 : i = 8 := by omega
         subst hi8
         have hK6 := hK5.out
         rw [List.take_of_length_le (by omega)] at hK6
         have hap : D ++ List.replicate (32 - 4 * 8) 0 = D := List.append_nil _
         rw [hap] at hK6
         have HK6 := Lib.hid hK6
         clear hK6 hap hK5 hlt hi
         go_upto_region 22 with fail
         have hl9 : (nums .u8 D).length = 32 := by rw [nums_length, hDl]
         have hfin : Hid (Blk (putA wr w.heap.size .u8 D) w.heap.size .u8 50 D) := Lib.hid (HK6.out.r.putA (by rw [hDl]; rfl))
         have hbel : Hid (Below w.heap.size w (putA wr w.heap.size .u8 D)) := Lib.hid (putA_below HK6.out.b (Nat.le_refl _))
         have hth : wr.there w.heap.size 0 (nums .u8 D).toArray.size := by
          have e : (nums .u8 D).toArray.size = 32 := by rw [List.size_toArray, hl9]
          rw [e]
          exact HK6.out.r.there
         have hsz9 : (Tryd.prog.info? 50).map (·.size) = some (nums .u8 D).toArray.size := by
          have e : (nums .u8 D).toArray.size = 32 := by rw [List.size_toArray, hl9]
          have e2 : (Tryd.prog.info? 50).map (·.size) = some 32 := by kernel_rfl
          rw [e]
          exact e2
         refine wp_region_lit ?_
         refine wpList_load_mid rfl _ _ rfl (w.heap.size + 1) 0 rfl (nums .u8 D) _ HK6.out.o.range Tryd.underlying50 rfl (by rw [hl9]; kernel_rfl) ?_
         refine wpList_store_mid rfl _ _ _ rfl w.heap.size 0 (nums .u8 D).toArray rfl rfl hth hsz9 (all_oneCell_toArray (nums_one .u8 D)) ?_
         rw [List.toList_toArray]
         change wpList _ _ _ _ _ (putA wr w.heap.size .u8 D)
         go_wp2_with fail
         refine bodyPost_ret (results_cell_row rfl _ _ w.heap.size 50 (nums .u8 D).toArray (0, 0) _ rfl hfin.out Tryd.underlying50 rfl hsz9) rfl ⟨?_, hbel.out⟩
         rw [HSUM.out, HD.out]
end Go.Proofs.YtkkomfomjpcbfaaDoor
