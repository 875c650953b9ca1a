/- A Hash: Len, Clone; the sum of parts. -/
import Derived.Test.YtclndenmmhdokaaDoorH8
namespace Go.Proofs.YtclndenmmhdokaaDoor
open Go.RowKit Go.Proofs.YtclndenmmhdokaaDoorW.PrintWords Go.Proofs.YtclndenmmhdokaaDoorW.PrintMore Go.Proofs.YtclndenmmhdokaaDoorW.PrintLast
set_option linter.unusedVariables false
set_option linter.unusedSimpArgs false
attribute [local go_sem ↓] Go.wp_at_zero Go.wp_at_succ

theorem hlen_calls (w : World) (ok : Nat → Prop) (g : Nat) (t : List Int) (hH : Hs w ok g t) :
    Calls Tryd.prog 24 #[.pointer (some ⟨g, 0, none⟩)] w fun e w' => e = .returned (.int .i64 t.length) ∧ w = w' := by
  obtain ⟨vl, hs⟩ := hH
  have hgb := hs.blk
  have c10 : w.cell? ⟨g, 10, none⟩ = some (.int .i64 t.length) := (blk_cell hgb 10).trans rfl
  clear hs
  go_enter Tryd.func24, Tryd.ntmps24
  go_wp2_with (go_at_call 47; refine (hok_made _ _ _ _ _ _ hgb).mono ?_; rintro e w' ⟨rfl, rfl⟩)
  go_ret
  exact ⟨rfl, rfl⟩

set_option maxHeartbeats 4000000 in
theorem hclone_calls (w : World) (ok : Nat → Prop) (g : Nat) (t : List Int) (hH : Hs w ok g t) (hl : t.length ≤ 1000000000) :
    Calls Tryd.prog 21 #[.pointer (some ⟨g, 0, none⟩)] w fun e w' => ∃ g' : Nat, e = .returned (.pointer (some ⟨g', 0, none⟩)) ∧ Hs w' (fun k => w.heap.size ≤ k) g' t ∧ Below w.heap.size w w' := by
  obtain ⟨vl, hs⟩ := hH
  obtain ⟨v0, hv0⟩ : ∃ v0, v0 = (Sha.eatAll Sha.H0 t).1 := ⟨_, rfl⟩
  obtain ⟨l, hll⟩ : ∃ l, l = (Sha.eatAll Sha.H0 t).2 := ⟨_, rfl⟩
  obtain ⟨n, hn⟩ : ∃ n, n = t.length := ⟨_, rfl⟩
  have hl64 : l.length < 64 := by rw [hll]; exact (Sha.eatAll_left _ Sha.H0 t (Nat.le_refl _)).1
  rw [← hv0, ← hll, ← hn] at hs
  obtain ⟨Al, cl, hvl⟩ := Kd.R_slice hs.row
  subst hvl
  have hgb := hs.blk
  have hglt := blk_lt hgb
  have HS := Lib.hid hs
  have HV0 := Lib.hid hv0
  have HLL := Lib.hid hll
  have HN := Lib.hid hn
  have hC := (Kd.R_reads' hs.row).2.2
  clear hs hv0 hll hn
  have a1 : w.cell? ⟨g, 1, none⟩ = some (.int .u32 v0.a) := (blk_cell hgb 1).trans rfl
  have a2 : w.cell? ⟨g, 2, none⟩ = some (.int .u32 v0.b) := (blk_cell hgb 2).trans rfl
  have a3 : w.cell? ⟨g, 3, none⟩ = some (.int .u32 v0.c) := (blk_cell hgb 3).trans rfl
  have a4 : w.cell? ⟨g, 4, none⟩ = some (.int .u32 v0.d) := (blk_cell hgb 4).trans rfl
  have a5 : w.cell? ⟨g, 5, none⟩ = some (.int .u32 v0.e) := (blk_cell hgb 5).trans rfl
  have a6 : w.cell? ⟨g, 6, none⟩ = some (.int .u32 v0.f) := (blk_cell hgb 6).trans rfl
  have a7 : w.cell? ⟨g, 7, none⟩ = some (.int .u32 v0.g) := (blk_cell hgb 7).trans rfl
  have a8 : w.cell? ⟨g, 8, none⟩ = some (.int .u32 v0.h) := (blk_cell hgb 8).trans rfl
  have c9 : w.cell? ⟨g, 9, none⟩ = some (.slice Al l.length cl) := (blk_cell hgb 9).trans rfl
  have c10 : w.cell? ⟨g, 10, none⟩ = some (.int .i64 n) := (blk_cell hgb 10).trans rfl
  have HC := Lib.hid hC
  clear hC
  go_enter Tryd.func21, Tryd.ntmps21
  go_upto_region 3 with (go_at_call 47; refine (hok_made _ _ _ _ _ _ hgb).mono ?_; rintro e w' ⟨rfl, rfl⟩)
  have s0 : ∀ W : World, Below w.heap.size w W → (W.cell? ⟨g, 1, none⟩ = some (.int .u32 v0.a) ∧ W.cell? ⟨g, 2, none⟩ = some (.int .u32 v0.b) ∧ W.cell? ⟨g, 3, none⟩ = some (.int .u32 v0.c) ∧ W.cell? ⟨g, 4, none⟩ = some (.int .u32 v0.d) ∧ W.cell? ⟨g, 5, none⟩ = some (.int .u32 v0.e) ∧ W.cell? ⟨g, 6, none⟩ = some (.int .u32 v0.f) ∧ W.cell? ⟨g, 7, none⟩ = some (.int .u32 v0.g) ∧ W.cell? ⟨g, 8, none⟩ = some (.int .u32 v0.h)) ∧ W.cell? ⟨g, 9, none⟩ = some (.slice Al l.length cl) ∧ W.cell? ⟨g, 10, none⟩ = some (.int .i64 n) := fun W hW =>
    ⟨⟨(hW.cell hglt).trans a1, (hW.cell hglt).trans a2, (hW.cell hglt).trans a3, (hW.cell hglt).trans a4, (hW.cell hglt).trans a5, (hW.cell hglt).trans a6, (hW.cell hglt).trans a7, (hW.cell hglt).trans a8⟩, (hW.cell hglt).trans c9, (hW.cell hglt).trans c10⟩
  have S0 := Lib.hid s0
  have k0 := s0 w.drew (Below.refl _ w).drew
  have k1 := s0 (w.drew.alloc (.cells #[] 5)) (((Below.refl _ w).drew).alloc (Nat.le_refl _) _)
  have K0 := Lib.hid k0
  have K1 := Lib.hid k1
  clear s0 k0 k1 a1 a2 a3 a4 a5 a6 a7 a8 c9 c10
  go_region_held3 (fun w' => (w'.cell? ⟨g, 1, none⟩ = some (.int .u32 v0.a) ∧ w'.cell? ⟨g, 2, none⟩ = some (.int .u32 v0.b) ∧ w'.cell? ⟨g, 3, none⟩ = some (.int .u32 v0.c) ∧ w'.cell? ⟨g, 4, none⟩ = some (.int .u32 v0.d) ∧ w'.cell? ⟨g, 5, none⟩ = some (.int .u32 v0.e) ∧ w'.cell? ⟨g, 6, none⟩ = some (.int .u32 v0.f) ∧ w'.cell? ⟨g, 7, none⟩ = some (.int .u32 v0.g) ∧ w'.cell? ⟨g, 8, none⟩ = some (.int .u32 v0.h)) ∧ w'.cell? ⟨g, 9, none⟩ = some (.slice Al l.length cl) ∧ w'.cell? ⟨g, 10, none⟩ = some (.int .i64 n)) (first | with_reducible exact K0.out | with_reducible exact K2.out | with_reducible exact K3.out _ | exact K1.out)
    (first | ((refine (plain_int .u8).step_append (W := (w.drew.alloc (.cells #[] 5))) (base := w.heap.size) (ok := fun _ => True) (xs := []) (ys := l) (by rfl) (.tmp 10) (.tmp 14) 28 (.int .u8 0) 1 (by rfl) Tryd.underlying28 info_u8' rfl (by decide) l.length cl (by rfl) (by rfl) (R_empty _ _ w.drew _ _ (Nat.le_refl _) trivial) (Kd.C_below HC.out (((Below.refl _ w).drew).alloc (Nat.le_refl _) _)) (fun _ _ => trivial) (by simp) (by simp; omega) ?_; intro v1 w1 hR1 hg1 _; obtain ⟨A1, c1, rfl⟩ := Kd.R_slice hR1; have hb1 : Below w.heap.size w w1 := below_row (((Below.refl _ w).drew).alloc (Nat.le_refl _) _) hg1 (Nat.le_refl _) (by simp); have HB1 := Lib.hid hb1; have HR1 := Lib.hid hR1; have K2 := Lib.hid (S0.out w1 hb1); have K3 := Lib.hid (fun o => S0.out (w1.alloc o) (hb1.alloc hb1.size o)); clear hR1 hg1 hb1)))
  have hsz := HB1.out.size
  go_wp2_with fail
  go_ret
  refine ⟨w1.heap.size, rfl, ⟨.slice A1 l.length c1, ?_⟩, HB1.out.alloc hsz _⟩
  rw [← HV0.out, ← HLL.out, ← HN.out]
  exact ⟨blk_new w1 _, Kd.R_lower (Kd.R_mono (Kd.R_bound (Kd.R_alloc HR1.out _)) (fun k hk => hk.2.1)) (Nat.zero_le _), hsz, HS.out.byts⟩

set_option maxHeartbeats 4000000 in
theorem hsum_calls (w : World) (A : Option Addr) (c : Nat) (xss : List (List Int)) (hP : Parts w (fun k => k < w.heap.size) A xss) (hb : ∀ xs ∈ xss, Byts xs) (hl : xss.flatten.length ≤ 1000000000) (hn : xss.length ≤ 1000000000)
    (hT : ∀ i, i < 64 → w.cell? ⟨0, i, none⟩ = some (.int .u32 (Sha.K.getD i 0))) :
    Calls Tryd.prog 14 #[.slice A xss.length c] w fun e w' => e = .returned (.agg (nums .u8 (Sha.sum xss.flatten)).toArray) ∧ Below w.heap.size w w' := by
  have HP := Lib.hid hP
  have HBY := Lib.hid hb
  have HT := Lib.hid hT
  have hz : 0 < w.heap.size := World.block_lt_of_cell? w _ (hT 0 (by decide))
  clear hP hb hT
  obtain ⟨D, hD⟩ : ∃ D, D = Sha.sum xss.flatten := ⟨_, rfl⟩
  have hDl : D.length = 32 := by rw [hD, Sha.sum_length]
  rw [← hD]
  have HD := Lib.hid hD
  clear hD
  go_enter Tryd.func14, Tryd.ntmps14
  go_upto_region 1 with fail
  obtain ⟨w1, hw1⟩ : ∃ w1, w1 = w.alloc (.cells (nums .u8 (List.replicate 32 0)).toArray 25) := ⟨_, rfl⟩
  have k1 : Blk w1 w.heap.size .u8 25 (List.replicate 32 0) := by rw [hw1]; exact blk_new w _
  have b1 : Below w.heap.size w w1 := by rw [hw1]; exact (Below.refl _ w).alloc (Nat.le_refl _) _
  change Code.wp _ _ _ _ (w.alloc (.cells (nums .u8 (List.replicate 32 0)).toArray 25))
  rw [← hw1]
  clear hw1
  have K1 := Lib.hid k1
  have B1 := Lib.hid b1
  have hs1 := k1.lt
  clear k1 b1
  go_upto_region 2 with (go_at_call 20; refine (hnew_calls w1).mono ?_; rintro e w2 ⟨g, rfl, hH, hB⟩; have HH := Lib.hid hH; have HB := Lib.hid hB; clear hH hB)
  have hs2 := HB.out.size
  have P2 : Hid (Parts w2 (fun k => k < w.heap.size) A xss) := Lib.hid ((HP.out.step (fun k hk hlt => B1.out.block k hk)).step (fun k hk hlt => HB.out.block k hlt))
  have T2 : Hid (∀ i, i < 64 → w2.cell? ⟨0, i, none⟩ = some (.int .u32 (Sha.K.getD i 0))) := Lib.hid (fun i hi => (HB.out.cell (by show 0 < w1.heap.size; omega)).trans ((B1.out.cell (by show 0 < w.heap.size; exact hz)).trans (HT.out i hi)))
  have hwr := Lib.hid (hwrite_calls w2 (fun k => w1.heap.size ≤ k) (fun k => k < w.heap.size) g [] A c xss HH.out P2.out (fun k hk => ⟨by omega, by omega⟩) HBY.out (by simpa using hl) hn T2.out (by omega))
  go_upto_region 3 with (go_at_call 22; refine hwr.out.mono ?_; rintro e w3 ⟨rfl, hH3, hM3⟩; have HH3 := Lib.hid hH3; have HM3 := Lib.hid hM3; clear hH3 hM3)
  have hs3 := HM3.out.size
  have B3 : Hid (Below w.heap.size w w3) := Lib.hid ((B1.out.trans (Mod.below (Mod.of_below HB.out (fun k => w1.heap.size ≤ k)) (by omega) (fun k hk => by omega))).trans (Mod.below HM3.out (by omega) (fun k hk => by omega)))
  have K3 : Hid (Blk w3 w.heap.size .u8 25 (List.replicate 32 0)) := Lib.hid ((HM3.out.block _ (by omega) (by omega)).trans ((HB.out.block _ hs1).trans K1.out))
  have T3 : Hid (∀ i, i < 64 → w3.cell? ⟨0, i, none⟩ = some (.int .u32 (Sha.K.getD i 0))) := Lib.hid (fun i hi => (B3.out.cell (by show 0 < w.heap.size; exact hz)).trans (HT.out i hi))
  have hsm := hsumm_calls w3 _ g ([] ++ xss.flatten) HH3.out (by simpa using hl) T3.out
  rw [List.nil_append] at hsm
  rw [← HD.out] at hsm
  have HSM := Lib.hid hsm
  clear hsm
  have hl9 : (nums .u8 D).length = 32 := by rw [nums_length, hDl]
  have hsz9 : (Tryd.prog.info? 25).map (·.size) = some (nums .u8 D).toArray.size := by
    have e : (nums .u8 D).toArray.size = 32 := by rw [List.size_toArray, hl9]
    have e2 : (Tryd.prog.info? 25).map (·.size) = some 32 := by kernel_rfl
    rw [e]
    exact e2
  have hth : ∀ W : World, Below w3.heap.size w3 W → W.there w.heap.size 0 (nums .u8 D).toArray.size := fun W hW => by
    have e : (nums .u8 D).toArray.size = 32 := by rw [List.size_toArray, hl9]
    have k : Blk W w.heap.size .u8 25 (List.replicate 32 0) := (hW.block _ K3.out.lt).trans K3.out
    rw [e]
    exact k.there
  have HTH := Lib.hid hth
  have HSZ := Lib.hid hsz9
  clear hth hsz9
  go_wp2_with (go_at_call 23; refine HSM.out.mono ?_; rintro e w4 ⟨rfl, hB4⟩; have HB4 := Lib.hid hB4; clear hB4; apply_assumption; refine wpList_store_mid rfl _ _ _ rfl w.heap.size 0 (nums .u8 D).toArray rfl rfl (HTH.out w4 HB4.out) HSZ.out (all_oneCell_toArray (nums_one .u8 D)) ?_; rw [List.toList_toArray]; change wpList _ _ _ _ _ (putA w4 w.heap.size .u8 D))
  have k4 : Blk w4 w.heap.size .u8 25 (List.replicate 32 0) := (HB4.out.block _ K3.out.lt).trans K3.out
  have hfin := k4.putA (k' := .u8) (ys := D) (by rw [hDl]; rfl)
  have b4 : Below w.heap.size w w4 := B3.out.trans (Mod.below (Mod.of_below HB4.out (fun k => w3.heap.size ≤ k)) (by omega) (fun k hk => by omega))
  exact bodyPost_ret (results_cell_row rfl _ _ w.heap.size 25 (nums .u8 D).toArray (0, 0) _ rfl hfin Tryd.underlying25 rfl HSZ.out) rfl ⟨rfl, putA_below b4 (Nat.le_refl _)⟩
end Go.Proofs.YtclndenmmhdokaaDoor
