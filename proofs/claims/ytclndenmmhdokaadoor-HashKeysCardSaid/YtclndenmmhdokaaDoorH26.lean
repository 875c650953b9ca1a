/- HashSums: the walk. -/
import Derived.Test.YtclndenmmhdokaaDoorH24
namespace Go.Proofs.YtclndenmmhdokaaDoor
open Go Go.RowKit Go.Proofs.YtclndenmmhdokaaDoorW.PrintWords Go.Proofs.YtclndenmmhdokaaDoorW.PrintMore Go.Proofs.YtclndenmmhdokaaDoorW.PrintLast Bq
set_option linter.unusedVariables false
set_option linter.unusedSimpArgs false
attribute [local go_sem ↓] Go.wp_at_zero Go.wp_at_succ
theorem Parts.of {w : World} {A : Option Addr} {t : Nat} {xss : List (List Int)} (h : (Kd.slice 5 (Kd.int .u8)).C w A xss.length xss) : Parts w (fun k => k < w.heap.size) A xss := by
  intro i hi
  obtain ⟨ad, B, c, e, hc, hB⟩ := rows_get h i hi
  exact ⟨ad, B, c, e, World.block_lt_of_cell? w _ hc, hc, Kd.C_F (Kd.heap_int .u8) hB⟩
theorem byts_flat {xss : List (List Int)} (h : ∀ xs ∈ xss, Byts xs) : Byts xss.flatten := fun x hx => by
  obtain ⟨xs, h1, h2⟩ := List.mem_flatten.1 hx
  exact h xs h1 x h2
/-- What the store of a sum into a new array wants. -/
theorem sum32 (D : List Int) (hDl : D.length = 32) : (∀ W : World, (W.alloc (.cells (nums .u8 (List.replicate 32 0)).toArray 25)).there W.heap.size 0 (nums .u8 D).toArray.size) ∧ (Tryd.prog.info? 25).map (·.size) = some (nums .u8 D).toArray.size := by
  have e : (nums .u8 D).toArray.size = 32 := by rw [List.size_toArray, nums_length, hDl]
  rw [e]
  refine ⟨fun W => ?_, by kernel_rfl⟩
  have k : Blk (W.alloc (.cells (nums .u8 (List.replicate 32 0)).toArray 25)) W.heap.size .u8 25 (List.replicate 32 0) := blk_new W _
  exact k.there
theorem sum32_new (W w : World) (D : List Int) (hDl : D.length = 32) (hB : Below w.heap.size w W) : Blk (putA (W.alloc (.cells (nums .u8 (List.replicate 32 0)).toArray 25)) W.heap.size .u8 D) W.heap.size .u8 25 D ∧ Below w.heap.size w (putA (W.alloc (.cells (nums .u8 (List.replicate 32 0)).toArray 25)) W.heap.size .u8 D) := by
  have a : Blk (W.alloc (.cells (nums .u8 (List.replicate 32 0)).toArray 25)) W.heap.size .u8 25 (List.replicate 32 0) := blk_new W _
  exact ⟨a.putA (k' := .u8) (ys := D) (by rw [hDl]; rfl), putA_below (hB.alloc hB.size _) hB.size⟩
set_option maxHeartbeats 4000000 in
theorem hashSums_calls (w : World) (A : Option Addr) (c : Nat) (xss : List (List Int)) (hC : (Kd.slice 5 (Kd.int .u8)).C w A xss.length xss) (hb : ∀ xs ∈ xss, Byts xs) (hT : ∀ i, i < 64 → w.cell? ⟨0, i, none⟩ = some (.int .u32 (Sha.K.getD i 0))) :
    Calls Tryd.prog 3 #[.slice A xss.length c] w fun e w' => e = .returned (.bool true) ∧ Below w.heap.size w w' := by
  have HC := Lib.hid hC
  have HB := Lib.hid hb
  have HT := Lib.hid (fun (W : World) (hW : Below w.heap.size w W) (i : Nat) (hi : i < 64) => (hW.cell (World.block_lt_of_cell? w _ (hT i hi))).trans (hT i hi))
  have HLIVE := Lib.hid (fun (W : World) (hW : Below w.heap.size w W) => live_calls W (HT.out W hW))
  clear hC hb hT
  by_cases hs : shortB xss = true
  · have HS := Lib.hid hs
    go_enter Tryd.func3, Tryd.ntmps3
    go_upto_region 3 with (first | (go_at_call 12; refine (HLIVE.out w (Below.refl _ w)).mono ?_; rintro e w1 ⟨rfl, hB1⟩; have HB1 := Lib.hid hB1; have hsh := short_calls w1 A c xss (Kd.C_below HC.out hB1); rw [HS.out] at hsh; have HSH := Lib.hid hsh; clear hB1 hsh) | (go_at_call 13; refine HSH.out.mono ?_; rintro e w2 ⟨rfl, rfl⟩))
    clear hs
    obtain ⟨D, hD⟩ : ∃ D, D = Sha.sum xss.flatten := ⟨_, rfl⟩
    have hDl : D.length = 32 := by rw [hD, Sha.sum_length]
    have HD := Lib.hid hD
    have hfl := short_flat HS.out
    have hcall := hsum_calls w1 A c xss (Parts.of (t := 0) (Kd.C_below HC.out HB1.out)) HB.out (by omega) (by have := (shortB_true HS.out).2; omega) (HT.out _ HB1.out)
    rw [← hD] at hcall
    have HCALL := Lib.hid hcall
    have HTH := Lib.hid (sum32 D hDl).1
    have HSZ := Lib.hid (sum32 D hDl).2
    have hs1 := HB1.out.size
    clear hcall hD
    go_upto_region 4 with (go_at_call 14; refine HCALL.out.mono ?_; rintro e w4 ⟨rfl, hB4⟩; have HB4 := Lib.hid (HB1.out.trans (below_lower hB4 hs1)); clear hB4; apply_assumption; refine wl_alloc32 rfl rfl ?_; refine wpList_store_mid rfl _ _ _ rfl w4.heap.size 0 (nums .u8 D).toArray rfl rfl (HTH.out w4) HSZ.out (all_oneCell_toArray (nums_one .u8 D)) ?_; rw [List.toList_toArray]; change wpList _ _ _ _ _ (putA (w4.alloc (.cells (nums .u8 (List.replicate 32 0)).toArray 25)) w4.heap.size .u8 D))
    have h5 := sum32_new w4 w D hDl HB4.out
    obtain ⟨sb, hsb⟩ : ∃ sb, sb = w4.heap.size := ⟨_, rfl⟩
    obtain ⟨w5, hw5⟩ : ∃ w5, w5 = putA (w4.alloc (.cells (nums .u8 (List.replicate 32 0)).toArray 25)) w4.heap.size .u8 D := ⟨_, rfl⟩
    rw [← hw5, ← hsb] at h5
    rw [← hw5, ← hsb]
    clear hw5 hsb
    have A5 := Lib.hid h5.1
    have B5 := Lib.hid h5.2
    clear h5
    obtain ⟨T, hT⟩ : ∃ T, T = xss.flatten := ⟨_, rfl⟩
    have hTl : T.length ≤ 60000 := by rw [hT]; exact hfl
    have hTb : Byts T := by rw [hT]; exact byts_flat HB.out
    have hDT : D = Sha.sum T := by rw [hT]; exact HD.out
    have CJ : Hid (∀ W, Below w5.heap.size w5 W → Calls Tryd.prog 17 #[.slice A xss.length c] W fun e w' => ∃ A' c', e = .returned (.slice A' T.length c') ∧ T.length ≤ c' ∧ (Kd.int .u8).C w' A' T.length T ∧ Below W.heap.size W w') := Lib.hid (fun W hW => by
      refine (join_calls W A c xss (Kd.C_below HC.out (B5.out.trans (below_lower hW B5.out.size))) (by omega)).mono ?_
      rintro e w' ⟨v, rfl, hR, hB⟩
      obtain ⟨A', c', rfl, hc, hC⟩ := Kd.R_reads hR
      rw [← hT] at hc hC
      rw [← hT]
      exact ⟨A', c', rfl, hc, hC, hB⟩)
    have CS : Hid (∀ (W : World) (A' : Option Addr) (c' : Nat), (Kd.int .u8).C W A' T.length T → T.length ≤ c' → Calls Tryd.prog 16 #[.slice A' T.length c'] W fun e w' => ∃ A' c', e = .returned (.slice A' 32 c') ∧ (Kd.int .u8).C w' A' 32 D ∧ Below W.heap.size W w') := Lib.hid (fun W A' c' hC hc => by
      refine (rsum_calls W A' c' T hC hc hTb (by omega)).mono ?_
      rintro e w' ⟨v, rfl, hR, hB⟩
      obtain ⟨A', c', rfl, hc, hC⟩ := Kd.R_reads hR
      rw [← hDT, hDl] at hC
      rw [Sha.sum_length]
      exact ⟨A', c', rfl, hC, hB⟩)
    have CE : Hid (∀ (W : World) (A' : Option Addr) (c' : Nat), Below w5.heap.size w5 W → (Kd.int .u8).C W A' 32 D → Calls Tryd.prog 15 #[.slice (some ⟨sb, 0, none⟩) 32 32, .slice A' 32 c'] W fun e w' => e = .returned (.bool true) ∧ Below W.heap.size W w') := Lib.hid (fun W A' c' hW hC => by
      have hB : Blk W sb .u8 25 D := (hW.block sb A5.out.lt).trans A5.out
      have h := requal_true W (some ⟨sb, 0, none⟩) A' 32 c' D (hB.C (by omega)) (by rw [hDl]; exact hC) (by omega)
      rw [hDl] at h
      refine h.mono ?_
      rintro e w' ⟨he, n, rfl⟩
      exact ⟨he, pw_below_drewN (Below.refl _ _) n⟩)
    clear hDl hfl hT hTl hTb hDT
    go_region_with (first | (go_at_call 17; refine (CJ.out _ (Below.refl _ w5).drew).mono ?_; rintro e w6 ⟨A6, c6, rfl, hc6, hC6, hB6⟩; have b6 : Below w5.heap.size w5 w6 := ((Below.refl _ w5).drew).trans hB6; have HB6 := Lib.hid b6; have HC6 := Lib.hid (CS.out w6 A6 c6 hC6 hc6); clear hc6 hC6 hB6 b6) | (go_at_call 16; refine HC6.out.mono ?_; rintro e w7 ⟨A7, c7, rfl, hC7, hB7⟩; have b7 : Below w5.heap.size w5 w7 := HB6.out.trans (below_lower hB7 HB6.out.size); have HB7 := Lib.hid b7; have HC7 := Lib.hid (CE.out w7 A7 c7 b7 hC7); clear hC7 hB7 b7) | (go_at_call 15; refine HC7.out.mono ?_; rintro e w8 ⟨rfl, hB8⟩; have HB8 := Lib.hid (HB7.out.trans (below_lower hB8 HB7.out.size)); clear hB8))
    go_wp2_with fail
    go_ret
    exact ⟨rfl, B5.out.trans (below_lower HB8.out B5.out.size)⟩
  · have hs : shortB xss = false := by simpa using hs
    have HS := Lib.hid hs
    clear hs
    go_enter Tryd.func3, Tryd.ntmps3
    go_upto_region 2 with (first | (go_at_call 12; refine (HLIVE.out w (Below.refl _ w)).mono ?_; rintro e w1 ⟨rfl, hB1⟩; have HB1 := Lib.hid hB1; have hsh := short_calls w1 A c xss (Kd.C_below HC.out hB1); rw [HS.out] at hsh; have HSH := Lib.hid hsh; clear hB1 hsh) | (go_at_call 13; refine HSH.out.mono ?_; rintro e w2 ⟨rfl, rfl⟩))
    go_wp2_with (go_at_call 12; refine (HLIVE.out w1 HB1.out).mono ?_; rintro e w3 ⟨rfl, hB3⟩; have HB3 := Lib.hid (HB1.out.trans (below_lower hB3 HB1.out.size)); clear hB3)
    go_ret
    exact ⟨rfl, HB3.out⟩
end Go.Proofs.YtclndenmmhdokaaDoor
