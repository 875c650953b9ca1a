import Derived.Test.YtclndenmmhdokaaDoorCHashBackH18
import Derived.Test.YtclndenmmhdokaaDoorCHashBackHA
import Derived.Test.YtclndenmmhdokaaDoorCHashBackQB
import Derived.Stop.BytesEq
import Derived.Test.YtclndenmmhdokaaDoorCHashBackH16
import Derived.Lib.SlBytesConst
import Derived.Test.YtclndenmmhdokaaDoorCHashBackPHLx2
namespace Go.Proofs.YtclndenmmhdokaaDoor.Bq
end Go.Proofs.YtclndenmmhdokaaDoor.Bq
section
namespace Go.Proofs.YtclndenmmhdokaaDoor
open Go Go.RowKit Go.Proofs.YtclndenmmhdokaaDoorW.PrintWords Go.Proofs.YtclndenmmhdokaaDoorW.PrintMore Go.Proofs.YtclndenmmhdokaaDoorW.PrintLast
set_option linter.unusedVariables false
set_option linter.unusedSimpArgs false
attribute [local go_sem ↓] Go.wp_at_zero Go.wp_at_succ
end Go.Proofs.YtclndenmmhdokaaDoor
end
section
namespace Go.Proofs.YtclndenmmhdokaaDoor
open Go Go.RowKit Go.Proofs.YtclndenmmhdokaaDoorW.PrintWords Go.Proofs.YtclndenmmhdokaaDoorW.PrintMore Go.Proofs.YtclndenmmhdokaaDoorW.PrintLast Bq
set_option linter.unusedVariables false
set_option linter.unusedSimpArgs false
def u8s (xs : List Int) : List UInt8 := xs.map fun x => UInt8.ofNat x.toNat
theorem u8s_cells (xs : List Int) (h : Byts xs) : (u8s xs).map Extern.Stop.cell = nums .u8 xs := by
  unfold u8s nums
  rw [List.map_map]
  apply List.map_congr_left
  intro x hx
  have hb := h x hx
  show Extern.Stop.cell (UInt8.ofNat x.toNat) = Value.int .u8 x
  unfold Extern.Stop.cell
  congr 1
  have : (UInt8.ofNat x.toNat).toNat = x.toNat := by
    rw [UInt8.toNat_ofNat']
    omega
  rw [this]
  show ((x.toNat : Nat) : Int) = x
  omega
theorem u8s_inj : ∀ (xs ys : List Int), Byts xs → Byts ys → u8s xs = u8s ys → xs = ys
  | [], [], _, _, _ => rfl
  | [], _ :: _, _, _, h => by simp [u8s] at h
  | _ :: _, [], _, _, h => by simp [u8s] at h
  | x :: xs, y :: ys, hx, hy, h => by
    have h1 : UInt8.ofNat x.toNat = UInt8.ofNat y.toNat ∧ u8s xs = u8s ys := by simpa [u8s] using h
    have hxb := hx x (List.mem_cons_self ..)
    have hyb := hy y (List.mem_cons_self ..)
    have h2 := congrArg UInt8.toNat h1.1
    rw [UInt8.toNat_ofNat', UInt8.toNat_ofNat'] at h2
    have e : x = y := by omega
    rw [e, u8s_inj xs ys (fun z hz => hx z (List.mem_cons_of_mem _ hz)) (fun z hz => hy z (List.mem_cons_of_mem _ hz)) h1.2]
theorem arr_eq (W : World) (xs ys : List Int) (hx : xs.length = 32) (hy : ys.length = 32) (hbx : Byts xs) (hby : Byts ys) :
    Sem.run Tryd.prog (Op.equalIn 10000 25 (.agg (nums .u8 xs).toArray) (.agg (nums .u8 ys).toArray)) W = .ok (decide (xs = ys)) W := by
  have hsz : ∀ w : World, (sizeOf 5).run Tryd.prog w = .ok 1 w := by
    intro w
    have e : (Tryd.prog.info? 5).map (·.size) = some 1 := by kernel_rfl
    obtain ⟨i, hi, hs⟩ := Option.map_eq_some_iff.1 e
    simp [sizeOf, typeInfo, hi, hs]
  have h := run_equalIn_bytes (P := Tryd.prog) W 9998 25 5 32 Tryd.underlying25 Tryd.underlying5 hsz (u8s xs) (u8s ys) (by simp [u8s, hx]) (by simp [u8s, hy])
  rw [u8s_cells xs hbx, u8s_cells ys hby] at h
  refine h.trans ?_
  congr 1
  by_cases e : xs = ys
  · subst e
    simp
  · rw [decide_eq_false e]
    have : u8s xs ≠ u8s ys := fun h => e (u8s_inj xs ys hbx hby h)
    simpa using this
end Go.Proofs.YtclndenmmhdokaaDoor
end
section
namespace Go.Proofs.YtclndenmmhdokaaDoor
open Go Go.RowKit Go.Proofs.YtclndenmmhdokaaDoorW.PrintWords Go.Proofs.YtclndenmmhdokaaDoorW.PrintMore Go.Proofs.YtclndenmmhdokaaDoorW.PrintLast Bq
set_option linter.unusedVariables false
set_option linter.unusedSimpArgs false
attribute [local go_sem ↓] Go.wp_at_zero Go.wp_at_succ
theorem abc_hex : hex (Sha.sum [97, 98, 99]) = [98, 97, 55, 56, 49, 54, 98, 102, 56, 102, 48, 49, 99, 102, 101, 97, 52, 49, 52, 49, 52, 48, 100, 101, 53, 100, 97, 101, 50, 50, 50, 51, 98, 48, 48, 51, 54, 49, 97, 51, 57, 54, 49, 55, 55, 97, 57, 99, 98, 52, 49, 48, 102, 102, 54, 49, 102, 50, 48, 48, 49, 53, 97, 100] := by decide +kernel
theorem fb_armor : armor [251, 255] = [45, 95, 56] := by
  have h : bitsOf [251, 255] 16 = [true, true, true, true, true, false, true, true, true, true, true, true, true, true, true, true] := by decide
  unfold armor
  show arm (bitsOf [251, 255] 16) = _
  rw [h, arm_cons _ (by simp), arm_cons _ (by simp), arm_cons _ (by simp)]
  simp only [List.drop_succ_cons, List.drop_zero, List.drop_nil, arm_nil, List.take_succ_cons, List.take_zero, List.take_nil]
  decide
theorem xx_nil : Xx.xx [] = 17241709254077376921 := by decide +kernel
theorem conv_const (W : World) (C : Array Value) (n c : Nat) : Sem.run Tryd.prog (convert 28 28 (.slice (some ⟨W.heap.size, 0, none⟩) n c)) (W.alloc (.cells C 5)) = .ok (.slice (some ⟨W.heap.size, 0, none⟩) n c) (W.alloc (.cells C 5 (C.size, C.size + 1))) :=
  Lib.run_convert_bytes_const W 28 5 C n c Tryd.underlying28 Tryd.underlying5
theorem marked_F {w : World} {g t : Nat} {fr : Nat × Nat} {k : IntKind} {xs : List Int} (h : w.heap[g]? = some (.cells (nums k xs).toArray t fr)) (hm : xs.length ≤ 9223372036854775807) : Kd.F (Kd.int k) w (fun j => j = g) (some ⟨g, 0, none⟩) xs.length xs := by
  intro W hW
  have hb : W.heap[g]? = some (.cells (nums k xs).toArray t fr) := (hW g rfl (blk_lt h)).trans h
  refine ⟨rfl, hm, fun hp => ⟨⟨g, 0, none⟩, rfl, fun i p hi => ⟨[.int k p], rfl, rfl, fun j u hu => ?_⟩⟩⟩
  rcases j with _ | j
  · injection hu with hu
    subst hu
    have hlt : i < xs.length := (List.getElem?_eq_some_iff.1 hi).1
    have hg := (cell_of_row W g i _ t fr hb).trans (nums_get k xs i hlt)
    rw [List.getD_eq_getElem?_getD, hi] at hg
    have e : (⟨g, 0, none⟩ : Addr).add (i * 1 + 0) = ⟨g, i, none⟩ := by rw [Addr.add_mid]; simp
    exact (congrArg W.cell? e).trans hg
  · cases hu
set_option maxRecDepth 20000 in
set_option maxHeartbeats 4000000 in
theorem live_calls (w : World) (hT : ∀ i, i < 64 → w.cell? ⟨0, i, none⟩ = some (.int .u32 (Sha.K.getD i 0))) :
    Calls Tryd.prog 12 #[] w fun e w' => e = .returned (.bool true) ∧ Below w.heap.size w w' := by
  have HT := Lib.hid (fun (W : World) (hW : Below w.heap.size w W) (i : Nat) (hi : i < 64) => (hW.cell (World.block_lt_of_cell? w _ (hT i hi))).trans (hT i hi))
  have hz : 0 < w.heap.size := World.block_lt_of_cell? w _ (hT 0 (by decide))
  obtain ⟨D, hD⟩ : ∃ D, D = Sha.sum [97, 98, 99] := ⟨_, rfl⟩
  have hDl : D.length = 32 := by rw [hD, Sha.sum_length]
  have HD := Lib.hid hD
  clear hD hT
  have hconv := conv_const
  go_enter Tryd.func12, Tryd.ntmps12
  go_upto_region 1 with fail
  have hp1 : Parts ((w.alloc (.cells (nums .u8 [97, 98, 99]).toArray 5 (3, 4))).alloc (.cells #[.slice (some ⟨w.heap.size, 0, none⟩) 3 3] 28)) (fun k => k < w.heap.size + 2) (some ⟨w.heap.size + 1, 0, none⟩) [[97, 98, 99]] := by
    have hb := marked_F (heap_alloc_new w (.cells (nums .u8 [97, 98, 99]).toArray 5 (3, 4))) (by decide)
    have h := Parts.one (c := 3) (t := 28) (okP := fun k => k < w.heap.size + 2) (Kd.F_mono hb (fun k hk => by omega)) (by rw [World.size_alloc]; omega)
    rw [World.size_alloc] at h
    exact h
  have b1 : Below w.heap.size w ((w.alloc (.cells (nums .u8 [97, 98, 99]).toArray 5 (3, 4))).alloc (.cells #[.slice (some ⟨w.heap.size, 0, none⟩) 3 3] 28)) := ((Below.refl _ w).alloc (Nat.le_refl _) _).alloc (by rw [World.size_alloc]; omega) _
  have s1 : ((w.alloc (.cells (nums .u8 [97, 98, 99]).toArray 5 (3, 4))).alloc (.cells #[.slice (some ⟨w.heap.size, 0, none⟩) 3 3] 28)).heap.size = w.heap.size + 2 := by rw [World.size_alloc, World.size_alloc]
  have hcall := hsum_calls ((w.alloc (.cells (nums .u8 [97, 98, 99]).toArray 5 (3, 4))).alloc (.cells #[.slice (some ⟨w.heap.size, 0, none⟩) 3 3] 28)) (some ⟨w.heap.size + 1, 0, none⟩) 1 [[97, 98, 99]] (hp1.mono (fun k hk => by rw [s1]; exact hk)) (fun xs hx => by rw [List.mem_singleton.1 hx]; unfold Byts; decide) (by decide) (by decide) (HT.out _ b1)
  have hfl : [[(97 : Int), 98, 99]].flatten = [97, 98, 99] := by simp
  rw [hfl, ← HD.out] at hcall
  have HCALL : Hid (Calls Tryd.prog 14 #[.slice (some ⟨w.heap.size + 1, 0, none⟩) 1 1] ((w.alloc (.cells #[.int .u8 97, .int .u8 98, .int .u8 99] 5 (3, 4))).alloc (.cells #[.slice (some ⟨w.heap.size, 0, none⟩) 3 3] 28)) fun e w' => e = .returned (.agg (nums .u8 D).toArray) ∧ Below w.heap.size w w') := Lib.hid (hcall.mono (by
    rintro e w' ⟨he, hB⟩
    exact ⟨he, b1.trans (below_lower hB (by rw [s1]; omega))⟩))
  clear hcall hp1 b1 s1 hfl
  have hl1 : (nums .u8 D).length = 32 := by rw [nums_length, hDl]
  have hsz1 : (Tryd.prog.info? 25).map (·.size) = some (nums .u8 D).toArray.size := by
    have e : (nums .u8 D).toArray.size = 32 := by rw [List.size_toArray, hl1]
    have e2 : (Tryd.prog.info? 25).map (·.size) = some 32 := by kernel_rfl
    rw [e]
    exact e2
  have hth : ∀ W : World, (W.alloc (.cells (nums .u8 (List.replicate 32 0)).toArray 25)).there W.heap.size 0 (nums .u8 D).toArray.size := fun W => by
    have e : (nums .u8 D).toArray.size = 32 := by rw [List.size_toArray, hl1]
    have k : Blk (W.alloc (.cells (nums .u8 (List.replicate 32 0)).toArray 25)) W.heap.size .u8 25 (List.replicate 32 0) := blk_new W _
    rw [e]
    exact k.there
  have HTH := Lib.hid hth
  have HSZ := Lib.hid hsz1
  clear hth hsz1
  go_upto_region 2 with (go_at_call 14; refine HCALL.out.mono ?_; rintro e w4 ⟨rfl, hB4⟩; have HB4 := Lib.hid hB4; clear hB4; apply_assumption; refine wl_alloc32 rfl rfl ?_; refine wpList_store_mid rfl _ _ _ rfl w4.heap.size 0 (nums .u8 D).toArray rfl rfl (HTH.out w4) HSZ.out (all_oneCell_toArray (nums_one .u8 D)) ?_; rw [List.toList_toArray]; change wpList _ _ _ _ _ (putA (w4.alloc (.cells (nums .u8 (List.replicate 32 0)).toArray 25)) w4.heap.size .u8 D))
  have a4 : Blk (w4.alloc (.cells (nums .u8 (List.replicate 32 0)).toArray 25)) w4.heap.size .u8 25 (List.replicate 32 0) := blk_new w4 _
  have a5 := a4.putA (k' := .u8) (ys := D) (by rw [hDl]; rfl)
  have hs4 := HB4.out.size
  obtain ⟨sb, hsb⟩ : ∃ sb, sb = w4.heap.size := ⟨_, rfl⟩
  have hsb2 : w.heap.size ≤ sb := by rw [hsb]; exact hs4
  have b5 : Below w.heap.size w (putA (w4.alloc (.cells (nums .u8 (List.replicate 32 0)).toArray 25)) w4.heap.size .u8 D) := putA_below (HB4.out.alloc hs4 _) hs4
  obtain ⟨w5, hw5⟩ : ∃ w5, w5 = putA (w4.alloc (.cells (nums .u8 (List.replicate 32 0)).toArray 25)) w4.heap.size .u8 D := ⟨_, rfl⟩
  rw [← hw5, ← hsb] at a5
  rw [← hw5] at b5
  rw [← hw5, ← hsb]
  clear hw5 hsb a4
  have A5 := Lib.hid a5
  have B5 := Lib.hid b5
  have hs5 := a5.lt
  clear a5 b5
  go_upto_region 3 with (go_at_call 20; refine (hnew_calls w5).mono ?_; rintro e w6 ⟨g, rfl, hH, hB⟩; have HH := Lib.hid hH.bound; have HB6 := Lib.hid hB; clear hH hB)
  have hs6 := HB6.out.size
  have A6 : Hid (Blk w6 sb .u8 25 D) := Lib.hid ((HB6.out.block sb hs5).trans A5.out)
  have b6 : Below w.heap.size w w6 := B5.out.trans (below_lower HB6.out (by omega))
  have B6 := Lib.hid b6
  clear b6
  have hconv2 := conv_const (w6.alloc (.cells #[.int .u8 97] 5 (1, 2))) #[.int .u8 98, .int .u8 99] 2 2
  rw [World.size_alloc] at hconv2
  have hw1 : Kd.F (Kd.int .u8) (w6.alloc (.cells #[.int .u8 97] 5 (1, 2))) (fun j => j = w6.heap.size) (some ⟨w6.heap.size, 0, none⟩) [(97 : Int)].length [97] := marked_F (xs := [97]) (heap_alloc_new w6 _) (by decide)
  have hw2 : Kd.F (Kd.int .u8) ((w6.alloc (.cells #[.int .u8 97] 5 (1, 2))).alloc (.cells #[.int .u8 98, .int .u8 99] 5 (2, 3))) (fun j => j = w6.heap.size + 1) (some ⟨w6.heap.size + 1, 0, none⟩) [(98 : Int), 99].length [98, 99] := by
    have h := marked_F (k := .u8) (xs := [98, 99]) (heap_alloc_new (w6.alloc (.cells #[.int .u8 97] 5 (1, 2))) (.cells (nums .u8 [98, 99]).toArray 5 (2, 3))) (by decide)
    rw [World.size_alloc] at h
    exact h
  have hp2 := Parts.two (c := 1) (c' := 2) (t := 28) (okP := fun k => w6.heap.size ≤ k ∧ k < w6.heap.size + 3) (Kd.F_mono (Kd.F_alloc hw1 (.cells #[.int .u8 98, .int .u8 99] 5 (2, 3))) (fun k hk => by omega)) (Kd.F_mono hw2 (fun k hk => by omega)) (by rw [World.size_alloc, World.size_alloc]; omega)
  obtain ⟨w7, hw7⟩ : ∃ w7, w7 = (((w6.alloc (.cells #[.int .u8 97] 5 (1, 2))).alloc (.cells #[.int .u8 98, .int .u8 99] 5 (2, 3))).alloc (.cells #[.slice (some ⟨w6.heap.size, 0, none⟩) 1 1, .slice (some ⟨w6.heap.size + 1, 0, none⟩) 2 2] 28)) := ⟨_, rfl⟩
  have hs7 : w7.heap.size = w6.heap.size + 3 := by rw [hw7, World.size_alloc, World.size_alloc, World.size_alloc]
  have hB67 : Below w6.heap.size w6 w7 := by
    rw [hw7]
    exact (((Below.refl _ w6).alloc (Nat.le_refl _) _).alloc (by rw [World.size_alloc]; omega) _).alloc (by rw [World.size_alloc, World.size_alloc]; omega) _
  have hp3 : Parts w7 (fun k => w6.heap.size ≤ k ∧ k < w6.heap.size + 3) (some ⟨w6.heap.size + 2, 0, none⟩) [[97], [98, 99]] := by
    rw [hw7]
    rw [World.size_alloc, World.size_alloc] at hp2
    exact hp2
  have hwr := hwrite_calls w7 (fun k => w5.heap.size ≤ k ∧ k < w6.heap.size) (fun k => w6.heap.size ≤ k ∧ k < w6.heap.size + 3) g [] (some ⟨w6.heap.size + 2, 0, none⟩) 2 [[97], [98, 99]] (HH.out.step (fun k hk hlt => hB67.block k hk.2)) hp3 (fun k hk => ⟨by omega, by omega⟩) (fun xs hx => by
    rcases List.mem_cons.1 hx with rfl | hx
    · unfold Byts; decide
    · rw [List.mem_singleton.1 hx]; unfold Byts; decide) (by decide) (by decide) (HT.out _ (B6.out.trans (below_lower hB67 (by omega)))) (by omega)
  rw [hw7] at hwr
  have HWR := Lib.hid hwr
  have HB67 := Lib.hid hB67
  have HW7 := Lib.hid hw7
  clear hw1 hw2 hp2 hp3 hwr hB67 hw7 hs7
  go_upto_region 5 with (go_at_call 22; refine HWR.out.mono ?_; rintro e w8 ⟨rfl, hH8, hM8⟩; have HH8 := Lib.hid hH8; have HM8 := Lib.hid hM8; clear hH8 hM8)
  have hM8 := HM8.out
  rw [← HW7.out] at hM8
  have A8 : Hid (Blk w8 sb .u8 25 D) := Lib.hid ((hM8.block sb (by have := HB67.out.size; omega) (by omega)).trans ((HB67.out.block sb (by omega)).trans A6.out))
  have b8 : Below w.heap.size w w8 := (B6.out.trans (below_lower HB67.out (by omega))).trans (Mod.below hM8 (by have := HB67.out.size; omega) (fun k hk => by omega))
  have B8 := Lib.hid b8
  have hbyD : Byts D := by rw [HD.out]; exact Sha.byts_sum _
  have hs8 := b8.size
  have h8 := HH8.out
  have hfl2 : ([] : List Int) ++ [[(97 : Int)], [98, 99]].flatten = [97, 98, 99] := by simp
  rw [hfl2] at h8
  have CHEX : Hid (∀ W : World, Below w8.heap.size w8 W → Calls Tryd.prog 35 #[.slice (some ⟨sb, 0, none⟩) 32 32] W fun e w' => e = .returned (.string ⟨#[98, 97, 55, 56, 49, 54, 98, 102, 56, 102, 48, 49, 99, 102, 101, 97, 52, 49, 52, 49, 52, 48, 100, 101, 53, 100, 97, 101, 50, 50, 50, 51, 98, 48, 48, 51, 54, 49, 97, 51, 57, 54, 49, 55, 55, 97, 57, 99, 98, 52, 49, 48, 102, 102, 54, 49, 102, 50, 48, 48, 49, 53, 97, 100]⟩) ∧ Below W.heap.size W w') := Lib.hid (fun W hW => by
    have hB : Blk W sb .u8 25 D := (hW.block sb A8.out.lt).trans A8.out
    have h := rhex_calls W (some ⟨sb, 0, none⟩) 32 D (hB.C (by omega)) hbyD (by omega)
    rw [hDl, HD.out, abc_hex] at h
    exact h)
  have CSUM : Hid (∀ W : World, Below w8.heap.size w8 W → Calls Tryd.prog 23 #[.pointer (some ⟨g, 0, none⟩)] W fun e w' => e = .returned (.agg (nums .u8 D).toArray) ∧ Below W.heap.size W w') := Lib.hid (fun W hW => by
    have h := hsumm_calls W _ g [97, 98, 99] (h8.step (fun k _ hlt => hW.block k hlt)) (by decide) (HT.out W (b8.trans (below_lower hW hs8)))
    rw [← HD.out] at h
    exact h)
  have CARM : Hid (∀ W : World, Calls Tryd.prog 32 #[.slice (some ⟨W.heap.size, 0, none⟩) 2 2] (W.alloc (.cells #[.int .u8 251, .int .u8 255] 5)) fun e w' => e = .returned (.string ⟨#[45, 95, 56]⟩) ∧ Below W.heap.size W w') := Lib.hid (fun W => by
    have hB : Blk (W.alloc (.cells (nums .u8 [251, 255]).toArray 5)) W.heap.size .u8 5 [251, 255] := blk_new W _
    have h := armor_calls _ (some ⟨W.heap.size, 0, none⟩) 2 [251, 255] (hB.C (by decide)) (by unfold Byts; decide) (by decide)
    rw [fb_armor] at h
    refine h.mono ?_
    rintro e w' ⟨he, hb⟩
    exact ⟨he, ((Below.refl _ W).alloc (Nat.le_refl _) _).trans (below_lower hb (by rw [World.size_alloc]; omega))⟩)
  have CXX : Hid (∀ W : World, Calls Tryd.prog 18 #[.slice none 0 0] W fun e w' => e = .returned (.int .u64 17241709254077376921) ∧ Below W.heap.size W w') := Lib.hid (fun W => by
    have h := xx_calls W none 0 [] (Kd.C_nil _ W) (Nat.le_refl _) (fun x hx => by cases hx) (by decide)
    rw [xx_nil] at h
    exact h)
  have hu32 : Tryd.prog.underlying 25 = some (.array 32 5) := Tryd.underlying25
  have hi32 : (Tryd.prog.info? 25).map (·.size) = some (nums .u8 D).length := by
    have e2 : (Tryd.prog.info? 25).map (·.size) = some 32 := by kernel_rfl
    rw [hl1]
    exact e2
  have r8 : Hid (w8.drew.rangeAt sb 0 (nums .u8 D)) := Lib.hid A8.out.range
  have RB : Hid (∀ W, Below w8.heap.size w8 W → W.rangeAt sb 0 (nums .u8 D)) := Lib.hid (fun W hW => by
    have hB : Blk W sb .u8 25 D := (hW.block sb A8.out.lt).trans A8.out
    exact hB.range)
  have hae : ∀ W : World, Sem.run Tryd.prog (Op.equalIn 10000 25 (.agg (nums .u8 D).toArray) (.agg (nums .u8 D).toArray)) W = .ok true W := fun W => (arr_eq W D D hDl hDl hbyD hbyD).trans (by simp)
  clear hM8 b8 h8 hfl2 hbyD
  go_region_held3 (fun W => W.rangeAt sb 0 (nums .u8 D)) (first | with_reducible exact r8.out | with_reducible exact r9.out | with_reducible exact r10.out | with_reducible exact r11.out _ | with_reducible exact r12.out | with_reducible exact r13.out | exact r8.out)
    (first | (go_at_call 35; refine (CHEX.out _ (Below.refl _ w8).drew).mono ?_; rintro e w9 ⟨rfl, hB9⟩; have b9 : Below w8.heap.size w8 w9 := ((Below.refl _ w8).drew).trans hB9; have B9 := Lib.hid b9; have r9 := Lib.hid (RB.out w9 b9); clear hB9 b9) | (go_at_call 23; refine (CSUM.out _ B9.out).mono ?_; rintro e w10 ⟨rfl, hB10⟩; have b10 : Below w8.heap.size w8 w10 := B9.out.trans (below_lower hB10 B9.out.size); have B10 := Lib.hid b10; have r10 := Lib.hid (RB.out w10 b10); have r11 := Lib.hid (fun o => RB.out (w10.alloc o) (b10.alloc b10.size o)); clear hB10 b10) | (go_at_call 32; refine (CARM.out _).mono ?_; rintro e w12 ⟨rfl, hB12⟩; have b12 : Below w8.heap.size w8 w12 := B10.out.trans (below_lower hB12 B10.out.size); have B12 := Lib.hid b12; have r12 := Lib.hid (RB.out w12 b12); clear hB12 b12) | (go_at_call 18; refine (CXX.out _).mono ?_; rintro e w13 ⟨rfl, hB13⟩; have b13 : Below w8.heap.size w8 w13 := B12.out.trans (below_lower hB13 B12.out.size); have B13 := Lib.hid b13; have r13 := Lib.hid (RB.out w13 b13); clear hB13 b13))
  go_wp2_with fail
  go_ret
  exact ⟨rfl, B8.out.trans (below_lower B13.out hs8)⟩
end Go.Proofs.YtclndenmmhdokaaDoor
end
section
namespace Go.Proofs.YtclndenmmhdokaaDoor
open Go Go.RowKit
set_option linter.unusedVariables false
def Tab (w : World) : Prop := ∀ i, i < 64 → w.cell? ⟨0, i, none⟩ = some (.int .u32 (Sha.K.getD i 0))
theorem Tab_below {w w1 : World} (h : Tab w) (hb : Below w.heap.size w w1) : Tab w1 := fun i hi => (hb.cell (World.block_lt_of_cell? w _ (h i hi))).trans (h i hi)
end Go.Proofs.YtclndenmmhdokaaDoor
end
section
namespace Go.Proofs.YtclndenmmhdokaaDoor.PHB
open Go.RowKit Go.Proofs.YtclndenmmhdokaaDoorW.PrintWords Go.Proofs.YtclndenmmhdokaaDoorW.PrintLast Go.Proofs.YtclndenmmhdokaaDoorW.PrintMore
attribute [local go_sem] max2_int min2_int max_two min_two max_three min_three max_four min_four
set_option linter.unusedVariables false
set_option linter.unusedSimpArgs false
def manometerlaw03_live.f : Option (Bool) := some true
theorem manometerlaw03_live.calls  (r : Bool) (w : World) (hT : Aside0 (Tab w)) (h : manometerlaw03_live.f  = some r) :
  Calls Tryd.prog 12 #[] w fun e w' => e = .returned (.bool r) ∧ Below w.heap.size w w' := by
 obtain rfl := Option.some.inj h
 exact live_calls w hT.out
def manometerlaw03_short.l0 : Nat → List (List Int) → List (List Int) → Int → Int → Option (Bool)
 | 0, _, _, _, _ => none
 | k + 1, x0, x5, x6, x7 => if x7 < x6 then (if 0 ≤ x7 then (if x7 < (x5.length : Int) then (if ((rd_L2 x5 x7).length : Int) > 2000 then (some false) else (manometerlaw03_short.l0 k x0 x5 x6 (wrap64 (x7 + 1)))) else (none)) else (none)) else (some (decide ((x0.length : Int) ≤ 30)))
def manometerlaw03_short.f (k : Nat) (l0 : List (List Int)) : Option (Bool) := manometerlaw03_short.l0 k l0 l0 (l0.length : Int) 0
set_option maxHeartbeats 8000000 in
set_option maxRecDepth 100000 in
theorem manometerlaw03_short.calls (k : Nat) (A0 : Option Addr) (c0 : Nat) (l0 : List (List Int)) (r : Bool) (w : World) (hr0 : Kd.C (Kd.slice 5 (Kd.int .u8)) w A0 l0.length l0) (hc0 : l0.length ≤ c0) (h : manometerlaw03_short.f k l0 = some r) :
  Calls Tryd.prog 13 #[.slice A0 l0.length c0] w fun e w' => e = .returned (.bool r) ∧ Drawn0 w w' := by
 have HR0 := Aside0.mk hr0
 have HC0 := Aside0.mk hc0
 clear hr0 hc0
 have H : (manometerlaw03_short.l0 k l0 l0 (l0.length : Int) 0) = some r := h
 clear h
 have H' := Aside0.mk H
 clear H
 go_enter Tryd.func13, Tryd.ntmps13
 go_wp2
 go_loopg [7] k (fun kq v7 w' => ∃ (x7_1 : Int), v7 = .int .i64 x7_1 ∧ Aside0 (manometerlaw03_short.l0 kq l0 l0 (l0.length : Int) x7_1 = some r) ∧ Aside0 (kq ≤ k) ∧ Drawn0 w w')
 case atStart => exact ⟨(0), y2_, H', ⟨Nat.le_refl _⟩, y7_⟩
 case round =>
  clear H'
  try clear c1
  obtain ⟨x7_1, rfl, HA, HK1, ⟨m1, rfl⟩⟩ := hrel
  cases gk with
  | zero => exact absurd HA.out (by simp [manometerlaw03_short.l0])
  | succ k1 =>
   have H := HA.out
   clear HA
   simp only [manometerlaw03_short.l0] at H
   by_cases c2 : x7_1 < (l0.length : Int)
   ·rw [if_pos c2] at H
    have c2b0 : decide (x7_1 < (l0.length : Int)) = true := decide_eq_true c2
    clear c2
    by_cases c3 : 0 ≤ x7_1
    ·rw [if_pos c3] at H
     have c3b0 : decide (0 ≤ x7_1) = true := decide_eq_true c3
     clear c3
     by_cases c4 : x7_1 < (l0.length : Int)
     ·rw [if_pos c4] at H
      have c4b0 : decide (x7_1 < (l0.length : Int)) = true := decide_eq_true c4
      clear c4
      by_cases c5 : ((rd_L2 l0 x7_1).length : Int) > 2000
      ·rw [if_pos c5] at H
       have c5b0 : decide (2000 < ((rd_L2 l0 x7_1).length : Int)) = true := decide_eq_true c5
       have c5b1 : decide (2000 < (rd_L2 l0 x7_1).length) = true := decide_eq_true (by omega)
       clear c5
       obtain rfl := Option.some.inj H
       have p101 : 0 ≤ (x7_1 : Int) := of_decide_eq_true y3_
       have q101 : x7_1 < (l0.length : Int) := of_decide_eq_true y3_
       obtain ⟨ad101, A101_0, c101_0, e101, hx101_0, hl101_0, hi101_0⟩ := at_L2 HR0.out x7_1 p101 q101
       cases e101
       have HR101_0 := Aside0.mk hi101_0
       have HC101_0 := Aside0.mk hl101_0
       clear hi101_0 hl101_0
       replace p101 := eq_true p101
       replace q101 := eq_true q101
       go_wp2
       go_ret
       exact ⟨y11_, y7_⟩
      ·rw [if_neg c5] at H
       have c5b0 : decide (2000 < ((rd_L2 l0 x7_1).length : Int)) = false := decide_eq_false c5
       have c5b1 : decide (2000 < (rd_L2 l0 x7_1).length) = false := decide_eq_false (by omega)
       clear c5
       have H' := Aside0.mk H
       clear H
       have p101 : 0 ≤ (x7_1 : Int) := of_decide_eq_true y3_
       have q101 : x7_1 < (l0.length : Int) := of_decide_eq_true y3_
       obtain ⟨ad101, A101_0, c101_0, e101, hx101_0, hl101_0, hi101_0⟩ := at_L2 HR0.out x7_1 p101 q101
       cases e101
       have HR101_0 := Aside0.mk hi101_0
       have HC101_0 := Aside0.mk hl101_0
       clear hi101_0 hl101_0
       replace p101 := eq_true p101
       replace q101 := eq_true q101
       go_wp2
       go_roundg k1
       case measure => have := HK1.out; omega
       case rel => exact ⟨(wrap64 (x7_1 + 1)), y2_, H', ⟨by have := HK1.out; omega⟩, y7_⟩
     ·rw [if_neg c4] at H
      exact absurd H (by simp)
    ·rw [if_neg c3] at H
     exact absurd H (by simp)
   ·rw [if_neg c2] at H
    have c2b0 : decide (x7_1 < (l0.length : Int)) = false := decide_eq_false c2
    clear c2
    obtain rfl := Option.some.inj H
    go_wp2
    go_ret
    exact ⟨y11_, y7_⟩
def manometerref01_Equal.f (l0 : List Int) (l1 : List Int) : Option (Bool) := if l0.length ≤ 1000000000000 then (if l1.length ≤ 1000000000000 then some (decide (l0 = l1)) else none) else none
theorem manometerref01_Equal.calls (A0 : Option Addr) (c0 : Nat) (l0 : List Int) (A1 : Option Addr) (c1 : Nat) (l1 : List Int) (r : Bool) (w : World) (hr0 : Kd.C (Kd.int .u8) w A0 l0.length l0) (hc0 : l0.length ≤ c0) (hr1 : Kd.C (Kd.int .u8) w A1 l1.length l1) (hc1 : l1.length ≤ c1) (h : manometerref01_Equal.f l0 l1 = some r) :
  Calls Tryd.prog 15 #[.slice A0 l0.length c0, .slice A1 l1.length c1] w fun e w' => e = .returned (.bool r) ∧ Drawn0 w w' := by
 unfold manometerref01_Equal.f at h
 split at h
 ·rename_i h1
  split at h
  ·rename_i h2
   obtain rfl := Option.some.inj h
   refine (requal_calls w A0 A1 c0 c1 l0 l1 hr0 hr1 h1 h2).mono ?_
   rintro e w' ⟨rfl, n, hn⟩
   exact ⟨rfl, by first | exact ⟨n, hn⟩ | exact ⟨n, hn.symm⟩⟩
  ·cases h
 ·cases h
def hash_Unarmor.f (a0 : ByteArray) : Option (List Int × Int) := if a0.size ≤ 1000000 then some (unL a0.data.toList 0 0 []) else none
theorem hash_Unarmor.calls (a0 : ByteArray) (r1 : List Int) (r2 : Int) (w : World) (h : hash_Unarmor.f a0 = some (r1, r2)) :
  Calls Tryd.prog 28 #[.string a0] w fun e w' => ∃ v0_ : Value, e = .returned (.tuple #[v0_, .int .i64 r2]) ∧ Kd.R (Kd.int .u8) 5 w' w.heap.size (fun _ => True) v0_ r1 ∧ Below w.heap.size w w' := by
 unfold hash_Unarmor.f at h
 split at h
 ·rename_i h1
  exact unarmor_calls w a0 h1 r1 r2 (Option.some.inj h)
 ·cases h
end Go.Proofs.YtclndenmmhdokaaDoor.PHB
end
