/- The chapter's examples. -/
import Derived.Test.YtemkfkaggdpcjaaDoorB11
namespace Go.Proofs.YtemkfkaggdpcjaaDoor
open Go.RowKit Go.Proofs.YtemkfkaggdpcjaaDoorW.PrintWords Go.Proofs.YtemkfkaggdpcjaaDoorW.PrintMore Go.Proofs.YtemkfkaggdpcjaaDoorW.PrintLast Bq
set_option linter.unusedVariables false
set_option linter.unusedSimpArgs false
attribute [local go_sem ↓] Go.wp_at_zero Go.wp_at_succ

theorem lit_C (W : World) (e : TypeId) (k : IntKind) (xs : List Int) (hm : xs.length ≤ 9223372036854775807) : (Kd.int k).C (W.alloc (.cells (nums k xs).toArray e)) (some ⟨W.heap.size, 0, none⟩) xs.length xs := by
  have h := own_lit W W.heap.size e k xs (Nat.le_refl _) hm
  have h2 : (W.alloc (.cells (nums k xs).toArray e)).ownsRow W.heap.size e (Kd.int k).sz (.slice (some ⟨W.heap.size, 0, none⟩) xs.length xs.length) xs.length (xs.flatMap (fun x => [Value.int k x])) := by
    have : xs.flatMap (fun x => [Value.int k x]) = nums k xs := by
      induction xs with
      | nil => rfl
      | cons x xs ih => rw [List.flatMap_cons, ih (by simp at hm; omega) (own_lit W W.heap.size e k xs (Nat.le_refl _) (by simp at hm; omega))]; rfl
    rw [this]
    exact h
  have hR := (plain_int k).R_of (ok := fun _ => True) (fun _ _ => trivial) h2
  obtain ⟨A, c, he, _, hC⟩ := Kd.R_reads hR
  injection he with h1
  subst h1
  exact hC

theorem live_pack : packI (putBits (putBits [] 3 5) 6 1) = [160, 128] := by
  have h1 : putBits [] 3 5 = [true, false, true] := by decide
  have h2 : putBits [true, false, true] 6 1 = [true, false, true, false, false, false, false, false, true] := by decide
  rw [h1, h2]
  unfold packI
  simp [pack, byte8, bnum, ints]

set_option maxHeartbeats 2000000 in
theorem live_calls (w : World) :
    Calls Tryd.prog 5 #[] w fun e w' => e = .returned (.bool true) ∧ Below w.heap.size w w' := by
  go_enter Tryd.func5, Tryd.ntmps5
  go_wp2_with fail
  refine (newWriter_calls _).mono ?_
  rintro e w1 ⟨rfl, hW, hB⟩
  have HW := Lib.hid hW
  have HB := Lib.hid hB
  clear hW hB
  obtain ⟨g, hg⟩ : ∃ g, g = w.heap.size := ⟨_, rfl⟩
  rw [← hg] at HW HB ⊢
  have Hg := Lib.hid hg
  clear hg
  go_wp2_with fail
  refine (put_calls w1 _ g [] 5 3 HW.out (by decide) (by decide) (by decide) (by decide)).mono ?_
  rintro e w2 ⟨rfl, hW, hM⟩
  rw [show putE ([] : List Bool).length 3 5 = 0 by decide]
  have HW2 := Lib.hid hW
  have HB2 := Lib.hid (HB.out.trans (Mod.below (B := g) hM (by have := HB.out.size; have := Hg.out; omega) (fun k hk => hk)))
  clear hW hM
  go_wp2_with fail
  refine (put_calls w2 _ g _ 1 6 HW2.out (by decide) (by decide) (by decide) (by decide)).mono ?_
  rintro e w3 ⟨rfl, hW, hM⟩
  rw [show putE (putBits ([] : List Bool) 3 5).length 6 1 = 0 by decide]
  have HW3 := Lib.hid hW
  have HB3 := Lib.hid (HB2.out.trans (Mod.below (B := g) hM (by have := HB2.out.size; have := Hg.out; omega) (fun k hk => by have := HB.out.size; have := Hg.out; omega)))
  clear hW hM
  go_wp2_with fail
  refine (uvarint_calls _ (some ⟨w3.heap.size, 0, none⟩) 3 [172, 2, 7] (lit_C w3 5 .u8 [172, 2, 7] (by decide)) (by unfold Byts; decide) (by decide)).mono ?_
  rintro e w' ⟨rfl, rfl⟩
  rw [show uget [172, 2, 7] = (300, 2, 0) by decide]
  have HW4 := Lib.hid (HW3.out.kept (S := fun _ => False) (Mod.alloc (Mod.refl _ w3) (.cells (nums .u8 [172, 2, 7]).toArray 5)) (fun _ _ _ h => h))
  have HB4 := Lib.hid (HB3.out.trans (Mod.below (B := g) (S := fun _ => False) (Mod.alloc (Mod.refl _ w3) (.cells (nums .u8 [172, 2, 7]).toArray 5)) (by have := HB3.out.size; have := Hg.out; omega) (fun _ h => h.elim)))
  obtain ⟨w4, h4⟩ : ∃ w4, w4 = w3.alloc (.cells (nums .u8 [172, 2, 7]).toArray 5) := ⟨_, rfl⟩
  rw [← h4] at HW4 HB4 ⊢
  clear h4
  go_wp2_with fail
  refine (wbytes_calls w4 _ g _ HW4.out (by decide)).mono ?_
  rintro e w5 ⟨v, rfl, hR, hB⟩
  obtain ⟨A, c, rfl, _, hC⟩ := Kd.R_reads hR
  have HC := Lib.hid (Kd.C_below hC (below_alloc (Below.refl _ w5) (.cells (nums .u8 [160, 128]).toArray 5)))
  have HW5 := Lib.hid (HW4.out.kept (S := fun _ => False) (Mod.alloc (Mod.of_below hB _) (.cells (nums .u8 [160, 128]).toArray 5)) (fun _ _ _ h => h))
  have HB5 := Lib.hid (HB4.out.trans (Mod.below (B := g) (S := fun _ => False) (Mod.alloc (Mod.of_below hB _) (.cells (nums .u8 [160, 128]).toArray 5)) (by have := HB4.out.size; have := Hg.out; omega) (fun _ h => h.elim)))
  clear hR hB hC
  rw [live_pack] at HC ⊢
  go_wp2_with fail
  refine (requal_calls _ A (some ⟨w5.heap.size, 0, none⟩) c 2 [160, 128] [160, 128] HC.out (lit_C w5 5 .u8 [160, 128] (by decide)) (by decide) (by decide)).mono ?_
  rintro e w' ⟨rfl, n, rfl⟩
  rw [show decide (([160, 128] : List Int) = [160, 128]) = true by decide]
  obtain ⟨w6, h6⟩ : ∃ w6, w6 = w5.alloc (.cells (nums .u8 [160, 128]).toArray 5) := ⟨_, rfl⟩
  rw [← h6] at HW5 HB5 ⊢
  clear h6 HC
  go_wp2_with fail
  refine (wlen_calls _ _ g _ (HW5.out.drewN n)).mono ?_
  rintro e w' ⟨rfl, rfl⟩
  rw [show ((putBits (putBits ([] : List Bool) 3 5) 6 1).length : Int) = 9 by decide]
  go_wp2_with fail
  refine (zig_calls (-1) _ (by decide) (by decide)).mono ?_
  rintro e w' ⟨rfl, rfl⟩
  rw [show zigI (-1) = 1 by decide]
  go_wp2_with fail
  refine (lead_calls 1 _ (by decide) (by decide)).mono ?_
  rintro e w' ⟨rfl, rfl⟩
  rw [show (64 - (Lib.bitLen (1 : Int).toNat : Int)) = 63 by decide]
  go_wp2_with fail
  go_ret
  exact ⟨rfl, by rw [← Hg.out]; exact pw_below_drewN HB5.out n⟩
end Go.Proofs.YtemkfkaggdpcjaaDoor
