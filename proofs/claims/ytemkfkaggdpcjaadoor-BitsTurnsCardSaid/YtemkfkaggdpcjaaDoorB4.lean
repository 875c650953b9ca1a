/- The Writer: NewWriter, Len, Bytes, Clone. -/
import Derived.Test.YtemkfkaggdpcjaaDoorB3
import Derived.Test.YtemkfkaggdpcjaaDoorP
namespace Go.Proofs.YtemkfkaggdpcjaaDoor
open Go.RowKit Go.Proofs.YtemkfkaggdpcjaaDoorW.PrintWords Go.Proofs.YtemkfkaggdpcjaaDoorW.PrintMore Bq
set_option linter.unusedVariables false
set_option linter.unusedSimpArgs false
attribute [local go_sem ↓] Go.wp_at_zero Go.wp_at_succ

theorem newWriter_calls (w : World) :
    Calls Tryd.prog 14 #[] w fun e w' => e = .returned (.pointer (some ⟨w.heap.size, 0, none⟩)) ∧ Wr w' (fun k => w.heap.size ≤ k) w.heap.size [] ∧ Below w.heap.size w w' := by
  go_enter Tryd.func14, Tryd.ntmps14
  go_wp2
  go_ret
  exact ⟨rfl, ⟨.slice none 0 0, blk_new w _, by unfold packI; rw [pack_nil]; exact Kd.R_nil _ _ _ _ _, Nat.le_refl _⟩, (Below.refl _ w).alloc (Nat.le_refl _) _⟩

theorem wlen_calls (w : World) (ok : Nat → Prop) (g : Nat) (bs : List Bool) (hW : Wr w ok g bs) :
    Calls Tryd.prog 19 #[.pointer (some ⟨g, 0, none⟩)] w fun e w' => e = .returned (.int .i64 bs.length) ∧ w = w' := by
  obtain ⟨v, hg, hR, okg⟩ := hW
  have g1 : w.cell? ⟨g, 1, none⟩ = some (.int .i64 bs.length) := (blk_cell hg 1).trans rfl
  clear hR
  go_enter Tryd.func19, Tryd.ntmps19
  go_wp2_with (go_at_call 22; refine (wok_made _ _ _ _ _ hg).mono ?_; rintro e w' ⟨rfl, rfl⟩)
  go_ret
  exact ⟨rfl, rfl⟩

theorem packI_length (bs : List Bool) : (packI bs).length = (bs.length + 7) / 8 := by unfold packI; rw [ints_length, pack_length]

set_option maxHeartbeats 1000000 in
theorem wbytes_calls (w : World) (ok : Nat → Prop) (g : Nat) (bs : List Bool) (hW : Wr w ok g bs) (hN : bs.length ≤ 8388608) :
    Calls Tryd.prog 18 #[.pointer (some ⟨g, 0, none⟩)] w fun e w' => ∃ v, e = .returned v ∧ (Kd.int .u8).R 5 w' w.heap.size (fun _ => True) v (packI bs) ∧ Below w.heap.size w w' := by
  obtain ⟨v, hg, hR, okg⟩ := hW
  obtain ⟨A, c, rfl, hc, hC⟩ := Kd.R_reads hR
  have hlen := packI_length bs
  have g2 : w.cell? ⟨g, 2, none⟩ = some (.slice A (packI bs).length c) := (blk_cell hg 2).trans rfl
  have n1 : w.heap.size ≠ g := by have := blk_lt hg; omega
  have n2 : g ≠ w.heap.size := Ne.symm n1
  have n3 := blk_lt hg
  have hl2 : (packI bs).length ≤ 1048577 := by omega
  have HL := Lib.hid hlen
  clear hlen hR
  go_enter Tryd.func18, Tryd.ntmps18
  go_wp2_with (first | (go_at_call 22; refine (wok_made _ _ _ _ _ hg).mono ?_; rintro e w' ⟨rfl, rfl⟩) | (at_builtin; refine (plain_int .u8).list_append (W := w.alloc (.cells #[] 5)) (base := w.heap.size) (ok := fun _ => True) (xs := []) (ys := packI bs) rfl (.tmp 6) (.tmp 10) 35 (.int .u8 0) 1 rfl Tryd.underlying35 info_u8 rfl (by decide) (packI bs).length c rfl rfl (R_empty _ _ w _ _ (Nat.le_refl _) trivial) (Kd.C_below hC ((Below.refl _ w).alloc (Nat.le_refl _) _)) (fun _ _ => trivial) (by simp) (by simp; omega) ?_; intro v1 w1 hR1 hg1 _; obtain ⟨A1, k1, rfl⟩ := Kd.R_slice hR1; have HR1 := Lib.hid hR1; have HG1 := Lib.hid hg1; clear hR1 hg1))
  go_ret
  exact ⟨_, rfl, by assumption, below_row ((Below.refl _ w).alloc (Nat.le_refl _) _) (by assumption) (Nat.le_refl _) (by simp)⟩
end Go.Proofs.YtemkfkaggdpcjaaDoor
