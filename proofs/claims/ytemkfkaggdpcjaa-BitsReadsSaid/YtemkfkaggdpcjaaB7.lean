/- The Reader: NewReader, Clone. -/
import Derived.Test.YtemkfkaggdpcjaaB6
namespace Go.Proofs.Ytemkfkaggdpcjaa
open Go.RowKit Go.Proofs.YtemkfkaggdpcjaaW.PrintWords Go.Proofs.YtemkfkaggdpcjaaW.PrintMore Bq
set_option linter.unusedVariables false
set_option linter.unusedSimpArgs false
attribute [local go_sem ↓] Go.wp_at_zero Go.wp_at_succ

theorem Rd.kept_other {w w1 : World} {ok : Nat → Prop} {g gc : Nat} {rem : List Bool} {cs : Array Value} (h : Rd w ok gc rem) (hm : Mod (fun k => k = g) w w1) (hne : gc ≠ g) (hg : w.heap[g]? = some (.cells cs 64 (0, 0))) : Rd w1 ok gc rem := by
  obtain ⟨a, n, v, xs, h1, h2⟩ := h
  exact ⟨a, n, v, xs, ⟨hm.blk h1.blk hne, Kd.R_mono (Kd.R_step (Kd.R_types h1.row hg (by decide)) (fun k ho hk => hm.block k hk ho.2)) (fun _ hk => hk.1), h1.okg, h1.le, h1.le8, h1.byts, h1.small⟩, h2⟩
theorem Rd.blk {w : World} {ok : Nat → Prop} {g : Nat} {rem : List Bool} (h : Rd w ok g rem) : ∃ cs, w.heap[g]? = some (.cells cs 64 (0, 0)) := by
  obtain ⟨a, n, v, xs, h1, h2⟩ := h
  exact ⟨_, h1.blk⟩

set_option maxHeartbeats 1000000 in
theorem newReader_bad (w : World) (A : Option Addr) (c : Nat) (xs : List Int) (n : Int) (hs : xs.length ≤ 1000000000) (hn : n < 0 ∨ 8 * (xs.length : Int) < n) :
    Calls Try.prog 29 #[.slice A xs.length c, .int .i64 n] w fun e w' => e = .returned (.tuple #[.pointer none, .int .i64 1]) ∧ w = w' := by
  rcases hn with hn | hn
  · go_enter Try.func29, Try.ntmps29
    go_wp2
    go_ret2
    exact ⟨rfl, rfl⟩
  · have h0 : ¬ n < 0 := by omega
    go_enter Try.func29, Try.ntmps29
    go_wp2
    go_ret2
    exact ⟨rfl, rfl⟩
set_option maxHeartbeats 1000000 in
theorem newReader_ok (w : World) (A : Option Addr) (c : Nat) (xs : List Int) (n : Nat) (hC : (Kd.int .u8).C w A xs.length xs) (hs : xs.length ≤ 1000000000) (hn : n ≤ 8 * xs.length) (hb : Byts xs) :
    Calls Try.prog 29 #[.slice A xs.length c, .int .i64 n] w fun e w' => ∃ g : Nat, e = .returned (.tuple #[.pointer (some ⟨g, 0, none⟩), .int .i64 0]) ∧ Rd w' (fun k => w.heap.size ≤ k) g (bitsOf xs n) ∧ Below w.heap.size w w' := by
  have h0 : ¬ ((n : Int) < 0) := by omega
  have h1 : ¬ (8 * (xs.length : Int) < (n : Int)) := by omega
  have HB := Lib.hid hb
  clear hb
  go_enter Try.func29, Try.ntmps29
  go_wp2_with (at_builtin; refine (plain_int .u8).list_append (W := w.alloc (.cells #[] 5)) (base := w.heap.size) (ok := fun _ => True) (xs := []) (ys := xs) rfl (.tmp 16) (.tmp 17) 37 (.int .u8 0) 1 rfl Try.underlying37 info_u8 rfl (by decide) xs.length c rfl rfl (R_empty _ _ w _ _ (Nat.le_refl _) trivial) (Kd.C_below hC ((Below.refl _ w).alloc (Nat.le_refl _) _)) (fun _ _ => trivial) (by simp) (by simp; omega) ?_; intro v1 w1 hR1 hg1 _; obtain ⟨A1, k1, rfl⟩ := Kd.R_slice hR1; have hb1 : Below w.heap.size w w1 := below_row ((Below.refl _ w).alloc (Nat.le_refl _) _) hg1 (Nat.le_refl _) (by simp); have hsz := hb1.size; have HR1 := Lib.hid hR1; have HB1 := Lib.hid hb1; clear hR1 hg1 hb1)
  go_ret2
  exact ⟨w1.heap.size, rfl, ⟨0, n, _, xs, ⟨blk_new w1 _, Kd.R_lower (Kd.R_mono (Kd.R_bound (Kd.R_alloc HR1.out _)) (fun k hk => hk.2.1)) (Nat.zero_le _), hsz, Nat.zero_le _, hn, HB.out, by omega⟩, by rw [List.drop_zero]⟩, HB1.out.alloc hsz _⟩

set_option maxHeartbeats 1000000 in
theorem rclone_calls (w : World) (ok : Nat → Prop) (g : Nat) (rem : List Bool) (hW : Rd w ok g rem) :
    Calls Try.prog 33 #[.pointer (some ⟨g, 0, none⟩)] w fun e w' => e = .returned (.pointer (some ⟨w.heap.size, 0, none⟩)) ∧ Rd w' (fun k => ok k ∨ k = w.heap.size) w.heap.size rem ∧ Below w.heap.size w w' := by
  obtain ⟨a, n, v, xs, h, hrem⟩ := hW
  obtain ⟨A, c, hv⟩ := Kd.R_slice h.row
  subst hv
  have hg := h.blk
  have H := Lib.hid h
  have HREM := Lib.hid hrem
  clear h hrem
  have g0 : w.cell? ⟨g, 0, none⟩ = some (.bool true) := (blk_cell hg 0).trans rfl
  have g1 : w.cell? ⟨g, 1, none⟩ = some (.int .i64 a) := (blk_cell hg 1).trans rfl
  have g2 : w.cell? ⟨g, 2, none⟩ = some (.int .i64 n) := (blk_cell hg 2).trans rfl
  have g3 : w.cell? ⟨g, 3, none⟩ = some (.slice A xs.length c) := (blk_cell hg 3).trans rfl
  go_enter Try.func33, Try.ntmps33
  go_wp2_with (go_at_call 43; refine (rok_made _ _ _ _ _ _ hg).mono ?_; rintro e w' ⟨rfl, rfl⟩)
  go_ret
  have h := H.out
  exact ⟨rfl, ⟨a, n, _, xs, ⟨blk_new w _, Kd.R_alloc (Kd.R_mono h.row (fun k hk => .inl hk)) _, .inr rfl, h.le, h.le8, h.byts, h.small⟩, HREM.out⟩, (Below.refl _ w).alloc (Nat.le_refl _) _⟩
end Go.Proofs.Ytemkfkaggdpcjaa
