/- The Reader: NewReader, Get, Left, Clone, by the bits that are left. -/
import Derived.Test.YtemkfkaggdpcjaaB4
namespace Go.Proofs.Ytemkfkaggdpcjaa
open Go.RowKit Go.Proofs.YtemkfkaggdpcjaaW.PrintWords Go.Proofs.YtemkfkaggdpcjaaW.PrintMore Bq
set_option linter.unusedVariables false
set_option linter.unusedSimpArgs false
attribute [local go_sem ↓] Go.wp_at_zero Go.wp_at_succ

def Byts (xs : List Int) : Prop := ∀ x ∈ xs, 0 ≤ x ∧ x < 256
def bitAt (xs : List Int) (i : Nat) : Bool := ((xs.getD (i / 8) 0).toNat).testBit (7 - i % 8)
def bitsOf (xs : List Int) (n : Nat) : List Bool := (List.range n).map (bitAt xs)
theorem bitsOf_length (xs : List Int) (n : Nat) : (bitsOf xs n).length = n := by simp [bitsOf]
theorem bitsOf_get (xs : List Int) (n i : Nat) (h : i < n) : (bitsOf xs n)[i]'(by rw [bitsOf_length]; exact h) = bitAt xs i := by simp [bitsOf]

/-- A Reader that a call made. -/
structure RdB (w : World) (ok : Nat → Prop) (g : Nat) (at_ n : Nat) (v : Value) (xs : List Int) : Prop where
  blk : w.heap[g]? = some (.cells #[.bool true, .int .i64 at_, .int .i64 n, v] 64 (0, 0))
  row : (Kd.int .u8).R 5 w 0 ok v xs
  okg : ok g
  le : at_ ≤ n
  le8 : n ≤ 8 * xs.length
  byts : Byts xs
  small : xs.length ≤ 1000000000000
def Rd (w : World) (ok : Nat → Prop) (g : Nat) (rem : List Bool) : Prop := ∃ at_ n v xs, RdB w ok g at_ n v xs ∧ rem = (bitsOf xs n).drop at_

theorem RdB.drewN {w : World} {ok : Nat → Prop} {g at_ n : Nat} {v : Value} {xs : List Int} (h : RdB w ok g at_ n v xs) (m : Nat) : RdB (w.drewN m) ok g at_ n v xs :=
  ⟨h.blk, Kd.R_drewN h.row m, h.okg, h.le, h.le8, h.byts, h.small⟩
theorem RdB.drew {w : World} {ok : Nat → Prop} {g at_ n : Nat} {v : Value} {xs : List Int} (h : RdB w ok g at_ n v xs) : RdB w.drew ok g at_ n v xs :=
  ⟨h.blk, Kd.R_drew h.row, h.okg, h.le, h.le8, h.byts, h.small⟩
theorem RdB.kept {w w1 : World} {ok S : Nat → Prop} {g at_ n : Nat} {v : Value} {xs : List Int} (h : RdB w ok g at_ n v xs) (hm : Mod S w w1) (hs : ∀ k, ok k → k < w.heap.size → ¬ S k) : RdB w1 ok g at_ n v xs :=
  ⟨hm.blk h.blk (hs g h.okg (blk_lt h.blk)), Kd.R_step h.row (fun k ho hk => hm.block k hk (hs k ho hk)), h.okg, h.le, h.le8, h.byts, h.small⟩
theorem Rd.kept {w w1 : World} {ok S : Nat → Prop} {g : Nat} {rem : List Bool} (h : Rd w ok g rem) (hm : Mod S w w1) (hs : ∀ k, ok k → k < w.heap.size → ¬ S k) : Rd w1 ok g rem := by
  obtain ⟨a, n, v, xs, h1, h2⟩ := h
  exact ⟨a, n, v, xs, h1.kept hm hs, h2⟩
theorem Rd.bound {w : World} {ok : Nat → Prop} {g : Nat} {rem : List Bool} (h : Rd w ok g rem) : Rd w (fun k => ok k ∧ k < w.heap.size) g rem := by
  obtain ⟨a, n, v, xs, h1, h2⟩ := h
  exact ⟨a, n, v, xs, ⟨h1.blk, Kd.R_mono (Kd.R_bound h1.row) (fun k hk => ⟨hk.1, hk.2.2.1⟩), ⟨h1.okg, blk_lt h1.blk⟩, h1.le, h1.le8, h1.byts, h1.small⟩, h2⟩
theorem Rd.mono {w : World} {ok ok' : Nat → Prop} {g : Nat} {rem : List Bool} (h : Rd w ok g rem) (hs : ∀ k, ok k → ok' k) : Rd w ok' g rem := by
  obtain ⟨a, n, v, xs, h1, h2⟩ := h
  exact ⟨a, n, v, xs, ⟨h1.blk, Kd.R_mono h1.row hs, hs g h1.okg, h1.le, h1.le8, h1.byts, h1.small⟩, h2⟩

theorem rok_made (w : World) (g : Nat) (b : Bool) (a n : Int) (v : Value) (hg : w.heap[g]? = some (.cells #[.bool b, .int .i64 a, .int .i64 n, v] 64 (0, 0))) :
    Calls Try.prog 43 #[.pointer (some ⟨g, 0, none⟩)] w fun e w' => e = .returned (.bool b) ∧ w = w' := by
  have h0 : w.cell? ⟨g, 0, none⟩ = some (.bool b) := (blk_cell hg 0).trans rfl
  go_enter Try.func43, Try.ntmps43
  go_wp2
  go_ret
  exact ⟨rfl, rfl⟩
theorem rok_nil (w : World) :
    Calls Try.prog 43 #[.pointer none] w fun e w' => e = .returned (.bool false) ∧ w = w' := by
  go_enter Try.func43, Try.ntmps43
  go_wp2
  go_ret
  exact ⟨rfl, rfl⟩

set_option maxHeartbeats 1000000 in
theorem rleft_calls (w : World) (ok : Nat → Prop) (g : Nat) (rem : List Bool) (hW : Rd w ok g rem) :
    Calls Try.prog 31 #[.pointer (some ⟨g, 0, none⟩)] w fun e w' => e = .returned (.int .i64 rem.length) ∧ ∃ n, w' = w.drewN n := by
  obtain ⟨a, n, v, xs, h, rfl⟩ := hW
  have hg := h.blk
  have hle := h.le
  have hle8 := h.le8
  have hsm := h.small
  have g1 : w.cell? ⟨g, 1, none⟩ = some (.int .i64 a) := (blk_cell hg 1).trans rfl
  have g2 : w.cell? ⟨g, 2, none⟩ = some (.int .i64 n) := (blk_cell hg 2).trans rfl
  have hsub : IntKind.i64.wrap ((n : Int) - a) = (n : Int) - a := IntWalk.i64_in _ (by omega)
  clear h
  go_enter Try.func31, Try.ntmps31
  go_wp2_with (go_at_call 43; refine (rok_made _ _ _ _ _ _ hg).mono ?_; rintro e w' ⟨rfl, rfl⟩)
  go_quiet (fail)
  go_wp2
  go_ret
  exact ⟨by rw [List.length_drop, bitsOf_length]; simp; omega, _, rfl⟩
end Go.Proofs.Ytemkfkaggdpcjaa
