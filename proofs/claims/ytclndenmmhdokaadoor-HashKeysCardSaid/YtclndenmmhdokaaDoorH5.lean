/- A Hash: made, asked. -/
import Derived.Test.YtclndenmmhdokaaDoorH3
import Derived.Test.YtclndenmmhdokaaDoorH4
namespace Go.Proofs.YtclndenmmhdokaaDoor
open Go.RowKit Go.Proofs.YtclndenmmhdokaaDoorW.PrintWords Go.Proofs.YtclndenmmhdokaaDoorW.PrintMore Go.Proofs.YtclndenmmhdokaaDoorW.PrintLast
set_option linter.unusedVariables false
set_option linter.unusedSimpArgs false
attribute [local go_sem ↓] Go.wp_at_zero Go.wp_at_succ

/-- A Hash's cells. -/
def hCells (b : Bool) (v : Sha.V8) (vl : Value) (n : Int) : Array Value :=
  #[.bool b, .int .u32 v.a, .int .u32 v.b, .int .u32 v.c, .int .u32 v.d, .int .u32 v.e, .int .u32 v.f, .int .u32 v.g, .int .u32 v.h, vl, .int .i64 n]
/-- A Hash that a call made: its state, what is left, how many bytes. -/
structure HsB (w : World) (ok : Nat → Prop) (g : Nat) (v : Sha.V8) (vl : Value) (l : List Int) (n : Nat) : Prop where
  blk : w.heap[g]? = some (.cells (hCells true v vl n) 46 (0, 0))
  row : (Kd.int .u8).R 5 w 0 ok vl l
  okg : ok g
  byts : Byts l
/-- .. of a text. -/
def Hs (w : World) (ok : Nat → Prop) (g : Nat) (t : List Int) : Prop :=
  ∃ vl, HsB w ok g (Sha.eatAll Sha.H0 t).1 vl (Sha.eatAll Sha.H0 t).2 t.length

theorem hok_made (w : World) (g : Nat) (b : Bool) (v : Sha.V8) (vl : Value) (n : Int) (hg : w.heap[g]? = some (.cells (hCells b v vl n) 46 (0, 0))) :
    Calls Tryd.prog 47 #[.pointer (some ⟨g, 0, none⟩)] w fun e w' => e = .returned (.bool b) ∧ w = w' := by
  have h0 : w.cell? ⟨g, 0, none⟩ = some (.bool b) := (blk_cell hg 0).trans rfl
  go_enter Tryd.func47, Tryd.ntmps47
  go_wp2
  go_ret
  exact ⟨rfl, rfl⟩
theorem hok_nil (w : World) :
    Calls Tryd.prog 47 #[.pointer none] w fun e w' => e = .returned (.bool false) ∧ w = w' := by
  go_enter Tryd.func47, Tryd.ntmps47
  go_wp2
  go_ret
  exact ⟨rfl, rfl⟩
theorem begin_calls (w : World) :
    Calls Tryd.prog 46 #[] w fun e w' => e = .returned (aggV Sha.H0) ∧ Below w.heap.size w w' := by
  go_enter Tryd.func46, Tryd.ntmps46
  go_wp2
  have hn := blk_new w (.cells (nums .u32 Sha.H0.list).toArray 44)
  exact bodyPost_ret (results_cell_row rfl _ _ w.heap.size 44 (nums .u32 Sha.H0.list).toArray (0, 0) _ rfl hn Tryd.underlying44 rfl (by kernel_rfl)) rfl ⟨rfl, below_alloc (Below.refl _ w) _⟩
theorem hnew_calls (w : World) :
    Calls Tryd.prog 20 #[] w fun e w' => ∃ g : Nat, e = .returned (.pointer (some ⟨g, 0, none⟩)) ∧ Hs w' (fun k => w.heap.size ≤ k) g [] ∧ Below w.heap.size w w' := by
  go_enter Tryd.func20, Tryd.ntmps20
  go_wp2_with fail
  refine (begin_calls w).mono ?_
  rintro e w1 ⟨rfl, hB⟩
  have HB := Lib.hid hB
  clear hB
  unfold aggV
  go_wp2_with fail
  go_ret
  refine ⟨w1.heap.size, rfl, ⟨.slice none 0 0, ?_⟩, below_alloc HB.out _⟩
  have he : Sha.eatAll Sha.H0 [] = (Sha.H0, []) := rfl
  rw [he]
  exact ⟨blk_new w1 _, Kd.R_nil _ _ _ _ _, HB.out.size, fun x hx => by cases hx⟩
end Go.Proofs.YtclndenmmhdokaaDoor
