/- Whole arrays of numbers: loaded and stored by value. -/
import Derived.Test.YtclndenmmhdokaaDoorH2
import Derived.Deep.MidRow
namespace Go.Proofs.YtclndenmmhdokaaDoor
open Go.RowKit Go.Proofs.YtclndenmmhdokaaDoorW.PrintWords Go.Proofs.YtclndenmmhdokaaDoorW.PrintMore Go.Proofs.YtclndenmmhdokaaDoorW.PrintLast
set_option linter.unusedVariables false
set_option linter.unusedSimpArgs false

theorem nums_length (k : IntKind) (xs : List Int) : (nums k xs).length = xs.length := by simp [nums]
theorem nums_one (k : IntKind) (xs : List Int) : ∀ v ∈ nums k xs, v.oneCell' = true := by
  intro v hv
  obtain ⟨x, _, rfl⟩ := List.mem_map.1 hv
  rfl
/-- Numbers are put into a block. -/
def putA (w : World) (g : Nat) (k : IntKind) (ys : List Int) : World := w.setCells g 0 (nums k ys)
section
variable {w : World} {g t T : Nat} {k k' : IntKind} {xs ys : List Int} {d : TypeDesc}
theorem Blk.range (h : Blk w g k t xs) : w.rangeAt g 0 (nums k xs) := fun j v hv => by
  rw [Nat.zero_add, blk_cell h j, List.getElem?_toArray]
  exact hv
theorem Blk.there (h : Blk w g k t xs) : w.there g 0 xs.length := fun j hj => by
  rw [Nat.zero_add, blk_cell h j, List.getElem?_toArray, List.getElem?_eq_getElem (by rw [nums_length]; exact hj)]
  exact ⟨rfl, blk_frozen h j⟩
theorem Blk.load (h : Blk w g k t xs) (hu : Tryd.prog.underlying T = some d) (hd : d.isRow = true) (hi : (Tryd.prog.info? T).map (·.size) = some xs.length) :
    (Instr.loadAt T (.pointer (some ⟨g, 0, none⟩))).run Tryd.prog w = .ok (.agg (nums k xs).toArray) w :=
  run_loadAt_mid w g 0 T (nums k xs) d h.range hu hd (by rw [nums_length]; exact hi)
theorem Blk.store (h : Blk w g k t xs) (hl : ys.length = xs.length) (hi : (Tryd.prog.info? T).map (·.size) = some ys.length) :
    (Instr.storeAt T (.pointer (some ⟨g, 0, none⟩)) (.agg (nums k' ys).toArray)).run Tryd.prog w = .ok () (putA w g k' ys) := by
  have hs : (nums k' ys).toArray.size = ys.length := by rw [List.size_toArray, nums_length]
  have h2 := run_storeAt_mid (P := Tryd.prog) w g 0 T (nums k' ys).toArray (by rw [hs, hl]; exact h.there) (by rw [hs]; exact hi) (all_oneCell_toArray (nums_one k' ys))
  rw [List.toList_toArray] at h2
  exact h2
theorem Blk.putA (h : Blk w g k t xs) (hl : ys.length = xs.length) : Blk (putA w g k' ys) g k' t ys := by
  obtain ⟨cur', h1, h2, h3⟩ := setCells_row (nums k' ys) 0 w _ h (by rw [List.size_toArray, nums_length, nums_length]; omega)
  have h4 : cur' = (nums k' ys).toArray := by
    apply Array.ext'
    rw [h3, List.take_zero, List.nil_append, List.toList_toArray, List.drop_of_length_le (by rw [nums_length, nums_length]; omega), List.append_nil]
  rw [h4] at h1
  exact h1
theorem putA_far {b : Nat} (hb : b ≠ g) : (putA w g k ys).heap[b]? = w.heap[b]? := setCells_far _ _ b hb
theorem putA_size : (putA w g k ys).heap.size = w.heap.size := (setCells_same g _ 0 w).2.2.2
theorem putA_below {w0 : World} {B : Nat} (h : Below B w0 w) (hg : B ≤ g) : Below B w0 (putA w g k ys) := by
  obtain ⟨h1, h2, h3, h4⟩ := setCells_same g (nums k ys) 0 w
  exact ⟨h1.trans h.os, h2.trans h.tape, h3.trans h.output, Nat.le_trans h.size (Nat.le_of_eq h4.symm), fun j hj => (putA_far (by omega)).trans (h.block j hj)⟩
theorem putA_mod {w0 : World} {S : Nat → Prop} (h : Mod S w0 w) (hg : S g ∨ w0.heap.size ≤ g) : Mod S w0 (putA w g k ys) := by
  obtain ⟨h1, h2, h3, h4⟩ := setCells_same g (nums k ys) 0 w
  exact ⟨h1.trans h.os, h2.trans h.tape, h3.trans h.output, Nat.le_trans h.size (Nat.le_of_eq h4.symm), fun j hj hn => (putA_far (by
    rintro rfl
    rcases hg with hg | hg
    · exact hn hg
    · omega)).trans (h.block j hj hn)⟩
end
end Go.Proofs.YtclndenmmhdokaaDoor
