/- SHA-256: a word turned. -/
import Derived.Test.YtclndenmmhdokaaDoorP
import Derived.Test.YtclndenmmhdokaaDoorH1
import Derived.Deep.LoopGhost
import Derived.Laws.BitsLemmas
namespace Go.Proofs.YtclndenmmhdokaaDoor
open Go.RowKit Go.Proofs.YtclndenmmhdokaaDoorW.PrintWords Go.Proofs.YtclndenmmhdokaaDoorW.PrintMore Go.Proofs.YtclndenmmhdokaaDoorW.PrintLast
set_option linter.unusedVariables false
set_option linter.unusedSimpArgs false
attribute [local go_sem ↓] Go.wp_at_zero Go.wp_at_succ

theorem rot32_calls (x : Int) (N : Int) (w : World) (hN : N ∈ ([-7, -18, -17, -19, -6, -11, -25, -2, -13, -22] : List Int)) :
    Calls Tryd.prog 62 #[.int .u32 x, .int .i64 N] w fun e w' => e = .returned (.int .u32 (Sha.rot N x)) ∧ w = w' := by
  have hs : bits .and .u64 (IntKind.u64.wrap N) 31 = ((32 - (-N).toNat : Nat) : Int) ∧ 0 < (-N).toNat ∧ (-N).toNat < 32 := by
    revert hN
    have : ∀ M ∈ ([-7, -18, -17, -19, -6, -11, -25, -2, -13, -22] : List Int), bits .and .u64 (IntKind.u64.wrap M) 31 = ((32 - (-M).toNat : Nat) : Int) ∧ 0 < (-M).toNat ∧ (-M).toNat < 32 := by decide
    exact this N
  obtain ⟨hs, hn, hn2⟩ := hs
  obtain ⟨n, hnn⟩ : ∃ n, n = (-N).toNat := ⟨_, rfl⟩
  rw [← hnn] at hs hn hn2
  obtain ⟨m, hm⟩ : ∃ m, m = 32 - n := ⟨_, rfl⟩
  rw [← hm] at hs
  have e1 : ((m : Int)).toNat = m := by omega
  have e2 : (32 - (m : Int)).toNat = n := by omega
  have e3 : IntKind.u64.wrap (32 - (m : Int)) = 32 - (m : Int) := by rw [IntKind.wrap_u64]; omega
  have HM := Lib.hid hm
  have HNN := Lib.hid hnn
  clear hm hnn
  go_enter Tryd.func62, Tryd.ntmps62
  go_wp2
  go_ret
  refine ⟨?_, rfl⟩
  unfold Sha.rot
  rw [← HNN.out, ← HM.out]
  rfl
theorem take_set (l : List Int) (k n : Nat) (hk : k < l.length) (hn : k < n) : (l.take k ++ List.replicate (n - k) 0).set k (l.getD k 0) = l.take (k + 1) ++ List.replicate (n - (k + 1)) 0 := by
  have hl : (l.take k).length = k := by rw [List.length_take]; omega
  have e : n - k = (n - (k + 1)) + 1 := by omega
  rw [List.set_append_right _ _ (by omega), hl, Nat.sub_self, e, List.replicate_succ, List.set_cons_zero, List.take_succ_eq_append_getElem hk, List.append_assoc, List.getD_eq_getElem?_getD, List.getElem?_eq_getElem hk]
  rfl
theorem nums_get (k : IntKind) (xs : List Int) (i : Nat) (h : i < xs.length) : (nums k xs).toArray[i]? = some (.int k (xs.getD i 0)) := by
  rw [List.getD_eq_getElem?_getD, List.getElem?_eq_getElem h]
  simp [nums, h]
theorem nums_put (k : IntKind) (xs : List Int) (i : Nat) (x : Int) : (nums k xs).toArray.setIfInBounds i (.int k x) = (nums k (xs.set i x)).toArray := by
  simp [nums, List.map_set]
theorem mix_get (s v : List Int) (k : Nat) (hs : s.length = 8) (hv : v.length = 8) (hk : k < 8) : (s.take k ++ v.drop k).getD k 0 = v.getD k 0 := by
  have hl : (s.take k).length = k := by rw [List.length_take]; omega
  rw [List.getD_eq_getElem?_getD, List.getElem?_append_right (by omega), hl, Nat.sub_self, List.getElem?_drop, List.getD_eq_getElem?_getD]
  rfl
theorem mix_set (s v : List Int) (k : Nat) (hs : s.length = 8) (hv : v.length = 8) (hk : k < 8) : (s.take k ++ v.drop k).set k (s.getD k 0) = s.take (k + 1) ++ v.drop (k + 1) := by
  have hl : (s.take k).length = k := by rw [List.length_take]; omega
  rw [List.set_append_right _ _ (by omega), hl, Nat.sub_self, List.drop_eq_getElem_cons (show k < v.length by omega), List.set_cons_zero, List.take_succ_eq_append_getElem (show k < s.length by omega), List.append_assoc, List.getD_eq_getElem?_getD, List.getElem?_eq_getElem (show k < s.length by omega)]
  rfl
theorem mix_len (s v : List Int) (k : Nat) (hs : s.length = 8) (hv : v.length = 8) (hk : k ≤ 8) : (s.take k ++ v.drop k).length = 8 := by
  rw [List.length_append, List.length_take, List.length_drop]
  omega
theorem sum8_get (v u : Sha.V8) (k : Nat) (hk : k < 8) : (Sha.sum8 v u).list.getD k 0 = (v.list.getD k 0 + u.list.getD k 0) % 4294967296 := by
  rcases k with _ | _ | _ | _ | _ | _ | _ | _ | k
  · rfl
  · rfl
  · rfl
  · rfl
  · rfl
  · rfl
  · rfl
  · rfl
  · omega
/-- A block of numbers. -/
def Blk (w : World) (g : Nat) (k : IntKind) (t : Nat) (xs : List Int) : Prop := w.heap[g]? = some (.cells (nums k xs).toArray t (0, 0))
theorem Blk.get {w : World} {g t : Nat} {k : IntKind} {xs : List Int} (h : Blk w g k t xs) (i : Nat) (hi : i < xs.length) : w.cell? ⟨g, i, none⟩ = some (.int k (xs.getD i 0)) :=
  (blk_cell h i).trans (nums_get k xs i hi)
theorem Blk.free {w : World} {g t : Nat} {k : IntKind} {xs : List Int} (h : Blk w g k t xs) (i : Nat) : w.frozen? ⟨g, i, none⟩ = false := blk_frozen h i
theorem Blk.put {w : World} {g t : Nat} {k : IntKind} {xs : List Int} (h : Blk w g k t xs) (i : Nat) (x : Int) : Blk (w.setCell ⟨g, i, none⟩ (.int k x)) g k t (xs.set i x) := by
  unfold Blk
  rw [blk_set h i (.int k x), nums_put]
theorem Blk.other {w : World} {g g' t i : Nat} {k : IntKind} {xs : List Int} {v : Value} (h : Blk w g k t xs) (hne : g' ≠ g) : Blk (w.setCell ⟨g', i, none⟩ v) g k t xs :=
  (Below.heap_setCell w ⟨g', i, none⟩ v g (fun e => hne e.symm)).trans h
theorem Blk.alloc {w : World} {g t : Nat} {k : IntKind} {xs : List Int} (h : Blk w g k t xs) (o : Obj) : Blk (w.alloc o) g k t xs := blk_alloc h o
theorem Blk.drewN {w : World} {g t : Nat} {k : IntKind} {xs : List Int} (h : Blk w g k t xs) (n : Nat) : Blk (w.drewN n) g k t xs := h
theorem Blk.cast {w : World} {g t : Nat} {k : IntKind} {xs ys : List Int} (h : Blk w g k t xs) (e : xs = ys) : Blk w g k t ys := by rw [← e]; exact h
theorem Blk.lt {w : World} {g t : Nat} {k : IntKind} {xs : List Int} (h : Blk w g k t xs) : g < w.heap.size := blk_lt h
end Go.Proofs.YtclndenmmhdokaaDoor
