/- The document's table and turning. -/
import Derived.Test.YtclndenmmhdokaaDoorH11
namespace Go.Proofs.YtclndenmmhdokaaDoor
open Go.RowKit Go.Proofs.YtclndenmmhdokaaDoorW.PrintWords Go.Proofs.YtclndenmmhdokaaDoorW.PrintMore Go.Proofs.YtclndenmmhdokaaDoorW.PrintLast
set_option linter.unusedVariables false
set_option linter.unusedSimpArgs false
attribute [local go_sem ↓] Go.wp_at_zero Go.wp_at_succ
theorem bits_or_comm (k : IntKind) (x y : Int) : bits .or k x y = bits .or k y x := by simp only [bits, BitVec.or_comm]
theorem rright_calls (x : Int) (n : Nat) (w : World) (h0 : 0 < n) (h1 : n < 32) :
    Calls Tryd.prog 61 #[.int .u32 x, .int .u64 n] w fun e w' => e = .returned (.int .u32 (Sha.rot (-(n : Int)) x)) ∧ w = w' := by
  obtain ⟨m, hm⟩ : ∃ m, m = 32 - n := ⟨_, rfl⟩
  have e1 : (32 - (n : Int)).toNat = m := by omega
  have e3 : IntKind.u64.wrap (32 - (n : Int)) = 32 - (n : Int) := by rw [IntKind.wrap_u64]; omega
  have e4 : (0 : Int) ≤ 32 - (n : Int) := by omega
  have HM := Lib.hid hm
  clear hm
  go_enter Tryd.func61, Tryd.ntmps61
  go_wp2
  go_ret
  refine ⟨?_, rfl⟩
  have e : (-(-(n : Int))).toNat = n := by omega
  unfold Sha.rot
  rw [e, ← HM.out, bits_or_comm]
  rfl
section
variable {ops : Array Oper} {rest : List Oper} {o : Oper} {a : Act} {w : World} {Q : Exit → Act → World → Prop}
theorem wl_run {P : Program} (v : Value) (hgd : o.guard = none) (hr : Sem.run P (execOp a.eval o) w = .ok (.value v) w) (h : wpList P ops Q rest (a.put o.dst v) w) : wpList P ops Q (o :: rest) a w := by
  refine wpList_plain hgd fun K hK => ?_
  unfold Oper.wp
  rw [hr]
  exact hK _ _ h
end
set_option maxRecDepth 20000 in
theorem table_calls (w : World) :
    Calls Tryd.prog 59 #[] w fun e w' => e = .returned (.agg (nums .u32 Sha.K).toArray) ∧ Below w.heap.size w w' := by
  go_enter Tryd.func59, Tryd.ntmps59
  go_upto_region 1 with fail
  obtain ⟨w1, hw1⟩ : ∃ w1, w1 = w.alloc (.cells (nums .u32 (List.replicate 64 0)).toArray 77) := ⟨_, rfl⟩
  have k1 : Blk w1 w.heap.size .u32 77 (List.replicate 64 0) := by rw [hw1]; exact blk_new w _
  have b1 : Below w.heap.size w w1 := by rw [hw1]; exact (Below.refl _ w).alloc (Nat.le_refl _) _
  change Code.wp _ _ _ _ (w.alloc (.cells (nums .u32 (List.replicate 64 0)).toArray 77))
  rw [← hw1]
  clear hw1
  have hsz : (Tryd.prog.info? 77).map (·.size) = some (nums .u32 Sha.K).toArray.size := by kernel_rfl
  refine wp_region_lit ?_
  refine wl_run (.agg (nums .u32 Sha.K).toArray) rfl (by kernel_rfl) ?_
  refine wpList_store_mid rfl _ _ _ rfl w.heap.size 0 (nums .u32 Sha.K).toArray rfl rfl k1.there hsz (all_oneCell_toArray (nums_one .u32 Sha.K)) ?_
  rw [List.toList_toArray]
  change wpList _ _ _ _ _ (putA w1 w.heap.size .u32 Sha.K)
  simp only [Act.put, List.setIfInBounds_toArray, List.set_cons_zero, List.set_cons_succ]
  have hfin := k1.putA (k' := .u32) (ys := Sha.K) rfl
  have HF := Lib.hid hfin
  have HB := Lib.hid (putA_below (g := w.heap.size) (k := .u32) (ys := Sha.K) b1 (Nat.le_refl _))
  generalize putA w1 w.heap.size .u32 Sha.K = w2 at HF HB ⊢
  clear hfin k1 b1
  go_wp2_with fail
  exact bodyPost_ret (results_cell_row rfl _ _ w.heap.size 77 (nums .u32 Sha.K).toArray (0, 0) _ rfl HF.out Tryd.underlying77 rfl hsz) rfl ⟨rfl, HB.out⟩
end Go.Proofs.YtclndenmmhdokaaDoor
