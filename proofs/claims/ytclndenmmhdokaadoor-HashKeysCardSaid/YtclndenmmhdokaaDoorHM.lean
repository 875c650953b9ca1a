/- make([]byte, 0, m); letters of a constant string. -/
import Derived.Test.YtclndenmmhdokaaDoorH21
namespace Go.Proofs.YtclndenmmhdokaaDoor
open Go Go.RowKit Go.Proofs.YtclndenmmhdokaaDoorW.PrintWords Go.Proofs.YtclndenmmhdokaaDoorW.PrintMore Go.Proofs.YtclndenmmhdokaaDoorW.PrintLast Bq
set_option linter.unusedVariables false
set_option linter.unusedSimpArgs false
attribute [local go_sem ↓] Go.wp_at_zero Go.wp_at_succ
theorem run_make0 (W : World) (m : Nat) (hm : m ≤ 281474976710656) :
    (Instr.makeSlice 28 (.int .i64 0) (.int .i64 (m : Int))).run Tryd.prog W = .ok (.slice (some ⟨W.heap.size, 0, none⟩) 0 m) (W.alloc (.cells (madeCells #[.int .u8 0] m) 5)) := by
  obtain ⟨i0, hi, hzz⟩ := Option.map_eq_some_iff.1 info_u8
  simp only [Prod.mk.injEq] at hzz
  obtain ⟨hz0, hz1, hz2⟩ := hzz
  have hr := run_make (P := Tryd.prog) W 28 5 i0 (.int .u8 0) Tryd.underlying28 hi hz0 .i64 .i64 0 (m : Int) (by omega) (by omega) (by rw [hz2]; omega) (by omega)
  simp only [Int.toNat_natCast, hz1, Nat.mul_one] at hr
  exact hr
theorem make0_R (W : World) (base m : Nat) (ok : Nat → Prop) (hb : base ≤ W.heap.size) (hok : ok W.heap.size) (hm : m ≤ 281474976710656) :
    (Kd.int .u8).R 5 (W.alloc (.cells (madeCells #[.int .u8 0] m) 5)) base ok (.slice (some ⟨W.heap.size, 0, none⟩) 0 m) [] :=
  ⟨fun k hk => by
    have : W.heap.size = k := by simpa [Value.ownBlock] using hk
    subst this
    exact hok, [], ⟨by simp, .inr ⟨W.heap.size, m, _, rfl, hb, heap_alloc_new W _, Nat.zero_le _, by simp [maxLen]; omega, by rw [size_madeCells]; exact (Nat.mul_one m).symm, by simp⟩⟩, Reps.none _ _⟩
section
variable {ops : Array Oper} {rest : List Oper} {o : Oper} {a : Act} {W : World} {Q : Exit → Act → World → Prop}
theorem wl_make0 (base m : Nat) (ok : Nat → Prop) (hgd : o.guard = none) (x y : Operand) (ho : o.op = .makeSlice 28 x y) (hx : a.eval x = .int .i64 0) (hy : a.eval y = .int .i64 (m : Int)) (hb : base ≤ W.heap.size) (hok : ok W.heap.size) (hm : m ≤ 281474976710656)
    (h : ∀ v1 w1, (Kd.int .u8).R 5 w1 base ok v1 [] → Below W.heap.size W w1 → wpList Tryd.prog ops Q rest (a.put o.dst v1) w1) : wpList Tryd.prog ops Q (o :: rest) a W := by
  refine wpList_plain hgd fun K hK => ?_
  have hr := run_make0 W m hm
  unfold Oper.wp
  simp only [execOp, ho, hx, hy, Sem.run_bind, hr, Result.andThen]
  exact hK _ _ (h _ _ (make0_R W base m ok hb hok hm) (below_alloc (Below.refl _ W) _))
end
/-- A byte of a string. -/
theorem str_run (w : World) (k : IntKind) (s : ByteArray) (i : Nat) (hi : i < s.size) :
    Sem.run Tryd.prog (Instr.index 9 (.string s) (.int k (i : Int))) w = .ok (.int .u8 ((s[i]'hi).toNat : Int)) w := by
  have hu : Tryd.prog.underlying 9 = some .string := Tryd.underlying9
  have hsome : s[i]? = some (s[i]'hi) := getElem?_pos s i hi
  simp [Instr.index, hu, asIntOf, hsome, go_sem]
set_option maxRecDepth 10000 in
theorem lettS_get (i : Nat) (hi : i < 64) : (((lettS[i]'hi).toNat : Nat) : Int) = lett.getD i 0 := by
  have h : ∀ j : Fin 64, (((lettS[j.val]'j.isLt).toNat : Nat) : Int) = lett.getD j.val 0 := by decide
  exact h ⟨i, hi⟩
theorem lett_run (w : World) (k : IntKind) (i : Nat) (hi : i < 64) :
    Sem.run Tryd.prog (Instr.index 9 (.string lettS) (.int k (i : Int))) w = .ok (.int .u8 (lett.getD i 0)) w := by
  rw [str_run w k lettS i hi, lettS_get i hi]
theorem hexS_get (i : Nat) (hi : i < 16) : (((hexS[i]'hi).toNat : Nat) : Int) = hexD.getD i 0 := by
  have h : ∀ j : Fin 16, (((hexS[j.val]'j.isLt).toNat : Nat) : Int) = hexD.getD j.val 0 := by decide
  exact h ⟨i, hi⟩
theorem hexS_run (w : World) (k : IntKind) (i : Nat) (hi : i < 16) :
    Sem.run Tryd.prog (Instr.index 9 (.string hexS) (.int k (i : Int))) w = .ok (.int .u8 (hexD.getD i 0)) w := by
  rw [str_run w k hexS i hi, hexS_get i hi]
end Go.Proofs.YtclndenmmhdokaaDoor
