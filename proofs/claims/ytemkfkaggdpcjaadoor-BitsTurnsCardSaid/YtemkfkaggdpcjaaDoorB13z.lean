/- The document's Zig and Zag. -/
import Derived.Test.YtemkfkaggdpcjaaDoorB12
namespace Go.Proofs.YtemkfkaggdpcjaaDoor
open Go.RowKit Go.Proofs.YtemkfkaggdpcjaaDoorW.PrintWords Go.Proofs.YtemkfkaggdpcjaaDoorW.PrintMore Go.Proofs.YtemkfkaggdpcjaaDoorW.PrintLast Bq
set_option linter.unusedVariables false
set_option linter.unusedSimpArgs false
attribute [local go_sem ↓] Go.wp_at_zero Go.wp_at_succ

theorem rzig_calls (n : Int) (w : World) (h0 : -9223372036854775808 ≤ n) (h1 : n ≤ 9223372036854775807) :
    Calls Tryd.prog 7 #[.int .i64 n] w fun e w' => e = .returned (.int .u64 (zigI n)) ∧ w = w' := by
  by_cases hn : n < 0
  · go_enter Tryd.func7, Tryd.ntmps7
    go_wp2
    go_ret
    refine ⟨congrArg Ending.returned (congrArg (Value.int IntKind.u64) ?_), rfl⟩
    unfold zigI
    rw [if_pos hn]
    omega
  · go_enter Tryd.func7, Tryd.ntmps7
    go_wp2
    go_ret
    refine ⟨congrArg Ending.returned (congrArg (Value.int IntKind.u64) ?_), rfl⟩
    unfold zigI
    rw [if_neg (by omega)]
    try omega
theorem rzag_calls (n : Int) (w : World) (h0 : 0 ≤ n) (h1 : n < 18446744073709551616) :
    Calls Tryd.prog 9 #[.int .u64 n] w fun e w' => e = .returned (.int .i64 (zagI n)) ∧ w = w' := by
  by_cases hn : n % 2 = 1
  · have hq : (n % 2 == 1) = true := by simp [hn]
    have HN := Lib.hid hn
    clear hn
    go_enter Tryd.func9, Tryd.ntmps9
    go_wp2
    go_ret
    refine ⟨congrArg Ending.returned (congrArg (Value.int IntKind.i64) ?_), rfl⟩
    unfold zagI
    rw [if_pos HN.out]
    have := HN.out
    omega
  · have hq : (n % 2 == 1) = false := by simp [hn]
    have HN := Lib.hid hn
    clear hn
    go_enter Tryd.func9, Tryd.ntmps9
    go_wp2
    go_ret
    refine ⟨congrArg Ending.returned (congrArg (Value.int IntKind.i64) ?_), rfl⟩
    unfold zagI
    rw [if_neg HN.out]
    try omega
end Go.Proofs.YtemkfkaggdpcjaaDoor
