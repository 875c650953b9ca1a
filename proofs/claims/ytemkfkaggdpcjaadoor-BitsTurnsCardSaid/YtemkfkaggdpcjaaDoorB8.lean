/- Numbers in few bytes: the program's PutUvarint, Zig, Zag. -/
import Derived.Test.YtemkfkaggdpcjaaDoorB4
import Derived.Test.YtemkfkaggdpcjaaDoorQ2
import Derived.Deep.LoopGhost
namespace Go.Proofs.YtemkfkaggdpcjaaDoor
open Go.RowKit Go.Proofs.YtemkfkaggdpcjaaDoorW.PrintWords Go.Proofs.YtemkfkaggdpcjaaDoorW.PrintMore Go.Proofs.YtemkfkaggdpcjaaDoorW.PrintLast Bq
set_option linter.unusedVariables false
set_option linter.unusedSimpArgs false
attribute [local go_sem ↓] Go.wp_at_zero Go.wp_at_succ

theorem zig_calls (n : Int) (w : World) (h0 : -9223372036854775808 ≤ n) (h1 : n ≤ 9223372036854775807) :
    Calls Tryd.prog 6 #[.int .i64 n] w fun e w' => e = .returned (.int .u64 (zigI n)) ∧ w = w' := by
  have hz := zig_bits n h0 h1
  have HZ := Lib.hid hz
  clear hz
  go_enter Tryd.func6, Tryd.ntmps6
  go_wp2
  go_ret
  exact ⟨by rw [← HZ.out, i64_w]; rfl, rfl⟩
theorem zag_calls (n : Int) (w : World) (h0 : 0 ≤ n) (h1 : n < 18446744073709551616) :
    Calls Tryd.prog 8 #[.int .u64 n] w fun e w' => e = .returned (.int .i64 (zagI n)) ∧ w = w' := by
  have hz := zag_bits n h0 h1
  have HZ := Lib.hid hz
  have ha := and_one n h0 h1
  clear hz
  go_enter Tryd.func8, Tryd.ntmps8
  go_wp2
  go_ret
  exact ⟨by rw [← HZ.out]; rfl, rfl⟩
end Go.Proofs.YtemkfkaggdpcjaaDoor
