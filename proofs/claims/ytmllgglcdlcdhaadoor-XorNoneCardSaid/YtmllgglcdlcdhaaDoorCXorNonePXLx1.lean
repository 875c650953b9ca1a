import Derived.Test.YtmllgglcdlcdhaaDoorCXorNoneS1
import Derived.Lib.AppendStr
import Derived.Laws.IdiomCopy
import Derived.Lib.ValidLaws
import Derived.Test.YtmllgglcdlcdhaaDoorCXorNoneYF
import Derived.Test.YtmllgglcdlcdhaaDoorCXorNoneY1
import Derived.Test.YtmllgglcdlcdhaaDoorCXorNoneYB
import Derived.Test.YtmllgglcdlcdhaaDoorCXorNoneY8
import Derived.Test.YtmllgglcdlcdhaaDoorCXorNoneYI
section
namespace Go.Proofs.YtmllgglcdlcdhaaDoor.Pu
open Go Go.RowKit Go.Proofs.YtmllgglcdlcdhaaDoorW.PrintWords Go.Proofs.YtmllgglcdlcdhaaDoorW.PrintLast Go.Proofs.YtmllgglcdlcdhaaDoorW.PrintMore
set_option linter.unusedVariables false
theorem w64 {x : Int} (h0 : -9223372036854775808 ≤ x) (h1 : x ≤ 9223372036854775807) : wrap64 x = x := by unfold wrap64; omega
theorem w32 {x : Int} (h0 : -2147483648 ≤ x) (h1 : x ≤ 2147483647) : wrap32 x = x := by unfold wrap32; omega
theorem wn {n : Nat} {x : Int} (h : x = (n : Int)) (hn : n ≤ 9223372036854775807) : wrap64 x = (n : Int) := by
  rw [h]
  exact w64 (by omega) (by omega)
theorem w1 (n : Nat) (h : n ≤ 9000000000000000000) : wrap64 ((n : Int) + 1) = ((n + 1 : Nat) : Int) := wn rfl (by omega)
theorem w2 (n : Nat) (h : n ≤ 9000000000000000000) : wrap64 (((n + 1 : Nat) : Int) + 1) = ((n + 2 : Nat) : Int) := wn (by omega) (by omega)
abbrev Str := List UInt8
def B (s : ByteArray) : Str := s.data.toList
theorem Ev.at {α : Type} {g : Nat → Option α} {r : α} (K : Nat) (h : ∀ k, K < k → g k = some r) : Ev g r := ⟨K + 1, fun k hk => h k (by omega)⟩
theorem Ev.add {α : Type} {g : Nat → Option α} {r : α} (h : Ev g r) : Ev (fun k => g (k + 1)) r := by
  obtain ⟨K, h⟩ := h
  exact ⟨K, fun k hk => h (k + 1) (by omega)⟩
end Go.Proofs.YtmllgglcdlcdhaaDoor.Pu
end
section
namespace Go.Proofs.YtmllgglcdlcdhaaDoor.PXL
open Go.RowKit Go.Proofs.YtmllgglcdlcdhaaDoorW.PrintWords Go.Proofs.YtmllgglcdlcdhaaDoorW.PrintLast Go.Proofs.YtmllgglcdlcdhaaDoorW.PrintMore
attribute [local go_sem] max2_int min2_int max_two min_two max_three min_three max_four min_four
set_option linter.unusedVariables false
set_option linter.unusedSimpArgs false
theorem eqA39 (d : Nat) (w : World) (x0 y0 : Int) (x1 y1 : Int) :
  (Op.equalIn (d + 2) 39 (.agg #[.int .i64 x0, .int .u64 x1]) (.agg #[.int .i64 y0, .int .u64 y1])).run Tryd.prog w = .ok (x0 == y0 && (x1 == y1)) w := by
 refine eqA_of Tryd.underlying39 (by kernel_rfl) ?_
 refine eqf_cons (by rfl) (by go_simp; rfl) (by go_simp; rfl) (by go_simp) ?_
 exact eqf_last (by rfl) (by go_simp; rfl) (by go_simp; rfl) (by go_simp)
end Go.Proofs.YtmllgglcdlcdhaaDoor.PXL
end
