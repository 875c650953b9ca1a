import Derived.Test.YtdhmabofncbohaaDoorCTO
import Derived.Lib.LaidU8
import Derived.LaidMore
namespace Go.Proofs.YtdhmabofncbohaaDoor
open Go.RowKit
set_option linter.unusedVariables false
theorem laid_plain {P : Program} {w : World} {l : List (String × DataW Unit)} (h : laidMetH P l w) (hf : (l.filter fun x => x.2.handleName?.isSome).isEmpty = true) : laidMet P l w := by
  unfold laidMetH at h
  split at h
  · exact h
  · rename_i h2
    rw [h2] at hf
    cases hf
end Go.Proofs.YtdhmabofncbohaaDoor
