/- The chapter's examples; LabelsWords, plain. -/
import Derived.Test.YtdhmabofncbohaaDoorPU1
import Derived.Test.YtdhmabofncbohaaDoorPLBx6
import Derived.Test.YtdhmabofncbohaaDoorPLBx9
namespace Go.Proofs.YtdhmabofncbohaaDoor.Pu
open Go Go.RowKit Go.Proofs.YtdhmabofncbohaaDoor Go.Proofs.YtdhmabofncbohaaDoor.PLB Go.Proofs.YtdhmabofncbohaaDoorW.PrintWords Go.Proofs.YtdhmabofncbohaaDoorW.PrintLast Go.Proofs.YtdhmabofncbohaaDoorW.PrintMore
set_option linter.unusedVariables false
theorem live_60 : manometerlaw05_live.f 60 = some true := by kernel_rfl
theorem live_ev : Ev manometerlaw05_live.f true := Ev.of manometerlaw05_live.mono live_60
theorem labelsWords (s : ByteArray) : ∃ k, manometerlaw05_LabelsWords.f k s = some true := by
  refine Ev.rounds ?_
  unfold manometerlaw05_LabelsWords.f
  refine Ev.bind live_ev ?_
  simp only [if_true]
  refine Ev.ite (fun _ => Ev.now _) (fun h => ?_)
  have hs : s.size ≤ 1000000000000 := by omega
  rw [pNamed_f s hs, pValued_f s hs]
  refine Ev.bindc rfl (Ev.bind (Named_ev s hs) ?_)
  simp only [beq_self_eq_true, if_true]
  refine Ev.bindc rfl (Ev.bind (Valued_ev s hs) ?_)
  simp only [beq_self_eq_true]
  exact Ev.now _
end Go.Proofs.YtdhmabofncbohaaDoor.Pu
