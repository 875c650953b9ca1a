import Derived.Test.YtdhmabofncbohaaDoorCTO2
namespace Go.Proofs.YtdhmabofncbohaaDoor
open Go.RowKit Go.Proofs.YtdhmabofncbohaaDoorW.PrintWords Go.Proofs.YtdhmabofncbohaaDoorW.PrintMore Go.Proofs.YtdhmabofncbohaaDoorW.PrintLast Go.Deep
set_option linter.unusedVariables false
section
variable {H : Type} {enc : TypeId × Value → H} {P : Program} {w : World} {base : Nat} {spare : Nat → Bool} {held : Bool}
theorem opens_iso {α β : Type} {d : Kd α} {wf : α → Prop} {t : TypeId} (f : β → α) (g : α → β) (hg : ∀ y, f (g y) = y) (h : Opens enc P w base spare held t d wf) :
    Opens enc P w base spare held t (Kd.iso d f) (fun x => wf (f x)) := by
  intro fuel cs x hx
  obtain ⟨a, hK, hw⟩ := h fuel cs x hx
  refine ⟨g a, ?_, ?_⟩
  · show d.K w (f (g a)) cs
    rw [hg]
    exact hK
  · show wf (f (g a))
    rw [hg]
    exact hw
theorem opens_val {α : Type} {d : Kd α} {wf : α → Prop} {t : TypeId} {cs : Array Value} {x : DataW H} {ps : List MemPlace} (h : Opens enc P w base spare held t d wf)
    (hT : DataW.Trod enc P w base spare held t (.agg cs) x ps) : ∃ a, d.K w a cs.toList ∧ wf a := by
  obtain ⟨fuel, hf⟩ := hT
  exact h fuel _ _ hf
end
end Go.Proofs.YtdhmabofncbohaaDoor
