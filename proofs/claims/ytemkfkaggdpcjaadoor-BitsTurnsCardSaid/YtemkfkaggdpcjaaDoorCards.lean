/-
  DERIVED. GIVEN WITH THE SEED: THE CARDS: each row of YtemkfkaggdpcjaaDoorRows.lean that lists a variable, with what it lists TIED to the program's text (the seventh form; the later family's looks); each row that meets fmt, with fmt's text TOLD by the authors' own Lean function (tested against real Go, not proved from fmt's source: count such statements apart). THE CARD IS WHAT COUNTS. Prove the row's statement (the work); the ties are given (YtemkfkaggdpcjaaDoorTie.lean); close each card by the builder's one call (the guide's Derived/Test/ToyasCard.lean, 'card_holds'). Laid BY PROGRAM, IN A SANDBOX (cutbox-door.mjs). By AI agents, Wed Nov 11 2026. No macro, syntax, notation, axiom, sorry.
-/
import Derived.Test.YtemkfkaggdpcjaaDoorRows
import GoSem.ClaimSeven
namespace Go.Proofs.YtemkfkaggdpcjaaDoor
namespace Rows

/-- THE TIED CARD OF 'manometerlaw01.BitsZigs'. -/
def bitsZigsCard : Claim7 := { stood := { row := bitsZigsRow, standIns := [], harness := (true, "7feea19ffc3fef14aa425b9e4feaa2e59909424d1ef0d8f7a82e02236b42b270"), looks := false }, kinds := [], alts := [], laidByText := true, laidKinds := [.data], laidTests := true, laidLooks := .later }
def BitsZigsCardSaid : Prop := Claim7.holds Tryd.pinned (.plain (OpenSpec.ofChange bitsZigsSpec)) bitsZigsCard

/-- THE TIED CARD OF 'manometerlaw01.BitsTurns'. -/
def bitsTurnsCard : Claim7 := { stood := { row := bitsTurnsRow, standIns := [], harness := (true, "7feea19ffc3fef14aa425b9e4feaa2e59909424d1ef0d8f7a82e02236b42b270"), looks := false }, kinds := [], alts := [], laidByText := true, laidKinds := [.data], laidTests := true, laidLooks := .later }
def BitsTurnsCardSaid : Prop := Claim7.holds Tryd.pinned (.plain (OpenSpec.ofChange bitsTurnsSpec)) bitsTurnsCard

/-- THE SECOND FORM's CARD OF 'manometerlaw01.BitsZigs'. -/
def bitsZigsUptoCard : Claim7 := { stood := { row := bitsZigsUptoRow, standIns := [], harness := (true, "7feea19ffc3fef14aa425b9e4feaa2e59909424d1ef0d8f7a82e02236b42b270"), looks := false }, kinds := [], alts := [], laidByText := true, laidKinds := [.data], laidTests := true, laidLooks := .later }
def BitsZigsUptoCardSaid : Prop := Claim7.holds Tryd.pinned (.plain (OpenSpec.upto bitsZigsSpec)) bitsZigsUptoCard

/-- THE SECOND FORM's CARD OF 'manometerlaw01.BitsTurns'. -/
def bitsTurnsUptoCard : Claim7 := { stood := { row := bitsTurnsUptoRow, standIns := [], harness := (true, "7feea19ffc3fef14aa425b9e4feaa2e59909424d1ef0d8f7a82e02236b42b270"), looks := false }, kinds := [], alts := [], laidByText := true, laidKinds := [.data], laidTests := true, laidLooks := .later }
def BitsTurnsUptoCardSaid : Prop := Claim7.holds Tryd.pinned (.plain (OpenSpec.upto bitsTurnsSpec)) bitsTurnsUptoCard
end Rows
end Go.Proofs.YtemkfkaggdpcjaaDoor
