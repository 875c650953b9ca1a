/-
  DERIVED. GIVEN WITH THE SEED: THE CARDS: each row of YtkkomfomjpcbfaaDoorRows.lean that lists a variable, with what it lists TIED to the program's text (the seventh form; the later family's looks); each row that meets fmt, with fmt's text TOLD by the authors' own Lean function (tested against real Go, not proved from fmt's source: count such statements apart). THE CARD IS WHAT COUNTS. Prove the row's statement (the work); the ties are given (YtkkomfomjpcbfaaDoorTie.lean); close each card by the builder's one call (the guide's Derived/Test/ToyasCard.lean, 'card_holds'). Laid BY PROGRAM, IN A SANDBOX (cutbox-door.mjs). By AI agents, Wed Nov 11 2026. No macro, syntax, notation, axiom, sorry.
-/
import Derived.Test.YtkkomfomjpcbfaaDoorRows
import GoSem.ClaimSeven
namespace Go.Proofs.YtkkomfomjpcbfaaDoor
namespace Rows

/-- THE TIED CARD OF 'manometerlaw17.TokenMints'. -/
def tokenMintsCard : Claim7 := { stood := { row := tokenMintsRow, standIns := [], harness := (true, "e8e711d9d3d3309a39cb84d910496a861a1adf7b9c1c7f78ce82b97639d76887"), looks := false }, kinds := [], alts := [], laidByText := true, laidKinds := [.data], laidTests := true, laidLooks := .later }
def TokenMintsCardSaid : Prop := Claim7.holds Tryd.pinned (.plain (OpenSpec.ofChange tokenMintsSpec)) tokenMintsCard

/-- THE TIED CARD OF 'manometerlaw17.TokenReads'. -/
def tokenReadsCard : Claim7 := { stood := { row := tokenReadsRow, standIns := [], harness := (true, "e8e711d9d3d3309a39cb84d910496a861a1adf7b9c1c7f78ce82b97639d76887"), looks := false }, kinds := [], alts := [], laidByText := true, laidKinds := [.data], laidTests := true, laidLooks := .later }
def TokenReadsCardSaid : Prop := Claim7.holds Tryd.pinned (.plain (OpenSpec.ofChange tokenReadsSpec)) tokenReadsCard

/-- THE TIED CARD OF 'manometerlaw17.TokenVerifies'. -/
def tokenVerifiesCard : Claim7 := { stood := { row := tokenVerifiesRow, standIns := [], harness := (true, "e8e711d9d3d3309a39cb84d910496a861a1adf7b9c1c7f78ce82b97639d76887"), looks := false }, kinds := [], alts := [], laidByText := true, laidKinds := [.data], laidTests := true, laidLooks := .later }
def TokenVerifiesCardSaid : Prop := Claim7.holds Tryd.pinned (.plain (OpenSpec.ofChange tokenVerifiesSpec)) tokenVerifiesCard

/-- THE TIED CARD OF 'manometerlaw17.TokenMinted'. -/
def tokenMintedCard : Claim7 := { stood := { row := tokenMintedRow, standIns := [], harness := (true, "e8e711d9d3d3309a39cb84d910496a861a1adf7b9c1c7f78ce82b97639d76887"), looks := false }, kinds := [], alts := [], laidByText := true, laidKinds := [.data], laidTests := true, laidLooks := .later }
def TokenMintedCardSaid : Prop := Claim7.holds Tryd.pinned (.plain (OpenSpec.ofChange tokenMintedSpec)) tokenMintedCard

/-- THE TIED CARD OF 'manometerlaw17.TokenOne'. -/
def tokenOneCard : Claim7 := { stood := { row := tokenOneRow, standIns := [], harness := (true, "e8e711d9d3d3309a39cb84d910496a861a1adf7b9c1c7f78ce82b97639d76887"), looks := false }, kinds := [], alts := [], laidByText := true, laidKinds := [.data], laidTests := true, laidLooks := .later }
def TokenOneCardSaid : Prop := Claim7.holds Tryd.pinned (.plain (OpenSpec.ofChange tokenOneSpec)) tokenOneCard

/-- THE TIED CARD OF 'manometerlaw17.TokenTurns'. -/
def tokenTurnsCard : Claim7 := { stood := { row := tokenTurnsRow, standIns := [], harness := (true, "e8e711d9d3d3309a39cb84d910496a861a1adf7b9c1c7f78ce82b97639d76887"), looks := false }, kinds := [], alts := [], laidByText := true, laidKinds := [.data], laidTests := true, laidLooks := .later }
def TokenTurnsCardSaid : Prop := Claim7.holds Tryd.pinned (.plain (OpenSpec.ofChange tokenTurnsSpec)) tokenTurnsCard

/-- THE SECOND FORM's CARD OF 'manometerlaw17.TokenMints'. -/
def tokenMintsUptoCard : Claim7 := { stood := { row := tokenMintsUptoRow, standIns := [], harness := (true, "e8e711d9d3d3309a39cb84d910496a861a1adf7b9c1c7f78ce82b97639d76887"), looks := false }, kinds := [], alts := [], laidByText := true, laidKinds := [.data], laidTests := true, laidLooks := .later }
def TokenMintsUptoCardSaid : Prop := Claim7.holds Tryd.pinned (.plain (OpenSpec.upto tokenMintsSpec)) tokenMintsUptoCard

/-- THE SECOND FORM's CARD OF 'manometerlaw17.TokenReads'. -/
def tokenReadsUptoCard : Claim7 := { stood := { row := tokenReadsUptoRow, standIns := [], harness := (true, "e8e711d9d3d3309a39cb84d910496a861a1adf7b9c1c7f78ce82b97639d76887"), looks := false }, kinds := [], alts := [], laidByText := true, laidKinds := [.data], laidTests := true, laidLooks := .later }
def TokenReadsUptoCardSaid : Prop := Claim7.holds Tryd.pinned (.plain (OpenSpec.upto tokenReadsSpec)) tokenReadsUptoCard

/-- THE SECOND FORM's CARD OF 'manometerlaw17.TokenVerifies'. -/
def tokenVerifiesUptoCard : Claim7 := { stood := { row := tokenVerifiesUptoRow, standIns := [], harness := (true, "e8e711d9d3d3309a39cb84d910496a861a1adf7b9c1c7f78ce82b97639d76887"), looks := false }, kinds := [], alts := [], laidByText := true, laidKinds := [.data], laidTests := true, laidLooks := .later }
def TokenVerifiesUptoCardSaid : Prop := Claim7.holds Tryd.pinned (.plain (OpenSpec.upto tokenVerifiesSpec)) tokenVerifiesUptoCard

/-- THE SECOND FORM's CARD OF 'manometerlaw17.TokenMinted'. -/
def tokenMintedUptoCard : Claim7 := { stood := { row := tokenMintedUptoRow, standIns := [], harness := (true, "e8e711d9d3d3309a39cb84d910496a861a1adf7b9c1c7f78ce82b97639d76887"), looks := false }, kinds := [], alts := [], laidByText := true, laidKinds := [.data], laidTests := true, laidLooks := .later }
def TokenMintedUptoCardSaid : Prop := Claim7.holds Tryd.pinned (.plain (OpenSpec.upto tokenMintedSpec)) tokenMintedUptoCard

/-- THE SECOND FORM's CARD OF 'manometerlaw17.TokenOne'. -/
def tokenOneUptoCard : Claim7 := { stood := { row := tokenOneUptoRow, standIns := [], harness := (true, "e8e711d9d3d3309a39cb84d910496a861a1adf7b9c1c7f78ce82b97639d76887"), looks := false }, kinds := [], alts := [], laidByText := true, laidKinds := [.data], laidTests := true, laidLooks := .later }
def TokenOneUptoCardSaid : Prop := Claim7.holds Tryd.pinned (.plain (OpenSpec.upto tokenOneSpec)) tokenOneUptoCard

/-- THE SECOND FORM's CARD OF 'manometerlaw17.TokenTurns'. -/
def tokenTurnsUptoCard : Claim7 := { stood := { row := tokenTurnsUptoRow, standIns := [], harness := (true, "e8e711d9d3d3309a39cb84d910496a861a1adf7b9c1c7f78ce82b97639d76887"), looks := false }, kinds := [], alts := [], laidByText := true, laidKinds := [.data], laidTests := true, laidLooks := .later }
def TokenTurnsUptoCardSaid : Prop := Claim7.holds Tryd.pinned (.plain (OpenSpec.upto tokenTurnsSpec)) tokenTurnsUptoCard
end Rows
end Go.Proofs.YtkkomfomjpcbfaaDoor
