/-
  DERIVED. GIVEN WITH THE SEED: THE CARDS: each row of YtdhmabofncbohaaDoorRows.lean that lists a variable, with what it lists TIED to the program's text (the seventh form; the later family's looks); each row that meets fmt, with fmt's text TOLD by the authors' own Lean function (tested against real Go, not proved from fmt's source: count such statements apart). THE CARD IS WHAT COUNTS. Prove the row's statement (the work); the ties are given (YtdhmabofncbohaaDoorTie.lean); close each card by the builder's one call (the guide's Derived/Test/ToyasCard.lean, 'card_holds'). Laid BY PROGRAM, IN A SANDBOX (cutbox-door.mjs). By AI agents, Wed Nov 11 2026. No macro, syntax, notation, axiom, sorry.
-/
import Derived.Test.YtdhmabofncbohaaDoorRows
import GoSem.ClaimSeven
namespace Go.Proofs.YtdhmabofncbohaaDoor
namespace Rows

/-- THE TIED CARD OF 'manometerlaw05.LabelsWords'. -/
def labelsWordsCard : Claim7 := { stood := { row := labelsWordsRow, standIns := [], harness := (true, "382e5e59799c2d14ff02b747a78cc7923fc1fab614228d9496a7c9409f786f91"), looks := false }, kinds := [], alts := [], laidByText := true, laidKinds := [.data, .pinned], laidTests := true, laidLooks := .later }
def LabelsWordsCardSaid : Prop := Claim7.holds Tryd.pinned (.plain (OpenSpec.ofChange labelsWordsSpec)) labelsWordsCard

/-- THE TIED CARD OF 'manometerlaw05.LabelsQuotes'. -/
def labelsQuotesCard : Claim7 := { stood := { row := labelsQuotesRow, standIns := [], harness := (true, "382e5e59799c2d14ff02b747a78cc7923fc1fab614228d9496a7c9409f786f91"), looks := false }, kinds := [], alts := [], laidByText := true, laidKinds := [.data, .pinned], laidTests := true, laidLooks := .later }
def LabelsQuotesCardSaid : Prop := Claim7.holds Tryd.pinned (.plain (OpenSpec.ofChange labelsQuotesSpec)) labelsQuotesCard

/-- THE TIED CARD OF 'manometerlaw05.LabelsTexts'. -/
def labelsTextsCard : Claim7 := { stood := { row := labelsTextsRow, standIns := [], harness := (true, "382e5e59799c2d14ff02b747a78cc7923fc1fab614228d9496a7c9409f786f91"), looks := false }, kinds := [], alts := [], laidByText := true, laidKinds := [.data, .pinned], laidTests := true, laidLooks := .later }
def LabelsTextsCardSaid : Prop := Claim7.holds Tryd.pinned (.plain (OpenSpec.ofChange labelsTextsSpec)) labelsTextsCard

/-- THE TIED CARD OF 'manometerlaw05.LabelsOrder'. -/
def labelsOrderCard : Claim7 := { stood := { row := labelsOrderRow, standIns := [], harness := (true, "382e5e59799c2d14ff02b747a78cc7923fc1fab614228d9496a7c9409f786f91"), looks := false }, kinds := [], alts := [], laidByText := true, laidKinds := [.data, .pinned], laidTests := true, laidLooks := .later }
def LabelsOrderCardSaid : Prop := Claim7.holds Tryd.pinned (.plain (OpenSpec.ofChange labelsOrderSpec)) labelsOrderCard

/-- THE TIED CARD OF 'manometerlaw05.LabelsThree'. -/
def labelsThreeCard : Claim7 := { stood := { row := labelsThreeRow, standIns := [], harness := (true, "382e5e59799c2d14ff02b747a78cc7923fc1fab614228d9496a7c9409f786f91"), looks := false }, kinds := [], alts := [], laidByText := true, laidKinds := [.data, .pinned], laidTests := true, laidLooks := .later }
def LabelsThreeCardSaid : Prop := Claim7.holds Tryd.pinned (.plain (OpenSpec.ofChange labelsThreeSpec)) labelsThreeCard

/-- THE TIED CARD OF 'manometerlaw05.LabelsMakes'. -/
def labelsMakesCard : Claim7 := { stood := { row := labelsMakesRow, standIns := [], harness := (true, "382e5e59799c2d14ff02b747a78cc7923fc1fab614228d9496a7c9409f786f91"), looks := false }, kinds := [], alts := [], laidByText := true, laidKinds := [.data, .pinned], laidTests := true, laidLooks := .later }
def LabelsMakesCardSaid : Prop := Claim7.holds Tryd.pinned (.plain (OpenSpec.ofChange labelsMakesSpec)) labelsMakesCard

/-- THE TIED CARD OF 'manometerlaw05.LabelsTold'. -/
def labelsToldCard : Claim7 := { stood := { row := labelsToldRow, standIns := [], harness := (true, "382e5e59799c2d14ff02b747a78cc7923fc1fab614228d9496a7c9409f786f91"), looks := false }, kinds := [], alts := [], laidByText := true, laidKinds := [.data, .pinned], laidTests := true, laidLooks := .later }
def LabelsToldCardSaid : Prop := Claim7.holds Tryd.pinned (.plain (OpenSpec.ofChange labelsToldSpec)) labelsToldCard

/-- THE TIED CARD OF 'manometerlaw05.LabelsParts'. -/
def labelsPartsCard : Claim7 := { stood := { row := labelsPartsRow, standIns := [], harness := (true, "382e5e59799c2d14ff02b747a78cc7923fc1fab614228d9496a7c9409f786f91"), looks := false }, kinds := [], alts := [], laidByText := true, laidKinds := [.data, .pinned], laidTests := true, laidLooks := .later }
def LabelsPartsCardSaid : Prop := Claim7.holds Tryd.pinned (.plain (OpenSpec.ofChange labelsPartsSpec)) labelsPartsCard

/-- THE TIED CARD OF 'manometerlaw05.LabelsSplit'. -/
def labelsSplitCard : Claim7 := { stood := { row := labelsSplitRow, standIns := [], harness := (true, "382e5e59799c2d14ff02b747a78cc7923fc1fab614228d9496a7c9409f786f91"), looks := false }, kinds := [], alts := [], laidByText := true, laidKinds := [.data, .pinned], laidTests := true, laidLooks := .later }
def LabelsSplitCardSaid : Prop := Claim7.holds Tryd.pinned (.plain (OpenSpec.ofChange labelsSplitSpec)) labelsSplitCard

/-- THE TIED CARD OF 'manometerlaw05.LabelsHashes'. -/
def labelsHashesCard : Claim7 := { stood := { row := labelsHashesRow, standIns := [], harness := (true, "382e5e59799c2d14ff02b747a78cc7923fc1fab614228d9496a7c9409f786f91"), looks := false }, kinds := [], alts := [], laidByText := true, laidKinds := [.data, .pinned], laidTests := true, laidLooks := .later }
def LabelsHashesCardSaid : Prop := Claim7.holds Tryd.pinned (.plain (OpenSpec.ofChange labelsHashesSpec)) labelsHashesCard

/-- THE TIED CARD OF 'manometerlaw05.LabelsBytes'. -/
def labelsBytesCard : Claim7 := { stood := { row := labelsBytesRow, standIns := [], harness := (true, "382e5e59799c2d14ff02b747a78cc7923fc1fab614228d9496a7c9409f786f91"), looks := false }, kinds := [], alts := [], laidByText := true, laidKinds := [.data, .pinned], laidTests := true, laidLooks := .later }
def LabelsBytesCardSaid : Prop := Claim7.holds Tryd.pinned (.plain (OpenSpec.ofChange labelsBytesSpec)) labelsBytesCard

/-- THE TIED CARD OF 'manometerlaw05.LabelsBack'. -/
def labelsBackCard : Claim7 := { stood := { row := labelsBackRow, standIns := [], harness := (true, "382e5e59799c2d14ff02b747a78cc7923fc1fab614228d9496a7c9409f786f91"), looks := false }, kinds := [], alts := [], laidByText := true, laidKinds := [.data, .pinned], laidTests := true, laidLooks := .later }
def LabelsBackCardSaid : Prop := Claim7.holds Tryd.pinned (.plain (OpenSpec.ofChange labelsBackSpec)) labelsBackCard

/-- THE SECOND FORM's CARD OF 'manometerlaw05.LabelsWords'. -/
def labelsWordsUptoCard : Claim7 := { stood := { row := labelsWordsUptoRow, standIns := [], harness := (true, "382e5e59799c2d14ff02b747a78cc7923fc1fab614228d9496a7c9409f786f91"), looks := false }, kinds := [], alts := [], laidByText := true, laidKinds := [.data, .pinned], laidTests := true, laidLooks := .later }
def LabelsWordsUptoCardSaid : Prop := Claim7.holds Tryd.pinned (.plain (OpenSpec.upto labelsWordsSpec)) labelsWordsUptoCard

/-- THE SECOND FORM's CARD OF 'manometerlaw05.LabelsQuotes'. -/
def labelsQuotesUptoCard : Claim7 := { stood := { row := labelsQuotesUptoRow, standIns := [], harness := (true, "382e5e59799c2d14ff02b747a78cc7923fc1fab614228d9496a7c9409f786f91"), looks := false }, kinds := [], alts := [], laidByText := true, laidKinds := [.data, .pinned], laidTests := true, laidLooks := .later }
def LabelsQuotesUptoCardSaid : Prop := Claim7.holds Tryd.pinned (.plain (OpenSpec.upto labelsQuotesSpec)) labelsQuotesUptoCard

/-- THE SECOND FORM's CARD OF 'manometerlaw05.LabelsTexts'. -/
def labelsTextsUptoCard : Claim7 := { stood := { row := labelsTextsUptoRow, standIns := [], harness := (true, "382e5e59799c2d14ff02b747a78cc7923fc1fab614228d9496a7c9409f786f91"), looks := false }, kinds := [], alts := [], laidByText := true, laidKinds := [.data, .pinned], laidTests := true, laidLooks := .later }
def LabelsTextsUptoCardSaid : Prop := Claim7.holds Tryd.pinned (.plain (OpenSpec.upto labelsTextsSpec)) labelsTextsUptoCard

/-- THE SECOND FORM's CARD OF 'manometerlaw05.LabelsOrder'. -/
def labelsOrderUptoCard : Claim7 := { stood := { row := labelsOrderUptoRow, standIns := [], harness := (true, "382e5e59799c2d14ff02b747a78cc7923fc1fab614228d9496a7c9409f786f91"), looks := false }, kinds := [], alts := [], laidByText := true, laidKinds := [.data, .pinned], laidTests := true, laidLooks := .later }
def LabelsOrderUptoCardSaid : Prop := Claim7.holds Tryd.pinned (.plain (OpenSpec.upto labelsOrderSpec)) labelsOrderUptoCard

/-- THE SECOND FORM's CARD OF 'manometerlaw05.LabelsThree'. -/
def labelsThreeUptoCard : Claim7 := { stood := { row := labelsThreeUptoRow, standIns := [], harness := (true, "382e5e59799c2d14ff02b747a78cc7923fc1fab614228d9496a7c9409f786f91"), looks := false }, kinds := [], alts := [], laidByText := true, laidKinds := [.data, .pinned], laidTests := true, laidLooks := .later }
def LabelsThreeUptoCardSaid : Prop := Claim7.holds Tryd.pinned (.plain (OpenSpec.upto labelsThreeSpec)) labelsThreeUptoCard

/-- THE SECOND FORM's CARD OF 'manometerlaw05.LabelsMakes'. -/
def labelsMakesUptoCard : Claim7 := { stood := { row := labelsMakesUptoRow, standIns := [], harness := (true, "382e5e59799c2d14ff02b747a78cc7923fc1fab614228d9496a7c9409f786f91"), looks := false }, kinds := [], alts := [], laidByText := true, laidKinds := [.data, .pinned], laidTests := true, laidLooks := .later }
def LabelsMakesUptoCardSaid : Prop := Claim7.holds Tryd.pinned (.plain (OpenSpec.upto labelsMakesSpec)) labelsMakesUptoCard

/-- THE SECOND FORM's CARD OF 'manometerlaw05.LabelsTold'. -/
def labelsToldUptoCard : Claim7 := { stood := { row := labelsToldUptoRow, standIns := [], harness := (true, "382e5e59799c2d14ff02b747a78cc7923fc1fab614228d9496a7c9409f786f91"), looks := false }, kinds := [], alts := [], laidByText := true, laidKinds := [.data, .pinned], laidTests := true, laidLooks := .later }
def LabelsToldUptoCardSaid : Prop := Claim7.holds Tryd.pinned (.plain (OpenSpec.upto labelsToldSpec)) labelsToldUptoCard

/-- THE SECOND FORM's CARD OF 'manometerlaw05.LabelsParts'. -/
def labelsPartsUptoCard : Claim7 := { stood := { row := labelsPartsUptoRow, standIns := [], harness := (true, "382e5e59799c2d14ff02b747a78cc7923fc1fab614228d9496a7c9409f786f91"), looks := false }, kinds := [], alts := [], laidByText := true, laidKinds := [.data, .pinned], laidTests := true, laidLooks := .later }
def LabelsPartsUptoCardSaid : Prop := Claim7.holds Tryd.pinned (.plain (OpenSpec.upto labelsPartsSpec)) labelsPartsUptoCard

/-- THE SECOND FORM's CARD OF 'manometerlaw05.LabelsSplit'. -/
def labelsSplitUptoCard : Claim7 := { stood := { row := labelsSplitUptoRow, standIns := [], harness := (true, "382e5e59799c2d14ff02b747a78cc7923fc1fab614228d9496a7c9409f786f91"), looks := false }, kinds := [], alts := [], laidByText := true, laidKinds := [.data, .pinned], laidTests := true, laidLooks := .later }
def LabelsSplitUptoCardSaid : Prop := Claim7.holds Tryd.pinned (.plain (OpenSpec.upto labelsSplitSpec)) labelsSplitUptoCard

/-- THE SECOND FORM's CARD OF 'manometerlaw05.LabelsHashes'. -/
def labelsHashesUptoCard : Claim7 := { stood := { row := labelsHashesUptoRow, standIns := [], harness := (true, "382e5e59799c2d14ff02b747a78cc7923fc1fab614228d9496a7c9409f786f91"), looks := false }, kinds := [], alts := [], laidByText := true, laidKinds := [.data, .pinned], laidTests := true, laidLooks := .later }
def LabelsHashesUptoCardSaid : Prop := Claim7.holds Tryd.pinned (.plain (OpenSpec.upto labelsHashesSpec)) labelsHashesUptoCard

/-- THE SECOND FORM's CARD OF 'manometerlaw05.LabelsBytes'. -/
def labelsBytesUptoCard : Claim7 := { stood := { row := labelsBytesUptoRow, standIns := [], harness := (true, "382e5e59799c2d14ff02b747a78cc7923fc1fab614228d9496a7c9409f786f91"), looks := false }, kinds := [], alts := [], laidByText := true, laidKinds := [.data, .pinned], laidTests := true, laidLooks := .later }
def LabelsBytesUptoCardSaid : Prop := Claim7.holds Tryd.pinned (.plain (OpenSpec.upto labelsBytesSpec)) labelsBytesUptoCard

/-- THE SECOND FORM's CARD OF 'manometerlaw05.LabelsBack'. -/
def labelsBackUptoCard : Claim7 := { stood := { row := labelsBackUptoRow, standIns := [], harness := (true, "382e5e59799c2d14ff02b747a78cc7923fc1fab614228d9496a7c9409f786f91"), looks := false }, kinds := [], alts := [], laidByText := true, laidKinds := [.data, .pinned], laidTests := true, laidLooks := .later }
def LabelsBackUptoCardSaid : Prop := Claim7.holds Tryd.pinned (.plain (OpenSpec.upto labelsBackSpec)) labelsBackUptoCard
end Rows
end Go.Proofs.YtdhmabofncbohaaDoor
