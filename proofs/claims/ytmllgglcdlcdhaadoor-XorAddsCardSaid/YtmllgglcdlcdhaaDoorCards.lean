/-
  DERIVED. GIVEN WITH THE SEED: THE CARDS: each row of YtmllgglcdlcdhaaDoorRows.lean that lists a variable, with what it lists TIED to the program's text (the seventh form; the later family's looks); each row that meets fmt, with fmt's text TOLD by the authors' own Lean function (tested against real Go, not proved from fmt's source: count such statements apart). THE CARD IS WHAT COUNTS. Prove the row's statement (the work); the ties are given (YtmllgglcdlcdhaaDoorTie.lean); close each card by the builder's one call (the guide's Derived/Test/ToyasCard.lean, 'card_holds'). Laid BY PROGRAM, IN A SANDBOX (cutbox-door.mjs). By AI agents, Wed Nov 11 2026. No macro, syntax, notation, axiom, sorry.
-/
import Derived.Test.YtmllgglcdlcdhaaDoorRows
import GoSem.ClaimSeven
namespace Go.Proofs.YtmllgglcdlcdhaaDoor
namespace Rows

/-- THE TIED CARD OF 'manometerlaw08.XorPuts'. -/
def xorPutsCard : Claim7 := { stood := { row := xorPutsRow, standIns := [], harness := (true, "19107791a152779d915041d0a182e4d877bbd5b954919e682759441f99adc8c4"), looks := false }, kinds := [], alts := [], laidByText := true, laidKinds := [.data], laidTests := true, laidLooks := .later }
def XorPutsCardSaid : Prop := Claim7.holds Tryd.pinned (.plain (OpenSpec.ofChange xorPutsSpec)) xorPutsCard

/-- THE TIED CARD OF 'manometerlaw08.XorGets'. -/
def xorGetsCard : Claim7 := { stood := { row := xorGetsRow, standIns := [], harness := (true, "19107791a152779d915041d0a182e4d877bbd5b954919e682759441f99adc8c4"), looks := false }, kinds := [], alts := [], laidByText := true, laidKinds := [.data], laidTests := true, laidLooks := .later }
def XorGetsCardSaid : Prop := Claim7.holds Tryd.pinned (.plain (OpenSpec.ofChange xorGetsSpec)) xorGetsCard

/-- THE TIED CARD OF 'manometerlaw08.XorBack'. -/
def xorBackCard : Claim7 := { stood := { row := xorBackRow, standIns := [], harness := (true, "19107791a152779d915041d0a182e4d877bbd5b954919e682759441f99adc8c4"), looks := false }, kinds := [], alts := [], laidByText := true, laidKinds := [.data], laidTests := true, laidLooks := .later }
def XorBackCardSaid : Prop := Claim7.holds Tryd.pinned (.plain (OpenSpec.ofChange xorBackSpec)) xorBackCard

/-- THE TIED CARD OF 'manometerlaw08.XorCut'. -/
def xorCutCard : Claim7 := { stood := { row := xorCutRow, standIns := [], harness := (true, "19107791a152779d915041d0a182e4d877bbd5b954919e682759441f99adc8c4"), looks := false }, kinds := [], alts := [], laidByText := true, laidKinds := [.data], laidTests := true, laidLooks := .later }
def XorCutCardSaid : Prop := Claim7.holds Tryd.pinned (.plain (OpenSpec.ofChange xorCutSpec)) xorCutCard

/-- THE TIED CARD OF 'manometerlaw08.XorFew'. -/
def xorFewCard : Claim7 := { stood := { row := xorFewRow, standIns := [], harness := (true, "19107791a152779d915041d0a182e4d877bbd5b954919e682759441f99adc8c4"), looks := false }, kinds := [], alts := [], laidByText := true, laidKinds := [.data], laidTests := true, laidLooks := .later }
def XorFewCardSaid : Prop := Claim7.holds Tryd.pinned (.plain (OpenSpec.ofChange xorFewSpec)) xorFewCard

/-- THE TIED CARD OF 'manometerlaw08.XorLoads'. -/
def xorLoadsCard : Claim7 := { stood := { row := xorLoadsRow, standIns := [], harness := (true, "19107791a152779d915041d0a182e4d877bbd5b954919e682759441f99adc8c4"), looks := false }, kinds := [], alts := [], laidByText := true, laidKinds := [.data], laidTests := true, laidLooks := .later }
def XorLoadsCardSaid : Prop := Claim7.holds Tryd.pinned (.plain (OpenSpec.ofChange xorLoadsSpec)) xorLoadsCard

/-- THE TIED CARD OF 'manometerlaw08.XorAdds'. -/
def xorAddsCard : Claim7 := { stood := { row := xorAddsRow, standIns := [], harness := (true, "19107791a152779d915041d0a182e4d877bbd5b954919e682759441f99adc8c4"), looks := false }, kinds := [], alts := [], laidByText := true, laidKinds := [.data], laidTests := true, laidLooks := .later }
def XorAddsCardSaid : Prop := Claim7.holds Tryd.pinned (.plain (OpenSpec.ofChange xorAddsSpec)) xorAddsCard

/-- THE TIED CARD OF 'manometerlaw08.XorNone'. -/
def xorNoneCard : Claim7 := { stood := { row := xorNoneRow, standIns := [], harness := (true, "19107791a152779d915041d0a182e4d877bbd5b954919e682759441f99adc8c4"), looks := false }, kinds := [], alts := [], laidByText := true, laidKinds := [.data], laidTests := true, laidLooks := .later }
def XorNoneCardSaid : Prop := Claim7.holds Tryd.pinned (.plain (OpenSpec.ofChange xorNoneSpec)) xorNoneCard

/-- THE SECOND FORM's CARD OF 'manometerlaw08.XorPuts'. -/
def xorPutsUptoCard : Claim7 := { stood := { row := xorPutsUptoRow, standIns := [], harness := (true, "19107791a152779d915041d0a182e4d877bbd5b954919e682759441f99adc8c4"), looks := false }, kinds := [], alts := [], laidByText := true, laidKinds := [.data], laidTests := true, laidLooks := .later }
def XorPutsUptoCardSaid : Prop := Claim7.holds Tryd.pinned (.plain (OpenSpec.upto xorPutsSpec)) xorPutsUptoCard

/-- THE SECOND FORM's CARD OF 'manometerlaw08.XorGets'. -/
def xorGetsUptoCard : Claim7 := { stood := { row := xorGetsUptoRow, standIns := [], harness := (true, "19107791a152779d915041d0a182e4d877bbd5b954919e682759441f99adc8c4"), looks := false }, kinds := [], alts := [], laidByText := true, laidKinds := [.data], laidTests := true, laidLooks := .later }
def XorGetsUptoCardSaid : Prop := Claim7.holds Tryd.pinned (.plain (OpenSpec.upto xorGetsSpec)) xorGetsUptoCard

/-- THE SECOND FORM's CARD OF 'manometerlaw08.XorBack'. -/
def xorBackUptoCard : Claim7 := { stood := { row := xorBackUptoRow, standIns := [], harness := (true, "19107791a152779d915041d0a182e4d877bbd5b954919e682759441f99adc8c4"), looks := false }, kinds := [], alts := [], laidByText := true, laidKinds := [.data], laidTests := true, laidLooks := .later }
def XorBackUptoCardSaid : Prop := Claim7.holds Tryd.pinned (.plain (OpenSpec.upto xorBackSpec)) xorBackUptoCard

/-- THE SECOND FORM's CARD OF 'manometerlaw08.XorCut'. -/
def xorCutUptoCard : Claim7 := { stood := { row := xorCutUptoRow, standIns := [], harness := (true, "19107791a152779d915041d0a182e4d877bbd5b954919e682759441f99adc8c4"), looks := false }, kinds := [], alts := [], laidByText := true, laidKinds := [.data], laidTests := true, laidLooks := .later }
def XorCutUptoCardSaid : Prop := Claim7.holds Tryd.pinned (.plain (OpenSpec.upto xorCutSpec)) xorCutUptoCard

/-- THE SECOND FORM's CARD OF 'manometerlaw08.XorFew'. -/
def xorFewUptoCard : Claim7 := { stood := { row := xorFewUptoRow, standIns := [], harness := (true, "19107791a152779d915041d0a182e4d877bbd5b954919e682759441f99adc8c4"), looks := false }, kinds := [], alts := [], laidByText := true, laidKinds := [.data], laidTests := true, laidLooks := .later }
def XorFewUptoCardSaid : Prop := Claim7.holds Tryd.pinned (.plain (OpenSpec.upto xorFewSpec)) xorFewUptoCard

/-- THE SECOND FORM's CARD OF 'manometerlaw08.XorLoads'. -/
def xorLoadsUptoCard : Claim7 := { stood := { row := xorLoadsUptoRow, standIns := [], harness := (true, "19107791a152779d915041d0a182e4d877bbd5b954919e682759441f99adc8c4"), looks := false }, kinds := [], alts := [], laidByText := true, laidKinds := [.data], laidTests := true, laidLooks := .later }
def XorLoadsUptoCardSaid : Prop := Claim7.holds Tryd.pinned (.plain (OpenSpec.upto xorLoadsSpec)) xorLoadsUptoCard

/-- THE SECOND FORM's CARD OF 'manometerlaw08.XorAdds'. -/
def xorAddsUptoCard : Claim7 := { stood := { row := xorAddsUptoRow, standIns := [], harness := (true, "19107791a152779d915041d0a182e4d877bbd5b954919e682759441f99adc8c4"), looks := false }, kinds := [], alts := [], laidByText := true, laidKinds := [.data], laidTests := true, laidLooks := .later }
def XorAddsUptoCardSaid : Prop := Claim7.holds Tryd.pinned (.plain (OpenSpec.upto xorAddsSpec)) xorAddsUptoCard

/-- THE SECOND FORM's CARD OF 'manometerlaw08.XorNone'. -/
def xorNoneUptoCard : Claim7 := { stood := { row := xorNoneUptoRow, standIns := [], harness := (true, "19107791a152779d915041d0a182e4d877bbd5b954919e682759441f99adc8c4"), looks := false }, kinds := [], alts := [], laidByText := true, laidKinds := [.data], laidTests := true, laidLooks := .later }
def XorNoneUptoCardSaid : Prop := Claim7.holds Tryd.pinned (.plain (OpenSpec.upto xorNoneSpec)) xorNoneUptoCard
end Rows
end Go.Proofs.YtmllgglcdlcdhaaDoor
