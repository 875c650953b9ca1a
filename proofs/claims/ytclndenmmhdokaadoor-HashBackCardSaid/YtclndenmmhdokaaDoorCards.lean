/-
  DERIVED. GIVEN WITH THE SEED: THE CARDS: each row of YtclndenmmhdokaaDoorRows.lean that lists a variable, with what it lists TIED to the program's text (the seventh form; the later family's looks); each row that meets fmt, with fmt's text TOLD by the authors' own Lean function (tested against real Go, not proved from fmt's source: count such statements apart). THE CARD IS WHAT COUNTS. Prove the row's statement (the work); the ties are given (YtclndenmmhdokaaDoorTie.lean); close each card by the builder's one call (the guide's Derived/Test/ToyasCard.lean, 'card_holds'). Laid BY PROGRAM, IN A SANDBOX (cutbox-door.mjs). By AI agents, Wed Nov 11 2026. No macro, syntax, notation, axiom, sorry.
-/
import Derived.Test.YtclndenmmhdokaaDoorRows
import GoSem.ClaimSeven
namespace Go.Proofs.YtclndenmmhdokaaDoor
namespace Rows

/-- THE TIED CARD OF 'manometerlaw03.HashSums'. -/
def hashSumsCard : Claim7 := { stood := { row := hashSumsRow, standIns := [], harness := (true, "a680757b3e30351b558eda14a8b647375cab550aa11a59828f85c1afc43139d6"), looks := false }, kinds := [], alts := [], laidByText := true, laidKinds := [.data], laidTests := true, laidLooks := .later }
def HashSumsCardSaid : Prop := Claim7.holds Tryd.pinned (.plain (OpenSpec.ofChange hashSumsSpec)) hashSumsCard

/-- THE TIED CARD OF 'manometerlaw03.HashFast'. -/
def hashFastCard : Claim7 := { stood := { row := hashFastRow, standIns := [], harness := (true, "a680757b3e30351b558eda14a8b647375cab550aa11a59828f85c1afc43139d6"), looks := false }, kinds := [], alts := [], laidByText := true, laidKinds := [.data], laidTests := true, laidLooks := .later }
def HashFastCardSaid : Prop := Claim7.holds Tryd.pinned (.plain (OpenSpec.ofChange hashFastSpec)) hashFastCard

/-- THE TIED CARD OF 'manometerlaw03.HashWrites'. -/
def hashWritesCard : Claim7 := { stood := { row := hashWritesRow, standIns := [], harness := (true, "a680757b3e30351b558eda14a8b647375cab550aa11a59828f85c1afc43139d6"), looks := false }, kinds := [], alts := [], laidByText := true, laidKinds := [.data], laidTests := true, laidLooks := .later }
def HashWritesCardSaid : Prop := Claim7.holds Tryd.pinned (.plain (OpenSpec.ofChange hashWritesSpec)) hashWritesCard

/-- THE TIED CARD OF 'manometerlaw03.HashNone'. -/
def hashNoneCard : Claim7 := { stood := { row := hashNoneRow, standIns := [], harness := (true, "a680757b3e30351b558eda14a8b647375cab550aa11a59828f85c1afc43139d6"), looks := false }, kinds := [], alts := [], laidByText := true, laidKinds := [.data], laidTests := true, laidLooks := .later }
def HashNoneCardSaid : Prop := Claim7.holds Tryd.pinned (.plain (OpenSpec.ofChange hashNoneSpec)) hashNoneCard

/-- THE TIED CARD OF 'manometerlaw03.HashMacs'. -/
def hashMacsCard : Claim7 := { stood := { row := hashMacsRow, standIns := [], harness := (true, "a680757b3e30351b558eda14a8b647375cab550aa11a59828f85c1afc43139d6"), looks := false }, kinds := [], alts := [], laidByText := true, laidKinds := [.data], laidTests := true, laidLooks := .later }
def HashMacsCardSaid : Prop := Claim7.holds Tryd.pinned (.plain (OpenSpec.ofChange hashMacsSpec)) hashMacsCard

/-- THE TIED CARD OF 'manometerlaw03.HashKeys'. -/
def hashKeysCard : Claim7 := { stood := { row := hashKeysRow, standIns := [], harness := (true, "a680757b3e30351b558eda14a8b647375cab550aa11a59828f85c1afc43139d6"), looks := false }, kinds := [], alts := [], laidByText := true, laidKinds := [.data], laidTests := true, laidLooks := .later }
def HashKeysCardSaid : Prop := Claim7.holds Tryd.pinned (.plain (OpenSpec.ofChange hashKeysSpec)) hashKeysCard

/-- THE TIED CARD OF 'manometerlaw03.HashCuts'. -/
def hashCutsCard : Claim7 := { stood := { row := hashCutsRow, standIns := [], harness := (true, "a680757b3e30351b558eda14a8b647375cab550aa11a59828f85c1afc43139d6"), looks := false }, kinds := [], alts := [], laidByText := true, laidKinds := [.data], laidTests := true, laidLooks := .later }
def HashCutsCardSaid : Prop := Claim7.holds Tryd.pinned (.plain (OpenSpec.ofChange hashCutsSpec)) hashCutsCard

/-- THE TIED CARD OF 'manometerlaw03.HashLetters'. -/
def hashLettersCard : Claim7 := { stood := { row := hashLettersRow, standIns := [], harness := (true, "a680757b3e30351b558eda14a8b647375cab550aa11a59828f85c1afc43139d6"), looks := false }, kinds := [], alts := [], laidByText := true, laidKinds := [.data], laidTests := true, laidLooks := .later }
def HashLettersCardSaid : Prop := Claim7.holds Tryd.pinned (.plain (OpenSpec.ofChange hashLettersSpec)) hashLettersCard

/-- THE TIED CARD OF 'manometerlaw03.HashBack'. -/
def hashBackCard : Claim7 := { stood := { row := hashBackRow, standIns := [], harness := (true, "a680757b3e30351b558eda14a8b647375cab550aa11a59828f85c1afc43139d6"), looks := false }, kinds := [], alts := [], laidByText := true, laidKinds := [.data], laidTests := true, laidLooks := .later }
def HashBackCardSaid : Prop := Claim7.holds Tryd.pinned (.plain (OpenSpec.ofChange hashBackSpec)) hashBackCard

/-- THE SECOND FORM's CARD OF 'manometerlaw03.HashSums'. -/
def hashSumsUptoCard : Claim7 := { stood := { row := hashSumsUptoRow, standIns := [], harness := (true, "a680757b3e30351b558eda14a8b647375cab550aa11a59828f85c1afc43139d6"), looks := false }, kinds := [], alts := [], laidByText := true, laidKinds := [.data], laidTests := true, laidLooks := .later }
def HashSumsUptoCardSaid : Prop := Claim7.holds Tryd.pinned (.plain (OpenSpec.upto hashSumsSpec)) hashSumsUptoCard

/-- THE SECOND FORM's CARD OF 'manometerlaw03.HashFast'. -/
def hashFastUptoCard : Claim7 := { stood := { row := hashFastUptoRow, standIns := [], harness := (true, "a680757b3e30351b558eda14a8b647375cab550aa11a59828f85c1afc43139d6"), looks := false }, kinds := [], alts := [], laidByText := true, laidKinds := [.data], laidTests := true, laidLooks := .later }
def HashFastUptoCardSaid : Prop := Claim7.holds Tryd.pinned (.plain (OpenSpec.upto hashFastSpec)) hashFastUptoCard

/-- THE SECOND FORM's CARD OF 'manometerlaw03.HashWrites'. -/
def hashWritesUptoCard : Claim7 := { stood := { row := hashWritesUptoRow, standIns := [], harness := (true, "a680757b3e30351b558eda14a8b647375cab550aa11a59828f85c1afc43139d6"), looks := false }, kinds := [], alts := [], laidByText := true, laidKinds := [.data], laidTests := true, laidLooks := .later }
def HashWritesUptoCardSaid : Prop := Claim7.holds Tryd.pinned (.plain (OpenSpec.upto hashWritesSpec)) hashWritesUptoCard

/-- THE SECOND FORM's CARD OF 'manometerlaw03.HashNone'. -/
def hashNoneUptoCard : Claim7 := { stood := { row := hashNoneUptoRow, standIns := [], harness := (true, "a680757b3e30351b558eda14a8b647375cab550aa11a59828f85c1afc43139d6"), looks := false }, kinds := [], alts := [], laidByText := true, laidKinds := [.data], laidTests := true, laidLooks := .later }
def HashNoneUptoCardSaid : Prop := Claim7.holds Tryd.pinned (.plain (OpenSpec.upto hashNoneSpec)) hashNoneUptoCard

/-- THE SECOND FORM's CARD OF 'manometerlaw03.HashMacs'. -/
def hashMacsUptoCard : Claim7 := { stood := { row := hashMacsUptoRow, standIns := [], harness := (true, "a680757b3e30351b558eda14a8b647375cab550aa11a59828f85c1afc43139d6"), looks := false }, kinds := [], alts := [], laidByText := true, laidKinds := [.data], laidTests := true, laidLooks := .later }
def HashMacsUptoCardSaid : Prop := Claim7.holds Tryd.pinned (.plain (OpenSpec.upto hashMacsSpec)) hashMacsUptoCard

/-- THE SECOND FORM's CARD OF 'manometerlaw03.HashKeys'. -/
def hashKeysUptoCard : Claim7 := { stood := { row := hashKeysUptoRow, standIns := [], harness := (true, "a680757b3e30351b558eda14a8b647375cab550aa11a59828f85c1afc43139d6"), looks := false }, kinds := [], alts := [], laidByText := true, laidKinds := [.data], laidTests := true, laidLooks := .later }
def HashKeysUptoCardSaid : Prop := Claim7.holds Tryd.pinned (.plain (OpenSpec.upto hashKeysSpec)) hashKeysUptoCard

/-- THE SECOND FORM's CARD OF 'manometerlaw03.HashCuts'. -/
def hashCutsUptoCard : Claim7 := { stood := { row := hashCutsUptoRow, standIns := [], harness := (true, "a680757b3e30351b558eda14a8b647375cab550aa11a59828f85c1afc43139d6"), looks := false }, kinds := [], alts := [], laidByText := true, laidKinds := [.data], laidTests := true, laidLooks := .later }
def HashCutsUptoCardSaid : Prop := Claim7.holds Tryd.pinned (.plain (OpenSpec.upto hashCutsSpec)) hashCutsUptoCard

/-- THE SECOND FORM's CARD OF 'manometerlaw03.HashLetters'. -/
def hashLettersUptoCard : Claim7 := { stood := { row := hashLettersUptoRow, standIns := [], harness := (true, "a680757b3e30351b558eda14a8b647375cab550aa11a59828f85c1afc43139d6"), looks := false }, kinds := [], alts := [], laidByText := true, laidKinds := [.data], laidTests := true, laidLooks := .later }
def HashLettersUptoCardSaid : Prop := Claim7.holds Tryd.pinned (.plain (OpenSpec.upto hashLettersSpec)) hashLettersUptoCard

/-- THE SECOND FORM's CARD OF 'manometerlaw03.HashBack'. -/
def hashBackUptoCard : Claim7 := { stood := { row := hashBackUptoRow, standIns := [], harness := (true, "a680757b3e30351b558eda14a8b647375cab550aa11a59828f85c1afc43139d6"), looks := false }, kinds := [], alts := [], laidByText := true, laidKinds := [.data], laidTests := true, laidLooks := .later }
def HashBackUptoCardSaid : Prop := Claim7.holds Tryd.pinned (.plain (OpenSpec.upto hashBackSpec)) hashBackUptoCard
end Rows
end Go.Proofs.YtclndenmmhdokaaDoor
