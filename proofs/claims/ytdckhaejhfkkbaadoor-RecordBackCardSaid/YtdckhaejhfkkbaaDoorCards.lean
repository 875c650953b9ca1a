/-
  DERIVED. GIVEN WITH THE SEED: THE CARDS: each row of YtdckhaejhfkkbaaDoorRows.lean that lists a variable, with what it lists TIED to the program's text (the seventh form; the later family's looks); each row that meets fmt, with fmt's text TOLD by the authors' own Lean function (tested against real Go, not proved from fmt's source: count such statements apart). THE CARD IS WHAT COUNTS. Prove the row's statement (the work); the ties are given (YtdckhaejhfkkbaaDoorTie.lean); close each card by the builder's one call (the guide's Derived/Test/ToyasCard.lean, 'card_holds'). Laid BY PROGRAM, IN A SANDBOX (cutbox-door.mjs). By AI agents, Wed Nov 11 2026. No macro, syntax, notation, axiom, sorry.
-/
import Derived.Test.YtdckhaejhfkkbaaDoorRows
import GoSem.ClaimSeven
namespace Go.Proofs.YtdckhaejhfkkbaaDoor
namespace Rows

/-- THE TIED CARD OF 'manometerlaw13.RecordTakes'. -/
def recordTakesCard : Claim7 := { stood := { row := recordTakesRow, standIns := [], harness := (true, "c852d48a1211bfb985d7cc4751ef4b8564a332a8cc1bb16df13d9ae464ee2da7"), looks := false }, kinds := [], alts := [], laidByText := true, laidKinds := [.data, .pinned], laidTests := true, laidLooks := .later }
def RecordTakesCardSaid : Prop := Claim7.holds Tryd.pinned (.plain (OpenSpec.ofChange recordTakesSpec)) recordTakesCard

/-- THE TIED CARD OF 'manometerlaw13.RecordPuts'. -/
def recordPutsCard : Claim7 := { stood := { row := recordPutsRow, standIns := [], harness := (true, "c852d48a1211bfb985d7cc4751ef4b8564a332a8cc1bb16df13d9ae464ee2da7"), looks := false }, kinds := [], alts := [], laidByText := true, laidKinds := [.data, .pinned], laidTests := true, laidLooks := .later }
def RecordPutsCardSaid : Prop := Claim7.holds Tryd.pinned (.plain (OpenSpec.ofChange recordPutsSpec)) recordPutsCard

/-- THE TIED CARD OF 'manometerlaw13.RecordNear'. -/
def recordNearCard : Claim7 := { stood := { row := recordNearRow, standIns := [], harness := (true, "c852d48a1211bfb985d7cc4751ef4b8564a332a8cc1bb16df13d9ae464ee2da7"), looks := false }, kinds := [], alts := [], laidByText := true, laidKinds := [.data, .pinned], laidTests := true, laidLooks := .later }
def RecordNearCardSaid : Prop := Claim7.holds Tryd.pinned (.plain (OpenSpec.ofChange recordNearSpec)) recordNearCard

/-- THE TIED CARD OF 'manometerlaw13.RecordSames'. -/
def recordSamesCard : Claim7 := { stood := { row := recordSamesRow, standIns := [], harness := (true, "c852d48a1211bfb985d7cc4751ef4b8564a332a8cc1bb16df13d9ae464ee2da7"), looks := false }, kinds := [], alts := [], laidByText := true, laidKinds := [.data, .pinned], laidTests := true, laidLooks := .later }
def RecordSamesCardSaid : Prop := Claim7.holds Tryd.pinned (.plain (OpenSpec.ofChange recordSamesSpec)) recordSamesCard

/-- THE TIED CARD OF 'manometerlaw13.RecordBack'. -/
def recordBackCard : Claim7 := { stood := { row := recordBackRow, standIns := [], harness := (true, "c852d48a1211bfb985d7cc4751ef4b8564a332a8cc1bb16df13d9ae464ee2da7"), looks := false }, kinds := [], alts := [], laidByText := true, laidKinds := [.data, .pinned], laidTests := true, laidLooks := .later }
def RecordBackCardSaid : Prop := Claim7.holds Tryd.pinned (.plain (OpenSpec.ofChange recordBackSpec)) recordBackCard

/-- THE SECOND FORM's CARD OF 'manometerlaw13.RecordTakes'. -/
def recordTakesUptoCard : Claim7 := { stood := { row := recordTakesUptoRow, standIns := [], harness := (true, "c852d48a1211bfb985d7cc4751ef4b8564a332a8cc1bb16df13d9ae464ee2da7"), looks := false }, kinds := [], alts := [], laidByText := true, laidKinds := [.data, .pinned], laidTests := true, laidLooks := .later }
def RecordTakesUptoCardSaid : Prop := Claim7.holds Tryd.pinned (.plain (OpenSpec.upto recordTakesSpec)) recordTakesUptoCard

/-- THE SECOND FORM's CARD OF 'manometerlaw13.RecordPuts'. -/
def recordPutsUptoCard : Claim7 := { stood := { row := recordPutsUptoRow, standIns := [], harness := (true, "c852d48a1211bfb985d7cc4751ef4b8564a332a8cc1bb16df13d9ae464ee2da7"), looks := false }, kinds := [], alts := [], laidByText := true, laidKinds := [.data, .pinned], laidTests := true, laidLooks := .later }
def RecordPutsUptoCardSaid : Prop := Claim7.holds Tryd.pinned (.plain (OpenSpec.upto recordPutsSpec)) recordPutsUptoCard

/-- THE SECOND FORM's CARD OF 'manometerlaw13.RecordNear'. -/
def recordNearUptoCard : Claim7 := { stood := { row := recordNearUptoRow, standIns := [], harness := (true, "c852d48a1211bfb985d7cc4751ef4b8564a332a8cc1bb16df13d9ae464ee2da7"), looks := false }, kinds := [], alts := [], laidByText := true, laidKinds := [.data, .pinned], laidTests := true, laidLooks := .later }
def RecordNearUptoCardSaid : Prop := Claim7.holds Tryd.pinned (.plain (OpenSpec.upto recordNearSpec)) recordNearUptoCard

/-- THE SECOND FORM's CARD OF 'manometerlaw13.RecordSames'. -/
def recordSamesUptoCard : Claim7 := { stood := { row := recordSamesUptoRow, standIns := [], harness := (true, "c852d48a1211bfb985d7cc4751ef4b8564a332a8cc1bb16df13d9ae464ee2da7"), looks := false }, kinds := [], alts := [], laidByText := true, laidKinds := [.data, .pinned], laidTests := true, laidLooks := .later }
def RecordSamesUptoCardSaid : Prop := Claim7.holds Tryd.pinned (.plain (OpenSpec.upto recordSamesSpec)) recordSamesUptoCard

/-- THE SECOND FORM's CARD OF 'manometerlaw13.RecordBack'. -/
def recordBackUptoCard : Claim7 := { stood := { row := recordBackUptoRow, standIns := [], harness := (true, "c852d48a1211bfb985d7cc4751ef4b8564a332a8cc1bb16df13d9ae464ee2da7"), looks := false }, kinds := [], alts := [], laidByText := true, laidKinds := [.data, .pinned], laidTests := true, laidLooks := .later }
def RecordBackUptoCardSaid : Prop := Claim7.holds Tryd.pinned (.plain (OpenSpec.upto recordBackSpec)) recordBackUptoCard
end Rows
end Go.Proofs.YtdckhaejhfkkbaaDoor
