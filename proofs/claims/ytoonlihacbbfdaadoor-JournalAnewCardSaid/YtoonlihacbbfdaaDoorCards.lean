/-
  DERIVED. GIVEN WITH THE SEED: THE CARDS: each row of YtoonlihacbbfdaaDoorRows.lean that lists a variable, with what it lists TIED to the program's text (the seventh form; the later family's looks); each row that meets fmt, with fmt's text TOLD by the authors' own Lean function (tested against real Go, not proved from fmt's source: count such statements apart). THE CARD IS WHAT COUNTS. Prove the row's statement (the work); the ties are given (YtoonlihacbbfdaaDoorTie.lean); close each card by the builder's one call (the guide's Derived/Test/ToyasCard.lean, 'card_holds'). Laid BY PROGRAM, IN A SANDBOX (cutbox-door.mjs). By AI agents, Wed Nov 11 2026. No macro, syntax, notation, axiom, sorry.
-/
import Derived.Test.YtoonlihacbbfdaaDoorRows
import GoSem.ClaimSeven
namespace Go.Proofs.YtoonlihacbbfdaaDoor
namespace Rows

/-- THE TIED CARD OF 'usancelaw06.JournalOrders'. -/
def journalOrdersCard : Claim7 := { stood := { row := journalOrdersRow, standIns := [], harness := (true, "c2198dddebe1969f645f37f43b395015b3036f5f5e9b8d007809096779ad88ab"), looks := false }, kinds := [], alts := [], laidByText := true, laidKinds := [.data], laidTests := true, laidLooks := .later }
def JournalOrdersCardSaid : Prop := Claim7.holds Tryd.pinned (.plain (OpenSpec.ofChange journalOrdersSpec)) journalOrdersCard

/-- THE TIED CARD OF 'usancelaw06.JournalRefuses'. -/
def journalRefusesCard : Claim7 := { stood := { row := journalRefusesRow, standIns := [], harness := (true, "c2198dddebe1969f645f37f43b395015b3036f5f5e9b8d007809096779ad88ab"), looks := false }, kinds := [], alts := [], laidByText := true, laidKinds := [.data], laidTests := true, laidLooks := .later }
def JournalRefusesCardSaid : Prop := Claim7.holds Tryd.pinned (.plain (OpenSpec.ofChange journalRefusesSpec)) journalRefusesCard

/-- THE TIED CARD OF 'usancelaw06.JournalTells'. -/
def journalTellsCard : Claim7 := { stood := { row := journalTellsRow, standIns := [], harness := (true, "c2198dddebe1969f645f37f43b395015b3036f5f5e9b8d007809096779ad88ab"), looks := false }, kinds := [], alts := [], laidByText := true, laidKinds := [.data], laidTests := true, laidLooks := .later }
def JournalTellsCardSaid : Prop := Claim7.holds Tryd.pinned (.plain (OpenSpec.ofChange journalTellsSpec)) journalTellsCard

/-- THE TIED CARD OF 'usancelaw06.JournalLasts'. -/
def journalLastsCard : Claim7 := { stood := { row := journalLastsRow, standIns := [], harness := (true, "c2198dddebe1969f645f37f43b395015b3036f5f5e9b8d007809096779ad88ab"), looks := false }, kinds := [], alts := [], laidByText := true, laidKinds := [.data], laidTests := true, laidLooks := .later }
def JournalLastsCardSaid : Prop := Claim7.holds Tryd.pinned (.plain (OpenSpec.ofChange journalLastsSpec)) journalLastsCard

/-- THE TIED CARD OF 'usancelaw06.JournalAnew'. -/
def journalAnewCard : Claim7 := { stood := { row := journalAnewRow, standIns := [], harness := (true, "c2198dddebe1969f645f37f43b395015b3036f5f5e9b8d007809096779ad88ab"), looks := false }, kinds := [], alts := [], laidByText := true, laidKinds := [.data], laidTests := true, laidLooks := .later }
def JournalAnewCardSaid : Prop := Claim7.holds Tryd.pinned (.plain (OpenSpec.ofChange journalAnewSpec)) journalAnewCard

/-- THE SECOND FORM's CARD OF 'usancelaw06.JournalOrders'. -/
def journalOrdersUptoCard : Claim7 := { stood := { row := journalOrdersUptoRow, standIns := [], harness := (true, "c2198dddebe1969f645f37f43b395015b3036f5f5e9b8d007809096779ad88ab"), looks := false }, kinds := [], alts := [], laidByText := true, laidKinds := [.data], laidTests := true, laidLooks := .later }
def JournalOrdersUptoCardSaid : Prop := Claim7.holds Tryd.pinned (.plain (OpenSpec.upto journalOrdersSpec)) journalOrdersUptoCard

/-- THE SECOND FORM's CARD OF 'usancelaw06.JournalRefuses'. -/
def journalRefusesUptoCard : Claim7 := { stood := { row := journalRefusesUptoRow, standIns := [], harness := (true, "c2198dddebe1969f645f37f43b395015b3036f5f5e9b8d007809096779ad88ab"), looks := false }, kinds := [], alts := [], laidByText := true, laidKinds := [.data], laidTests := true, laidLooks := .later }
def JournalRefusesUptoCardSaid : Prop := Claim7.holds Tryd.pinned (.plain (OpenSpec.upto journalRefusesSpec)) journalRefusesUptoCard

/-- THE SECOND FORM's CARD OF 'usancelaw06.JournalTells'. -/
def journalTellsUptoCard : Claim7 := { stood := { row := journalTellsUptoRow, standIns := [], harness := (true, "c2198dddebe1969f645f37f43b395015b3036f5f5e9b8d007809096779ad88ab"), looks := false }, kinds := [], alts := [], laidByText := true, laidKinds := [.data], laidTests := true, laidLooks := .later }
def JournalTellsUptoCardSaid : Prop := Claim7.holds Tryd.pinned (.plain (OpenSpec.upto journalTellsSpec)) journalTellsUptoCard

/-- THE SECOND FORM's CARD OF 'usancelaw06.JournalLasts'. -/
def journalLastsUptoCard : Claim7 := { stood := { row := journalLastsUptoRow, standIns := [], harness := (true, "c2198dddebe1969f645f37f43b395015b3036f5f5e9b8d007809096779ad88ab"), looks := false }, kinds := [], alts := [], laidByText := true, laidKinds := [.data], laidTests := true, laidLooks := .later }
def JournalLastsUptoCardSaid : Prop := Claim7.holds Tryd.pinned (.plain (OpenSpec.upto journalLastsSpec)) journalLastsUptoCard

/-- THE SECOND FORM's CARD OF 'usancelaw06.JournalAnew'. -/
def journalAnewUptoCard : Claim7 := { stood := { row := journalAnewUptoRow, standIns := [], harness := (true, "c2198dddebe1969f645f37f43b395015b3036f5f5e9b8d007809096779ad88ab"), looks := false }, kinds := [], alts := [], laidByText := true, laidKinds := [.data], laidTests := true, laidLooks := .later }
def JournalAnewUptoCardSaid : Prop := Claim7.holds Tryd.pinned (.plain (OpenSpec.upto journalAnewSpec)) journalAnewUptoCard
end Rows
end Go.Proofs.YtoonlihacbbfdaaDoor
