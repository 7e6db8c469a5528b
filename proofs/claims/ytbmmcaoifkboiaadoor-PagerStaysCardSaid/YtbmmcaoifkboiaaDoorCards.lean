/-
  DERIVED. GIVEN WITH THE SEED: THE CARDS: each row of YtbmmcaoifkboiaaDoorRows.lean that lists a variable, with what it lists TIED to the program's text (the seventh form; the later family's looks); each row that meets fmt, with fmt's text TOLD by the authors' own Lean function (tested against real Go, not proved from fmt's source: count such statements apart). THE CARD IS WHAT COUNTS. Prove the row's statement (the work); the ties are given (YtbmmcaoifkboiaaDoorTie.lean); close each card by the builder's one call (the guide's Derived/Test/ToyasCard.lean, 'card_holds'). Laid BY PROGRAM, IN A SANDBOX (cutbox-door.mjs). By AI agents, Wed Nov 11 2026. No macro, syntax, notation, axiom, sorry.
-/
import Derived.Test.YtbmmcaoifkboiaaDoorRows
import GoSem.ClaimSeven
namespace Go.Proofs.YtbmmcaoifkboiaaDoor
namespace Rows

/-- THE TIED CARD OF 'usancelaw08.PagerOnce'. -/
def pagerOnceCard : Claim7 := { stood := { row := pagerOnceRow, standIns := [], harness := (true, "e5a9d7f5e9baadcd0dc4bbbebd7c4784649715ebee4e7476114e29e172ea35e1"), looks := false }, kinds := [], alts := [], laidByText := true, laidKinds := [.data], laidTests := true, laidLooks := .later }
def PagerOnceCardSaid : Prop := Claim7.holds Tryd.pinned (.plain (OpenSpec.ofChange pagerOnceSpec)) pagerOnceCard

/-- THE TIED CARD OF 'usancelaw08.PagerGives'. -/
def pagerGivesCard : Claim7 := { stood := { row := pagerGivesRow, standIns := [], harness := (true, "e5a9d7f5e9baadcd0dc4bbbebd7c4784649715ebee4e7476114e29e172ea35e1"), looks := false }, kinds := [], alts := [], laidByText := true, laidKinds := [.data], laidTests := true, laidLooks := .later }
def PagerGivesCardSaid : Prop := Claim7.holds Tryd.pinned (.plain (OpenSpec.ofChange pagerGivesSpec)) pagerGivesCard

/-- THE TIED CARD OF 'usancelaw08.PagerPlays'. -/
def pagerPlaysCard : Claim7 := { stood := { row := pagerPlaysRow, standIns := [], harness := (true, "e5a9d7f5e9baadcd0dc4bbbebd7c4784649715ebee4e7476114e29e172ea35e1"), looks := false }, kinds := [], alts := [], laidByText := true, laidKinds := [.data], laidTests := true, laidLooks := .later }
def PagerPlaysCardSaid : Prop := Claim7.holds Tryd.pinned (.plain (OpenSpec.ofChange pagerPlaysSpec)) pagerPlaysCard

/-- THE TIED CARD OF 'usancelaw08.PagerAnew'. -/
def pagerAnewCard : Claim7 := { stood := { row := pagerAnewRow, standIns := [], harness := (true, "e5a9d7f5e9baadcd0dc4bbbebd7c4784649715ebee4e7476114e29e172ea35e1"), looks := false }, kinds := [], alts := [], laidByText := true, laidKinds := [.data], laidTests := true, laidLooks := .later }
def PagerAnewCardSaid : Prop := Claim7.holds Tryd.pinned (.plain (OpenSpec.ofChange pagerAnewSpec)) pagerAnewCard

/-- THE TIED CARD OF 'usancelaw08.PagerStays'. -/
def pagerStaysCard : Claim7 := { stood := { row := pagerStaysRow, standIns := [], harness := (true, "e5a9d7f5e9baadcd0dc4bbbebd7c4784649715ebee4e7476114e29e172ea35e1"), looks := false }, kinds := [], alts := [], laidByText := true, laidKinds := [.data], laidTests := true, laidLooks := .later }
def PagerStaysCardSaid : Prop := Claim7.holds Tryd.pinned (.plain (OpenSpec.ofChange pagerStaysSpec)) pagerStaysCard

/-- THE SECOND FORM's CARD OF 'usancelaw08.PagerOnce'. -/
def pagerOnceUptoCard : Claim7 := { stood := { row := pagerOnceUptoRow, standIns := [], harness := (true, "e5a9d7f5e9baadcd0dc4bbbebd7c4784649715ebee4e7476114e29e172ea35e1"), looks := false }, kinds := [], alts := [], laidByText := true, laidKinds := [.data], laidTests := true, laidLooks := .later }
def PagerOnceUptoCardSaid : Prop := Claim7.holds Tryd.pinned (.plain (OpenSpec.upto pagerOnceSpec)) pagerOnceUptoCard

/-- THE SECOND FORM's CARD OF 'usancelaw08.PagerGives'. -/
def pagerGivesUptoCard : Claim7 := { stood := { row := pagerGivesUptoRow, standIns := [], harness := (true, "e5a9d7f5e9baadcd0dc4bbbebd7c4784649715ebee4e7476114e29e172ea35e1"), looks := false }, kinds := [], alts := [], laidByText := true, laidKinds := [.data], laidTests := true, laidLooks := .later }
def PagerGivesUptoCardSaid : Prop := Claim7.holds Tryd.pinned (.plain (OpenSpec.upto pagerGivesSpec)) pagerGivesUptoCard

/-- THE SECOND FORM's CARD OF 'usancelaw08.PagerPlays'. -/
def pagerPlaysUptoCard : Claim7 := { stood := { row := pagerPlaysUptoRow, standIns := [], harness := (true, "e5a9d7f5e9baadcd0dc4bbbebd7c4784649715ebee4e7476114e29e172ea35e1"), looks := false }, kinds := [], alts := [], laidByText := true, laidKinds := [.data], laidTests := true, laidLooks := .later }
def PagerPlaysUptoCardSaid : Prop := Claim7.holds Tryd.pinned (.plain (OpenSpec.upto pagerPlaysSpec)) pagerPlaysUptoCard

/-- THE SECOND FORM's CARD OF 'usancelaw08.PagerAnew'. -/
def pagerAnewUptoCard : Claim7 := { stood := { row := pagerAnewUptoRow, standIns := [], harness := (true, "e5a9d7f5e9baadcd0dc4bbbebd7c4784649715ebee4e7476114e29e172ea35e1"), looks := false }, kinds := [], alts := [], laidByText := true, laidKinds := [.data], laidTests := true, laidLooks := .later }
def PagerAnewUptoCardSaid : Prop := Claim7.holds Tryd.pinned (.plain (OpenSpec.upto pagerAnewSpec)) pagerAnewUptoCard

/-- THE SECOND FORM's CARD OF 'usancelaw08.PagerStays'. -/
def pagerStaysUptoCard : Claim7 := { stood := { row := pagerStaysUptoRow, standIns := [], harness := (true, "e5a9d7f5e9baadcd0dc4bbbebd7c4784649715ebee4e7476114e29e172ea35e1"), looks := false }, kinds := [], alts := [], laidByText := true, laidKinds := [.data], laidTests := true, laidLooks := .later }
def PagerStaysUptoCardSaid : Prop := Claim7.holds Tryd.pinned (.plain (OpenSpec.upto pagerStaysSpec)) pagerStaysUptoCard
end Rows
end Go.Proofs.YtbmmcaoifkboiaaDoor
