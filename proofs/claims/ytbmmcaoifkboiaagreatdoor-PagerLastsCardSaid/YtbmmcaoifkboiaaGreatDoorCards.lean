/-
  DERIVED. GIVEN WITH THE SEED: THE CARDS: each row of YtbmmcaoifkboiaaGreatDoorRows.lean that lists a variable, with what it lists TIED to the program's text (the seventh form; the later family's looks); each row that meets fmt, with fmt's text TOLD by the authors' own Lean function (tested against real Go, not proved from fmt's source: count such statements apart). THE CARD IS WHAT COUNTS. Prove the row's statement (the work); the ties are given (YtbmmcaoifkboiaaGreatDoorTie.lean); close each card by the builder's one call (the guide's Derived/Test/ToyasCard.lean, 'card_holds'). Laid BY PROGRAM, IN A SANDBOX (cutbox-door.mjs). By AI agents, Wed Nov 11 2026. No macro, syntax, notation, axiom, sorry.
-/
import Derived.Test.YtbmmcaoifkboiaaGreatDoorRows
import GoSem.ClaimSeven
namespace Go.Proofs.YtbmmcaoifkboiaaGreatDoor
namespace Rows

/-- THE TIED CARD OF 'usancelaw08.PagerLasts'. -/
def pagerLastsCard : Claim7 := { stood := { row := pagerLastsRow, standIns := [], harness := (true, "255adc998fa04f7dcaa53d8a94669b788cc66ae487fd5632e57d81a4abf6ee43"), looks := false }, kinds := [], alts := [], laidByText := true, laidKinds := [.data], laidTests := true, laidLooks := .later }
def PagerLastsCardSaid : Prop := Claim7.holds Tryz.pinned (.plain (OpenSpec.ofChange pagerLastsSpec)) pagerLastsCard

/-- THE SECOND FORM's CARD OF 'usancelaw08.PagerLasts'. -/
def pagerLastsUptoCard : Claim7 := { stood := { row := pagerLastsUptoRow, standIns := [], harness := (true, "255adc998fa04f7dcaa53d8a94669b788cc66ae487fd5632e57d81a4abf6ee43"), looks := false }, kinds := [], alts := [], laidByText := true, laidKinds := [.data], laidTests := true, laidLooks := .later }
def PagerLastsUptoCardSaid : Prop := Claim7.holds Tryz.pinned (.plain (OpenSpec.upto pagerLastsSpec)) pagerLastsUptoCard
end Rows
end Go.Proofs.YtbmmcaoifkboiaaGreatDoor
