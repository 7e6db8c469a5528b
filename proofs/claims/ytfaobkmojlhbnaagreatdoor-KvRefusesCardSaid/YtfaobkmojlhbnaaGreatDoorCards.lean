/-
  DERIVED. GIVEN WITH THE SEED: THE CARDS: each row of YtfaobkmojlhbnaaGreatDoorRows.lean that lists a variable, with what it lists TIED to the program's text (the seventh form; the later family's looks); each row that meets fmt, with fmt's text TOLD by the authors' own Lean function (tested against real Go, not proved from fmt's source: count such statements apart). THE CARD IS WHAT COUNTS. Prove the row's statement (the work); the ties are given (YtfaobkmojlhbnaaGreatDoorTie.lean); close each card by the builder's one call (the guide's Derived/Test/ToyasCard.lean, 'card_holds'). Laid BY PROGRAM, IN A SANDBOX (cutbox-door.mjs). By AI agents, Wed Nov 11 2026. No macro, syntax, notation, axiom, sorry.
-/
import Derived.Test.YtfaobkmojlhbnaaGreatDoorRows
import GoSem.ClaimSeven
namespace Go.Proofs.YtfaobkmojlhbnaaGreatDoor
namespace Rows

/-- THE TIED CARD OF 'usancelaw12.KvLasts'. -/
def kvLastsCard : Claim7 := { stood := { row := kvLastsRow, standIns := [], harness := (true, "9b9b40704e471eff4bd551278c3ffa02d8bb426b377fb6d01022b0906211a4df"), looks := false }, kinds := [], alts := [], laidByText := true, laidKinds := [.data], laidTests := true, laidLooks := .later }
def KvLastsCardSaid : Prop := Claim7.holds Tryz.pinned (.plain (OpenSpec.ofChange kvLastsSpec)) kvLastsCard

/-- THE TIED CARD OF 'usancelaw12.KvAnew'. -/
def kvAnewCard : Claim7 := { stood := { row := kvAnewRow, standIns := [], harness := (true, "9b9b40704e471eff4bd551278c3ffa02d8bb426b377fb6d01022b0906211a4df"), looks := false }, kinds := [], alts := [], laidByText := true, laidKinds := [.data], laidTests := true, laidLooks := .later }
def KvAnewCardSaid : Prop := Claim7.holds Tryz.pinned (.plain (OpenSpec.ofChange kvAnewSpec)) kvAnewCard

/-- THE TIED CARD OF 'usancelaw12.KvCuts'. -/
def kvCutsCard : Claim7 := { stood := { row := kvCutsRow, standIns := [], harness := (true, "9b9b40704e471eff4bd551278c3ffa02d8bb426b377fb6d01022b0906211a4df"), looks := false }, kinds := [], alts := [], laidByText := true, laidKinds := [.data], laidTests := true, laidLooks := .later }
def KvCutsCardSaid : Prop := Claim7.holds Tryz.pinned (.plain (OpenSpec.ofChange kvCutsSpec)) kvCutsCard

/-- THE TIED CARD OF 'usancelaw12.KvApart'. -/
def kvApartCard : Claim7 := { stood := { row := kvApartRow, standIns := [], harness := (true, "9b9b40704e471eff4bd551278c3ffa02d8bb426b377fb6d01022b0906211a4df"), looks := false }, kinds := [], alts := [], laidByText := true, laidKinds := [.data], laidTests := true, laidLooks := .later }
def KvApartCardSaid : Prop := Claim7.holds Tryz.pinned (.plain (OpenSpec.ofChange kvApartSpec)) kvApartCard

/-- THE TIED CARD OF 'usancelaw12.KvPlays'. -/
def kvPlaysCard : Claim7 := { stood := { row := kvPlaysRow, standIns := [], harness := (true, "9b9b40704e471eff4bd551278c3ffa02d8bb426b377fb6d01022b0906211a4df"), looks := false }, kinds := [], alts := [], laidByText := true, laidKinds := [.data], laidTests := true, laidLooks := .later }
def KvPlaysCardSaid : Prop := Claim7.holds Tryz.pinned (.plain (OpenSpec.ofChange kvPlaysSpec)) kvPlaysCard

/-- THE TIED CARD OF 'usancelaw12.KvRefuses'. -/
def kvRefusesCard : Claim7 := { stood := { row := kvRefusesRow, standIns := [], harness := (true, "9b9b40704e471eff4bd551278c3ffa02d8bb426b377fb6d01022b0906211a4df"), looks := false }, kinds := [], alts := [], laidByText := true, laidKinds := [.data], laidTests := true, laidLooks := .later }
def KvRefusesCardSaid : Prop := Claim7.holds Tryz.pinned (.plain (OpenSpec.ofChange kvRefusesSpec)) kvRefusesCard

/-- THE TIED CARD OF 'usancelaw12.KvTells'. -/
def kvTellsCard : Claim7 := { stood := { row := kvTellsRow, standIns := [], harness := (true, "9b9b40704e471eff4bd551278c3ffa02d8bb426b377fb6d01022b0906211a4df"), looks := false }, kinds := [], alts := [], laidByText := true, laidKinds := [.data], laidTests := true, laidLooks := .later }
def KvTellsCardSaid : Prop := Claim7.holds Tryz.pinned (.plain (OpenSpec.ofChange kvTellsSpec)) kvTellsCard

/-- THE SECOND FORM's CARD OF 'usancelaw12.KvLasts'. -/
def kvLastsUptoCard : Claim7 := { stood := { row := kvLastsUptoRow, standIns := [], harness := (true, "9b9b40704e471eff4bd551278c3ffa02d8bb426b377fb6d01022b0906211a4df"), looks := false }, kinds := [], alts := [], laidByText := true, laidKinds := [.data], laidTests := true, laidLooks := .later }
def KvLastsUptoCardSaid : Prop := Claim7.holds Tryz.pinned (.plain (OpenSpec.upto kvLastsSpec)) kvLastsUptoCard

/-- THE SECOND FORM's CARD OF 'usancelaw12.KvAnew'. -/
def kvAnewUptoCard : Claim7 := { stood := { row := kvAnewUptoRow, standIns := [], harness := (true, "9b9b40704e471eff4bd551278c3ffa02d8bb426b377fb6d01022b0906211a4df"), looks := false }, kinds := [], alts := [], laidByText := true, laidKinds := [.data], laidTests := true, laidLooks := .later }
def KvAnewUptoCardSaid : Prop := Claim7.holds Tryz.pinned (.plain (OpenSpec.upto kvAnewSpec)) kvAnewUptoCard

/-- THE SECOND FORM's CARD OF 'usancelaw12.KvCuts'. -/
def kvCutsUptoCard : Claim7 := { stood := { row := kvCutsUptoRow, standIns := [], harness := (true, "9b9b40704e471eff4bd551278c3ffa02d8bb426b377fb6d01022b0906211a4df"), looks := false }, kinds := [], alts := [], laidByText := true, laidKinds := [.data], laidTests := true, laidLooks := .later }
def KvCutsUptoCardSaid : Prop := Claim7.holds Tryz.pinned (.plain (OpenSpec.upto kvCutsSpec)) kvCutsUptoCard

/-- THE SECOND FORM's CARD OF 'usancelaw12.KvApart'. -/
def kvApartUptoCard : Claim7 := { stood := { row := kvApartUptoRow, standIns := [], harness := (true, "9b9b40704e471eff4bd551278c3ffa02d8bb426b377fb6d01022b0906211a4df"), looks := false }, kinds := [], alts := [], laidByText := true, laidKinds := [.data], laidTests := true, laidLooks := .later }
def KvApartUptoCardSaid : Prop := Claim7.holds Tryz.pinned (.plain (OpenSpec.upto kvApartSpec)) kvApartUptoCard

/-- THE SECOND FORM's CARD OF 'usancelaw12.KvPlays'. -/
def kvPlaysUptoCard : Claim7 := { stood := { row := kvPlaysUptoRow, standIns := [], harness := (true, "9b9b40704e471eff4bd551278c3ffa02d8bb426b377fb6d01022b0906211a4df"), looks := false }, kinds := [], alts := [], laidByText := true, laidKinds := [.data], laidTests := true, laidLooks := .later }
def KvPlaysUptoCardSaid : Prop := Claim7.holds Tryz.pinned (.plain (OpenSpec.upto kvPlaysSpec)) kvPlaysUptoCard

/-- THE SECOND FORM's CARD OF 'usancelaw12.KvRefuses'. -/
def kvRefusesUptoCard : Claim7 := { stood := { row := kvRefusesUptoRow, standIns := [], harness := (true, "9b9b40704e471eff4bd551278c3ffa02d8bb426b377fb6d01022b0906211a4df"), looks := false }, kinds := [], alts := [], laidByText := true, laidKinds := [.data], laidTests := true, laidLooks := .later }
def KvRefusesUptoCardSaid : Prop := Claim7.holds Tryz.pinned (.plain (OpenSpec.upto kvRefusesSpec)) kvRefusesUptoCard

/-- THE SECOND FORM's CARD OF 'usancelaw12.KvTells'. -/
def kvTellsUptoCard : Claim7 := { stood := { row := kvTellsUptoRow, standIns := [], harness := (true, "9b9b40704e471eff4bd551278c3ffa02d8bb426b377fb6d01022b0906211a4df"), looks := false }, kinds := [], alts := [], laidByText := true, laidKinds := [.data], laidTests := true, laidLooks := .later }
def KvTellsUptoCardSaid : Prop := Claim7.holds Tryz.pinned (.plain (OpenSpec.upto kvTellsSpec)) kvTellsUptoCard
end Rows
end Go.Proofs.YtfaobkmojlhbnaaGreatDoor
