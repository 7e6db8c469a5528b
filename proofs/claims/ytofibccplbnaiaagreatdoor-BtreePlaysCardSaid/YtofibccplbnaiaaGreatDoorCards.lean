/-
  DERIVED. GIVEN WITH THE SEED: THE CARDS: each row of YtofibccplbnaiaaGreatDoorRows.lean that lists a variable, with what it lists TIED to the program's text (the seventh form; the later family's looks); each row that meets fmt, with fmt's text TOLD by the authors' own Lean function (tested against real Go, not proved from fmt's source: count such statements apart). THE CARD IS WHAT COUNTS. Prove the row's statement (the work); the ties are given (YtofibccplbnaiaaGreatDoorTie.lean); close each card by the builder's one call (the guide's Derived/Test/ToyasCard.lean, 'card_holds'). Laid BY PROGRAM, IN A SANDBOX (cutbox-door.mjs). By AI agents, Wed Nov 11 2026. No macro, syntax, notation, axiom, sorry.
-/
import Derived.Test.YtofibccplbnaiaaGreatDoorRows
import GoSem.ClaimSeven
namespace Go.Proofs.YtofibccplbnaiaaGreatDoor
namespace Rows

/-- THE TIED CARD OF 'usancelaw10.BtreeOrders'. -/
def btreeOrdersCard : Claim7 := { stood := { row := btreeOrdersRow, standIns := [], harness := (true, "8ccce2a6d2e961281028ce94bb2ddf362861f915f9998739c6dcee5907c5381a"), looks := false }, kinds := [], alts := [], laidByText := true, laidKinds := [.data], laidTests := true, laidLooks := .later }
def BtreeOrdersCardSaid : Prop := Claim7.holds Tryz.pinned (.plain (OpenSpec.ofChange btreeOrdersSpec)) btreeOrdersCard

/-- THE TIED CARD OF 'usancelaw10.BtreeParts'. -/
def btreePartsCard : Claim7 := { stood := { row := btreePartsRow, standIns := [], harness := (true, "8ccce2a6d2e961281028ce94bb2ddf362861f915f9998739c6dcee5907c5381a"), looks := false }, kinds := [], alts := [], laidByText := true, laidKinds := [.data], laidTests := true, laidLooks := .later }
def BtreePartsCardSaid : Prop := Claim7.holds Tryz.pinned (.plain (OpenSpec.ofChange btreePartsSpec)) btreePartsCard

/-- THE TIED CARD OF 'usancelaw10.BtreeTwice'. -/
def btreeTwiceCard : Claim7 := { stood := { row := btreeTwiceRow, standIns := [], harness := (true, "8ccce2a6d2e961281028ce94bb2ddf362861f915f9998739c6dcee5907c5381a"), looks := false }, kinds := [], alts := [], laidByText := true, laidKinds := [.data], laidTests := true, laidLooks := .later }
def BtreeTwiceCardSaid : Prop := Claim7.holds Tryz.pinned (.plain (OpenSpec.ofChange btreeTwiceSpec)) btreeTwiceCard

/-- THE TIED CARD OF 'usancelaw10.BtreePlays'. -/
def btreePlaysCard : Claim7 := { stood := { row := btreePlaysRow, standIns := [], harness := (true, "8ccce2a6d2e961281028ce94bb2ddf362861f915f9998739c6dcee5907c5381a"), looks := false }, kinds := [], alts := [], laidByText := true, laidKinds := [.data], laidTests := true, laidLooks := .later }
def BtreePlaysCardSaid : Prop := Claim7.holds Tryz.pinned (.plain (OpenSpec.ofChange btreePlaysSpec)) btreePlaysCard

/-- THE SECOND FORM's CARD OF 'usancelaw10.BtreeOrders'. -/
def btreeOrdersUptoCard : Claim7 := { stood := { row := btreeOrdersUptoRow, standIns := [], harness := (true, "8ccce2a6d2e961281028ce94bb2ddf362861f915f9998739c6dcee5907c5381a"), looks := false }, kinds := [], alts := [], laidByText := true, laidKinds := [.data], laidTests := true, laidLooks := .later }
def BtreeOrdersUptoCardSaid : Prop := Claim7.holds Tryz.pinned (.plain (OpenSpec.upto btreeOrdersSpec)) btreeOrdersUptoCard

/-- THE SECOND FORM's CARD OF 'usancelaw10.BtreeParts'. -/
def btreePartsUptoCard : Claim7 := { stood := { row := btreePartsUptoRow, standIns := [], harness := (true, "8ccce2a6d2e961281028ce94bb2ddf362861f915f9998739c6dcee5907c5381a"), looks := false }, kinds := [], alts := [], laidByText := true, laidKinds := [.data], laidTests := true, laidLooks := .later }
def BtreePartsUptoCardSaid : Prop := Claim7.holds Tryz.pinned (.plain (OpenSpec.upto btreePartsSpec)) btreePartsUptoCard

/-- THE SECOND FORM's CARD OF 'usancelaw10.BtreeTwice'. -/
def btreeTwiceUptoCard : Claim7 := { stood := { row := btreeTwiceUptoRow, standIns := [], harness := (true, "8ccce2a6d2e961281028ce94bb2ddf362861f915f9998739c6dcee5907c5381a"), looks := false }, kinds := [], alts := [], laidByText := true, laidKinds := [.data], laidTests := true, laidLooks := .later }
def BtreeTwiceUptoCardSaid : Prop := Claim7.holds Tryz.pinned (.plain (OpenSpec.upto btreeTwiceSpec)) btreeTwiceUptoCard

/-- THE SECOND FORM's CARD OF 'usancelaw10.BtreePlays'. -/
def btreePlaysUptoCard : Claim7 := { stood := { row := btreePlaysUptoRow, standIns := [], harness := (true, "8ccce2a6d2e961281028ce94bb2ddf362861f915f9998739c6dcee5907c5381a"), looks := false }, kinds := [], alts := [], laidByText := true, laidKinds := [.data], laidTests := true, laidLooks := .later }
def BtreePlaysUptoCardSaid : Prop := Claim7.holds Tryz.pinned (.plain (OpenSpec.upto btreePlaysSpec)) btreePlaysUptoCard
end Rows
end Go.Proofs.YtofibccplbnaiaaGreatDoor
