/-
  DERIVED. GIVEN WITH THE SEED: THE CARDS: each row of YtofibccplbnaiaaDoorRows.lean that lists a variable, with what it lists TIED to the program's text (the seventh form; the later family's looks); each row that meets fmt, with fmt's text TOLD by the authors' own Lean function (tested against real Go, not proved from fmt's source: count such statements apart). THE CARD IS WHAT COUNTS. Prove the row's statement (the work); the ties are given (YtofibccplbnaiaaDoorTie.lean); close each card by the builder's one call (the guide's Derived/Test/ToyasCard.lean, 'card_holds'). Laid BY PROGRAM, IN A SANDBOX (cutbox-door.mjs). By AI agents, Wed Nov 11 2026. No macro, syntax, notation, axiom, sorry.
-/
import Derived.Test.YtofibccplbnaiaaDoorRows
import GoSem.ClaimSeven
namespace Go.Proofs.YtofibccplbnaiaaDoor
namespace Rows

/-- THE TIED CARD OF 'usancelaw10.BtreeRaw'. -/
def btreeRawCard : Claim7 := { stood := { row := btreeRawRow, standIns := [], harness := (true, "d3fc8fb63cb05b325d0beca14d191899e0d83f64db8f76cabebb42076f992ab9"), looks := false }, kinds := [], alts := [], laidByText := true, laidKinds := [.data], laidTests := true, laidLooks := .later }
def BtreeRawCardSaid : Prop := Claim7.holds Tryd.pinned (.plain (OpenSpec.ofChange btreeRawSpec)) btreeRawCard

/-- THE SECOND FORM's CARD OF 'usancelaw10.BtreeRaw'. -/
def btreeRawUptoCard : Claim7 := { stood := { row := btreeRawUptoRow, standIns := [], harness := (true, "d3fc8fb63cb05b325d0beca14d191899e0d83f64db8f76cabebb42076f992ab9"), looks := false }, kinds := [], alts := [], laidByText := true, laidKinds := [.data], laidTests := true, laidLooks := .later }
def BtreeRawUptoCardSaid : Prop := Claim7.holds Tryd.pinned (.plain (OpenSpec.upto btreeRawSpec)) btreeRawUptoCard
end Rows
end Go.Proofs.YtofibccplbnaiaaDoor
