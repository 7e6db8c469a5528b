/-
  NARROWER THAN 'FOR EVERY INPUT', by the rows' own cells (each row's printed sentence says how): BtreeOrders: laid · BtreeParts: laid · BtreeTwice: laid · BtreePlays: laid.
  DERIVED. THE GIVEN ROWS OF THIS SEAT. 4 by the template 'for every input the law returns true; each argument reads behind the call as it read before'; 0 by the template 'total and deterministic' (their statements: YtofibccplbnaiaaGreatDoorTotals.lean).
  GIVEN WITH THE SEED: the statements are not yours to turn. If you find one false, say at which input.
  Laid BY PROGRAM, IN A SANDBOX (cutbox-rows.mjs): the forced cells as the released guide's own fill.sh prints them over the translation 2013c7314d3941c9… (all of the seat's roots in one cut). By AI agents, Wed Nov 11 2026. No macro, syntax, notation, axiom, sorry.
-/
import Derived.Test.YtofibccplbnaiaaGreatDoorChecked
import GoSem.Claim
import GoSem.ClaimJoined
import GoSem.ClaimMapViews
import Derived.JoinedTies
import Derived.KernelRfl
namespace Go.Proofs.YtofibccplbnaiaaGreatDoor
/- THE CELL 'sum', in the pinned program and in every row, IS THE sha256 OF THE DUMP (.gsa) THAT YtofibccplbnaiaaGreatDoorProg.lean LOADS. Nothing in Lean hashes anything: it is a label: what it is worth is what the hold of that sum in a sandbox is worth. -/
noncomputable def Tryz.pinned : Pinned := { name := "ytofibccplbnaiaagreatdoor", sum := "2013c7314d3941c963b57a76343f65558073645dd93b100b24bf68c5937d4775", checked := Tryz.checked }
namespace Rows
def none {H : Type} : Left H := { results := [], args := [] }

/- WHAT THE LISTED PACKAGE-LEVEL VARIABLES READ AS WHEN THE CALL BEGINS. Each datum BY PROGRAM (the guide's laid-datum.mjs) off the statement by which the dump's own 'gosem.cut.vars' lays the variable. In a bare row this is a premise. The card (YtofibccplbnaiaaGreatDoorCards.lean) ties it to the program's text. -/
def laid_usance_wire_nibbles {H : Type} : DataW H := .agg [.lit (.int .u32 0), .lit (.int .u32 498536548), .lit (.int .u32 997073096), .lit (.int .u32 651767980), .lit (.int .u32 1994146192), .lit (.int .u32 1802195444), .lit (.int .u32 1303535960), .lit (.int .u32 1342533948), .lit (.int .u32 3988292384), .lit (.int .u32 4027552580), .lit (.int .u32 3604390888), .lit (.int .u32 3412177804), .lit (.int .u32 2607071920), .lit (.int .u32 2262029012), .lit (.int .u32 2685067896), .lit (.int .u32 3183342108)]

/-- 'usancelaw10.BtreeOrders': WHATEVER THE INPUT: true; the input reads as it did. -/
def btreeOrdersSpec : ChangeSpec := { name := "btreeOrders", fn := fun _ => fun
  | [d1, d2, d3] => { results := [.lit (.bool true)], args := [d1, d2, d3] }
  | _ => none }
def btreeOrdersRow : OpenClaim := { program := "ytofibccplbnaiaagreatdoor", sum := "2013c7314d3941c963b57a76343f65558073645dd93b100b24bf68c5937d4775", func := "usance/usancelaw10.BtreeOrders", spec := "btreeOrders", inPlace := ["slices.overlaps[usance/btree.entry]"], unfollowed := true, recurses := true, named := ["usance/wire.nibbles"], apart := false, laid := [("usance/wire.nibbles", laid_usance_wire_nibbles)] }
def BtreeOrdersSaid : Prop := btreeOrdersRow.holds Tryz.pinned (OpenSpec.ofChange btreeOrdersSpec)

/-- ITS FALSE NEIGHBOUR: 'it returns false'. Refute it at one input. -/
def btreeOrdersWrong : ChangeSpec := { name := "btreeOrders", fn := fun _ => fun
  | [d1, d2, d3] => { results := [.lit (.bool false)], args := [d1, d2, d3] }
  | _ => none }
def BtreeOrdersWrongFalsely : Prop := btreeOrdersRow.holds Tryz.pinned (OpenSpec.ofChange btreeOrdersWrong)

/-- 'usancelaw10.BtreeParts': WHATEVER THE INPUT: true; the input reads as it did. -/
def btreePartsSpec : ChangeSpec := { name := "btreeParts", fn := fun _ => fun
  | [d1, d2, d3, d4] => { results := [.lit (.bool true)], args := [d1, d2, d3, d4] }
  | _ => none }
def btreePartsRow : OpenClaim := { program := "ytofibccplbnaiaagreatdoor", sum := "2013c7314d3941c963b57a76343f65558073645dd93b100b24bf68c5937d4775", func := "usance/usancelaw10.BtreeParts", spec := "btreeParts", inPlace := ["slices.overlaps[usance/btree.entry]"], unfollowed := true, recurses := true, named := ["usance/wire.nibbles"], apart := false, laid := [("usance/wire.nibbles", laid_usance_wire_nibbles)] }
def BtreePartsSaid : Prop := btreePartsRow.holds Tryz.pinned (OpenSpec.ofChange btreePartsSpec)

/-- ITS FALSE NEIGHBOUR: 'it returns false'. Refute it at one input. -/
def btreePartsWrong : ChangeSpec := { name := "btreeParts", fn := fun _ => fun
  | [d1, d2, d3, d4] => { results := [.lit (.bool false)], args := [d1, d2, d3, d4] }
  | _ => none }
def BtreePartsWrongFalsely : Prop := btreePartsRow.holds Tryz.pinned (OpenSpec.ofChange btreePartsWrong)

/-- 'usancelaw10.BtreeTwice': WHATEVER THE INPUT: true; the input reads as it did. -/
def btreeTwiceSpec : ChangeSpec := { name := "btreeTwice", fn := fun _ => fun
  | [d1, d2, d3] => { results := [.lit (.bool true)], args := [d1, d2, d3] }
  | _ => none }
def btreeTwiceRow : OpenClaim := { program := "ytofibccplbnaiaagreatdoor", sum := "2013c7314d3941c963b57a76343f65558073645dd93b100b24bf68c5937d4775", func := "usance/usancelaw10.BtreeTwice", spec := "btreeTwice", inPlace := ["slices.overlaps[usance/btree.entry]"], unfollowed := true, recurses := true, named := ["usance/wire.nibbles"], apart := false, laid := [("usance/wire.nibbles", laid_usance_wire_nibbles)] }
def BtreeTwiceSaid : Prop := btreeTwiceRow.holds Tryz.pinned (OpenSpec.ofChange btreeTwiceSpec)

/-- ITS FALSE NEIGHBOUR: 'it returns false'. Refute it at one input. -/
def btreeTwiceWrong : ChangeSpec := { name := "btreeTwice", fn := fun _ => fun
  | [d1, d2, d3] => { results := [.lit (.bool false)], args := [d1, d2, d3] }
  | _ => none }
def BtreeTwiceWrongFalsely : Prop := btreeTwiceRow.holds Tryz.pinned (OpenSpec.ofChange btreeTwiceWrong)

/-- 'usancelaw10.BtreePlays': WHATEVER THE INPUT: true; the input reads as it did. -/
def btreePlaysSpec : ChangeSpec := { name := "btreePlays", fn := fun _ => fun
  | [d] => { results := [.lit (.bool true)], args := [d] }
  | _ => none }
def btreePlaysRow : OpenClaim := { program := "ytofibccplbnaiaagreatdoor", sum := "2013c7314d3941c963b57a76343f65558073645dd93b100b24bf68c5937d4775", func := "usance/usancelaw10.BtreePlays", spec := "btreePlays", inPlace := ["slices.overlaps[usance/btree.entry]"], unfollowed := true, recurses := true, named := ["usance/wire.nibbles"], apart := false, laid := [("usance/wire.nibbles", laid_usance_wire_nibbles)] }
def BtreePlaysSaid : Prop := btreePlaysRow.holds Tryz.pinned (OpenSpec.ofChange btreePlaysSpec)

/-- ITS FALSE NEIGHBOUR: 'it returns false'. Refute it at one input. -/
def btreePlaysWrong : ChangeSpec := { name := "btreePlays", fn := fun _ => fun
  | [d] => { results := [.lit (.bool false)], args := [d] }
  | _ => none }
def BtreePlaysWrongFalsely : Prop := btreePlaysRow.holds Tryz.pinned (OpenSpec.ofChange btreePlaysWrong)

/- THE SECOND FORM. 'bulk': how many values and letters a reading holds, each counted each time it is reached (what is shared counts as often as it is met; a slice's spare places count too). A statement '..UptoSaid' is the law's where the arguments, and the package variables that the reading takes, are together of bulk at most 1048576: NARROWER than '..Said'. Prove '..Said' where nothing that the law and all that it calls make is longer than what came in: it says more and counts as full. Else prove '..UptoSaid'. A law counts once. -/
mutual
def uptoBulk {H : Type} : DataW H → Nat
  | .lit (.string bytes) => bytes.length + 1
  | .lit _ => 1
  | .nil => 1
  | .ptr d => uptoBulk d + 1
  | .slice elems spare => uptoBulkAll elems + uptoBulkAll spare + 1
  | .agg parts => uptoBulkAll parts + 1
  | .iface _ d => uptoBulk d + 1
  | .map entries => uptoBulkEntries entries + 1
  | .held _ => 1
def uptoBulkAll {H : Type} : List (DataW H) → Nat
  | [] => 0
  | d :: r => uptoBulk d + uptoBulkAll r
def uptoBulkEntries {H : Type} : List (Lit × DataW H) → Nat
  | [] => 0
  | x :: r => uptoBulkEntry x + uptoBulkEntries r
def uptoBulkEntry {H : Type} : Lit × DataW H → Nat
  | (.string bytes, d) => bytes.length + uptoBulk d + 1
  | (_, d) => uptoBulk d + 1
 end
def uptoSmall : (H : Type) → List (DataW H) → Bool := fun _ ds => decide (uptoBulkAll ds ≤ 1048576)
def OpenSpec.upto (s : _root_.Go.ChangeSpec) : _root_.Go.OpenSpec := { _root_.Go.OpenSpec.ofChange s with cond := some uptoSmall }

/-- 'usancelaw10.BtreeOrders', WHERE WHAT IT READS IS OF BULK AT MOST 1048576: true; the input reads as it did. -/
def btreeOrdersUptoRow : OpenClaim := { program := "ytofibccplbnaiaagreatdoor", sum := "2013c7314d3941c963b57a76343f65558073645dd93b100b24bf68c5937d4775", func := "usance/usancelaw10.BtreeOrders", spec := "btreeOrders", inPlace := ["slices.overlaps[usance/btree.entry]"], unfollowed := true, recurses := true, named := ["usance/wire.nibbles"], apart := false, laid := [("usance/wire.nibbles", laid_usance_wire_nibbles)], narrowed := true }
def BtreeOrdersUptoSaid : Prop := btreeOrdersUptoRow.holds Tryz.pinned (OpenSpec.upto btreeOrdersSpec)

/-- 'usancelaw10.BtreeParts', WHERE WHAT IT READS IS OF BULK AT MOST 1048576: true; the input reads as it did. -/
def btreePartsUptoRow : OpenClaim := { program := "ytofibccplbnaiaagreatdoor", sum := "2013c7314d3941c963b57a76343f65558073645dd93b100b24bf68c5937d4775", func := "usance/usancelaw10.BtreeParts", spec := "btreeParts", inPlace := ["slices.overlaps[usance/btree.entry]"], unfollowed := true, recurses := true, named := ["usance/wire.nibbles"], apart := false, laid := [("usance/wire.nibbles", laid_usance_wire_nibbles)], narrowed := true }
def BtreePartsUptoSaid : Prop := btreePartsUptoRow.holds Tryz.pinned (OpenSpec.upto btreePartsSpec)

/-- 'usancelaw10.BtreeTwice', WHERE WHAT IT READS IS OF BULK AT MOST 1048576: true; the input reads as it did. -/
def btreeTwiceUptoRow : OpenClaim := { program := "ytofibccplbnaiaagreatdoor", sum := "2013c7314d3941c963b57a76343f65558073645dd93b100b24bf68c5937d4775", func := "usance/usancelaw10.BtreeTwice", spec := "btreeTwice", inPlace := ["slices.overlaps[usance/btree.entry]"], unfollowed := true, recurses := true, named := ["usance/wire.nibbles"], apart := false, laid := [("usance/wire.nibbles", laid_usance_wire_nibbles)], narrowed := true }
def BtreeTwiceUptoSaid : Prop := btreeTwiceUptoRow.holds Tryz.pinned (OpenSpec.upto btreeTwiceSpec)

/-- 'usancelaw10.BtreePlays', WHERE WHAT IT READS IS OF BULK AT MOST 1048576: true; the input reads as it did. -/
def btreePlaysUptoRow : OpenClaim := { program := "ytofibccplbnaiaagreatdoor", sum := "2013c7314d3941c963b57a76343f65558073645dd93b100b24bf68c5937d4775", func := "usance/usancelaw10.BtreePlays", spec := "btreePlays", inPlace := ["slices.overlaps[usance/btree.entry]"], unfollowed := true, recurses := true, named := ["usance/wire.nibbles"], apart := false, laid := [("usance/wire.nibbles", laid_usance_wire_nibbles)], narrowed := true }
def BtreePlaysUptoSaid : Prop := btreePlaysUptoRow.holds Tryz.pinned (OpenSpec.upto btreePlaysSpec)

end Rows
end Go.Proofs.YtofibccplbnaiaaGreatDoor
