/-
  NARROWER THAN 'FOR EVERY INPUT', by the rows' own cells (each row's printed sentence says how): JournalOrders: laid · JournalRefuses: laid · JournalTells: laid · JournalLasts: laid · JournalAnew: laid.
  DERIVED. THE GIVEN ROWS OF THIS SEAT. 5 by the template 'for every input the law returns true; each argument reads behind the call as it read before'; 0 by the template 'total and deterministic' (their statements: YtoonlihacbbfdaaDoorTotals.lean).
  GIVEN WITH THE SEED: the statements are not yours to turn. If you find one false, say at which input.
  Laid BY PROGRAM, IN A SANDBOX (cutbox-rows.mjs): the forced cells as the released guide's own fill.sh prints them over the translation 697250df095630aa… (all of the seat's roots in one cut). By AI agents, Wed Nov 11 2026. No macro, syntax, notation, axiom, sorry.
-/
import Derived.Test.YtoonlihacbbfdaaDoorChecked
import GoSem.Claim
import GoSem.ClaimJoined
import GoSem.ClaimMapViews
import Derived.JoinedTies
import Derived.KernelRfl
namespace Go.Proofs.YtoonlihacbbfdaaDoor
/- THE CELL 'sum', in the pinned program and in every row, IS THE sha256 OF THE DUMP (.gsa) THAT YtoonlihacbbfdaaDoorProg.lean LOADS. Nothing in Lean hashes anything: it is a label: what it is worth is what the hold of that sum in a sandbox is worth. -/
noncomputable def Tryd.pinned : Pinned := { name := "ytoonlihacbbfdaadoor", sum := "697250df095630aa1952d8c9999f702a98fdd03fdd1ff148358da38b71114669", checked := Tryd.checked }
namespace Rows
def none {H : Type} : Left H := { results := [], args := [] }

/- WHAT THE LISTED PACKAGE-LEVEL VARIABLES READ AS WHEN THE CALL BEGINS. Each datum BY PROGRAM (the guide's laid-datum.mjs) off the statement by which the dump's own 'gosem.cut.vars' lays the variable. In a bare row this is a premise. The card (YtoonlihacbbfdaaDoorCards.lean) ties it to the program's text. -/
def laid_usance_wire_nibbles {H : Type} : DataW H := .agg [.lit (.int .u32 0), .lit (.int .u32 498536548), .lit (.int .u32 997073096), .lit (.int .u32 651767980), .lit (.int .u32 1994146192), .lit (.int .u32 1802195444), .lit (.int .u32 1303535960), .lit (.int .u32 1342533948), .lit (.int .u32 3988292384), .lit (.int .u32 4027552580), .lit (.int .u32 3604390888), .lit (.int .u32 3412177804), .lit (.int .u32 2607071920), .lit (.int .u32 2262029012), .lit (.int .u32 2685067896), .lit (.int .u32 3183342108)]

/-- 'usancelaw06.JournalOrders': WHATEVER THE INPUT: true; the input reads as it did. -/
def journalOrdersSpec : ChangeSpec := { name := "journalOrders", fn := fun _ => fun
  | [d1, d2, d3] => { results := [.lit (.bool true)], args := [d1, d2, d3] }
  | _ => none }
def journalOrdersRow : OpenClaim := { program := "ytoonlihacbbfdaadoor", sum := "697250df095630aa1952d8c9999f702a98fdd03fdd1ff148358da38b71114669", func := "usance/usancelaw06.JournalOrders", spec := "journalOrders", named := ["usance/wire.nibbles"], apart := false, laid := [("usance/wire.nibbles", laid_usance_wire_nibbles)] }
def JournalOrdersSaid : Prop := journalOrdersRow.holds Tryd.pinned (OpenSpec.ofChange journalOrdersSpec)

/-- ITS FALSE NEIGHBOUR: 'it returns false'. Refute it at one input. -/
def journalOrdersWrong : ChangeSpec := { name := "journalOrders", fn := fun _ => fun
  | [d1, d2, d3] => { results := [.lit (.bool false)], args := [d1, d2, d3] }
  | _ => none }
def JournalOrdersWrongFalsely : Prop := journalOrdersRow.holds Tryd.pinned (OpenSpec.ofChange journalOrdersWrong)

/-- 'usancelaw06.JournalRefuses': WHATEVER THE INPUT: true; the input reads as it did. -/
def journalRefusesSpec : ChangeSpec := { name := "journalRefuses", fn := fun _ => fun
  | [d1, d2, d3, d4] => { results := [.lit (.bool true)], args := [d1, d2, d3, d4] }
  | _ => none }
def journalRefusesRow : OpenClaim := { program := "ytoonlihacbbfdaadoor", sum := "697250df095630aa1952d8c9999f702a98fdd03fdd1ff148358da38b71114669", func := "usance/usancelaw06.JournalRefuses", spec := "journalRefuses", named := ["usance/wire.nibbles"], apart := false, laid := [("usance/wire.nibbles", laid_usance_wire_nibbles)] }
def JournalRefusesSaid : Prop := journalRefusesRow.holds Tryd.pinned (OpenSpec.ofChange journalRefusesSpec)

/-- ITS FALSE NEIGHBOUR: 'it returns false'. Refute it at one input. -/
def journalRefusesWrong : ChangeSpec := { name := "journalRefuses", fn := fun _ => fun
  | [d1, d2, d3, d4] => { results := [.lit (.bool false)], args := [d1, d2, d3, d4] }
  | _ => none }
def JournalRefusesWrongFalsely : Prop := journalRefusesRow.holds Tryd.pinned (OpenSpec.ofChange journalRefusesWrong)

/-- 'usancelaw06.JournalTells': WHATEVER THE INPUT: true; the input reads as it did. -/
def journalTellsSpec : ChangeSpec := { name := "journalTells", fn := fun _ => fun
  | [d1, d2, d3, d4, d5] => { results := [.lit (.bool true)], args := [d1, d2, d3, d4, d5] }
  | _ => none }
def journalTellsRow : OpenClaim := { program := "ytoonlihacbbfdaadoor", sum := "697250df095630aa1952d8c9999f702a98fdd03fdd1ff148358da38b71114669", func := "usance/usancelaw06.JournalTells", spec := "journalTells", named := ["usance/wire.nibbles"], apart := false, laid := [("usance/wire.nibbles", laid_usance_wire_nibbles)] }
def JournalTellsSaid : Prop := journalTellsRow.holds Tryd.pinned (OpenSpec.ofChange journalTellsSpec)

/-- ITS FALSE NEIGHBOUR: 'it returns false'. Refute it at one input. -/
def journalTellsWrong : ChangeSpec := { name := "journalTells", fn := fun _ => fun
  | [d1, d2, d3, d4, d5] => { results := [.lit (.bool false)], args := [d1, d2, d3, d4, d5] }
  | _ => none }
def JournalTellsWrongFalsely : Prop := journalTellsRow.holds Tryd.pinned (OpenSpec.ofChange journalTellsWrong)

/-- 'usancelaw06.JournalLasts': WHATEVER THE INPUT: true; the input reads as it did. -/
def journalLastsSpec : ChangeSpec := { name := "journalLasts", fn := fun _ => fun
  | [d1, d2] => { results := [.lit (.bool true)], args := [d1, d2] }
  | _ => none }
def journalLastsRow : OpenClaim := { program := "ytoonlihacbbfdaadoor", sum := "697250df095630aa1952d8c9999f702a98fdd03fdd1ff148358da38b71114669", func := "usance/usancelaw06.JournalLasts", spec := "journalLasts", named := ["usance/wire.nibbles"], apart := false, laid := [("usance/wire.nibbles", laid_usance_wire_nibbles)] }
def JournalLastsSaid : Prop := journalLastsRow.holds Tryd.pinned (OpenSpec.ofChange journalLastsSpec)

/-- ITS FALSE NEIGHBOUR: 'it returns false'. Refute it at one input. -/
def journalLastsWrong : ChangeSpec := { name := "journalLasts", fn := fun _ => fun
  | [d1, d2] => { results := [.lit (.bool false)], args := [d1, d2] }
  | _ => none }
def JournalLastsWrongFalsely : Prop := journalLastsRow.holds Tryd.pinned (OpenSpec.ofChange journalLastsWrong)

/-- 'usancelaw06.JournalAnew': WHATEVER THE INPUT: true; the input reads as it did. -/
def journalAnewSpec : ChangeSpec := { name := "journalAnew", fn := fun _ => fun
  | [d1, d2, d3] => { results := [.lit (.bool true)], args := [d1, d2, d3] }
  | _ => none }
def journalAnewRow : OpenClaim := { program := "ytoonlihacbbfdaadoor", sum := "697250df095630aa1952d8c9999f702a98fdd03fdd1ff148358da38b71114669", func := "usance/usancelaw06.JournalAnew", spec := "journalAnew", named := ["usance/wire.nibbles"], apart := false, laid := [("usance/wire.nibbles", laid_usance_wire_nibbles)] }
def JournalAnewSaid : Prop := journalAnewRow.holds Tryd.pinned (OpenSpec.ofChange journalAnewSpec)

/-- ITS FALSE NEIGHBOUR: 'it returns false'. Refute it at one input. -/
def journalAnewWrong : ChangeSpec := { name := "journalAnew", fn := fun _ => fun
  | [d1, d2, d3] => { results := [.lit (.bool false)], args := [d1, d2, d3] }
  | _ => none }
def JournalAnewWrongFalsely : Prop := journalAnewRow.holds Tryd.pinned (OpenSpec.ofChange journalAnewWrong)

/- THE SECOND FORM. 'bulk': how many values and letters a reading holds, each counted each time it is reached (what is shared counts as often as it is met; a slice's spare places count too). A statement '..UptoSaid' is the law's where the arguments, and the package variables that the reading takes, are together of bulk at most 1048576: NARROWER than '..Said'. Prove '..Said' where nothing that the law and all that it calls make is longer than what came in: it says more and counts as full. Else prove '..UptoSaid'. A law counts once. -/
mutual
def uptoBulk {H : Type} : DataW H → Nat
  | .lit (.string bytes) => bytes.length + 1
  | .lit _ => 1
  | .nil => 1
  | .ptr d => uptoBulk d + 1
  | .slice elems spare => uptoBulkAll elems + uptoBulkAll spare + 1
  | .agg parts => uptoBulkAll parts + 1
  | .iface _ d => uptoBulk d + 1
  | .map entries => uptoBulkEntries entries + 1
  | .held _ => 1
def uptoBulkAll {H : Type} : List (DataW H) → Nat
  | [] => 0
  | d :: r => uptoBulk d + uptoBulkAll r
def uptoBulkEntries {H : Type} : List (Lit × DataW H) → Nat
  | [] => 0
  | x :: r => uptoBulkEntry x + uptoBulkEntries r
def uptoBulkEntry {H : Type} : Lit × DataW H → Nat
  | (.string bytes, d) => bytes.length + uptoBulk d + 1
  | (_, d) => uptoBulk d + 1
 end
def uptoSmall : (H : Type) → List (DataW H) → Bool := fun _ ds => decide (uptoBulkAll ds ≤ 1048576)
def OpenSpec.upto (s : _root_.Go.ChangeSpec) : _root_.Go.OpenSpec := { _root_.Go.OpenSpec.ofChange s with cond := some uptoSmall }

/-- 'usancelaw06.JournalOrders', WHERE WHAT IT READS IS OF BULK AT MOST 1048576: true; the input reads as it did. -/
def journalOrdersUptoRow : OpenClaim := { program := "ytoonlihacbbfdaadoor", sum := "697250df095630aa1952d8c9999f702a98fdd03fdd1ff148358da38b71114669", func := "usance/usancelaw06.JournalOrders", spec := "journalOrders", named := ["usance/wire.nibbles"], apart := false, laid := [("usance/wire.nibbles", laid_usance_wire_nibbles)], narrowed := true }
def JournalOrdersUptoSaid : Prop := journalOrdersUptoRow.holds Tryd.pinned (OpenSpec.upto journalOrdersSpec)

/-- 'usancelaw06.JournalRefuses', WHERE WHAT IT READS IS OF BULK AT MOST 1048576: true; the input reads as it did. -/
def journalRefusesUptoRow : OpenClaim := { program := "ytoonlihacbbfdaadoor", sum := "697250df095630aa1952d8c9999f702a98fdd03fdd1ff148358da38b71114669", func := "usance/usancelaw06.JournalRefuses", spec := "journalRefuses", named := ["usance/wire.nibbles"], apart := false, laid := [("usance/wire.nibbles", laid_usance_wire_nibbles)], narrowed := true }
def JournalRefusesUptoSaid : Prop := journalRefusesUptoRow.holds Tryd.pinned (OpenSpec.upto journalRefusesSpec)

/-- 'usancelaw06.JournalTells', WHERE WHAT IT READS IS OF BULK AT MOST 1048576: true; the input reads as it did. -/
def journalTellsUptoRow : OpenClaim := { program := "ytoonlihacbbfdaadoor", sum := "697250df095630aa1952d8c9999f702a98fdd03fdd1ff148358da38b71114669", func := "usance/usancelaw06.JournalTells", spec := "journalTells", named := ["usance/wire.nibbles"], apart := false, laid := [("usance/wire.nibbles", laid_usance_wire_nibbles)], narrowed := true }
def JournalTellsUptoSaid : Prop := journalTellsUptoRow.holds Tryd.pinned (OpenSpec.upto journalTellsSpec)

/-- 'usancelaw06.JournalLasts', WHERE WHAT IT READS IS OF BULK AT MOST 1048576: true; the input reads as it did. -/
def journalLastsUptoRow : OpenClaim := { program := "ytoonlihacbbfdaadoor", sum := "697250df095630aa1952d8c9999f702a98fdd03fdd1ff148358da38b71114669", func := "usance/usancelaw06.JournalLasts", spec := "journalLasts", named := ["usance/wire.nibbles"], apart := false, laid := [("usance/wire.nibbles", laid_usance_wire_nibbles)], narrowed := true }
def JournalLastsUptoSaid : Prop := journalLastsUptoRow.holds Tryd.pinned (OpenSpec.upto journalLastsSpec)

/-- 'usancelaw06.JournalAnew', WHERE WHAT IT READS IS OF BULK AT MOST 1048576: true; the input reads as it did. -/
def journalAnewUptoRow : OpenClaim := { program := "ytoonlihacbbfdaadoor", sum := "697250df095630aa1952d8c9999f702a98fdd03fdd1ff148358da38b71114669", func := "usance/usancelaw06.JournalAnew", spec := "journalAnew", named := ["usance/wire.nibbles"], apart := false, laid := [("usance/wire.nibbles", laid_usance_wire_nibbles)], narrowed := true }
def JournalAnewUptoSaid : Prop := journalAnewUptoRow.holds Tryd.pinned (OpenSpec.upto journalAnewSpec)

end Rows
end Go.Proofs.YtoonlihacbbfdaaDoor
