/-
  NARROWER THAN 'FOR EVERY INPUT', by the rows' own cells (each row's printed sentence says how): PagerOnce: laid · PagerGives: laid · PagerPlays: laid · PagerAnew: laid · PagerStays: laid.
  DERIVED. THE GIVEN ROWS OF THIS SEAT. 5 by the template 'for every input the law returns true; each argument reads behind the call as it read before'; 0 by the template 'total and deterministic' (their statements: YtbmmcaoifkboiaaDoorTotals.lean).
  GIVEN WITH THE SEED: the statements are not yours to turn. If you find one false, say at which input.
  Laid BY PROGRAM, IN A SANDBOX (cutbox-rows.mjs): the forced cells as the released guide's own fill.sh prints them over the translation 164fa1c33e8e9727… (all of the seat's roots in one cut). By AI agents, Wed Nov 11 2026. No macro, syntax, notation, axiom, sorry.
-/
import Derived.Test.YtbmmcaoifkboiaaDoorChecked
import GoSem.Claim
import GoSem.ClaimJoined
import GoSem.ClaimMapViews
import Derived.JoinedTies
import Derived.KernelRfl
namespace Go.Proofs.YtbmmcaoifkboiaaDoor
/- THE CELL 'sum', in the pinned program and in every row, IS THE sha256 OF THE DUMP (.gsa) THAT YtbmmcaoifkboiaaDoorProg.lean LOADS. Nothing in Lean hashes anything: it is a label: what it is worth is what the hold of that sum in a sandbox is worth. -/
noncomputable def Tryd.pinned : Pinned := { name := "ytbmmcaoifkboiaadoor", sum := "164fa1c33e8e9727afc45667efa1a6cb9702f3a69272b346b719997ce8a3a95d", checked := Tryd.checked }
namespace Rows
def none {H : Type} : Left H := { results := [], args := [] }

/- WHAT THE LISTED PACKAGE-LEVEL VARIABLES READ AS WHEN THE CALL BEGINS. Each datum BY PROGRAM (the guide's laid-datum.mjs) off the statement by which the dump's own 'gosem.cut.vars' lays the variable. In a bare row this is a premise. The card (YtbmmcaoifkboiaaDoorCards.lean) ties it to the program's text. -/
def laid_usance_wire_nibbles {H : Type} : DataW H := .agg [.lit (.int .u32 0), .lit (.int .u32 498536548), .lit (.int .u32 997073096), .lit (.int .u32 651767980), .lit (.int .u32 1994146192), .lit (.int .u32 1802195444), .lit (.int .u32 1303535960), .lit (.int .u32 1342533948), .lit (.int .u32 3988292384), .lit (.int .u32 4027552580), .lit (.int .u32 3604390888), .lit (.int .u32 3412177804), .lit (.int .u32 2607071920), .lit (.int .u32 2262029012), .lit (.int .u32 2685067896), .lit (.int .u32 3183342108)]

/-- 'usancelaw08.PagerOnce': WHATEVER THE INPUT: true; the input reads as it did. -/
def pagerOnceSpec : ChangeSpec := { name := "pagerOnce", fn := fun _ => fun
  | [d1, d2] => { results := [.lit (.bool true)], args := [d1, d2] }
  | _ => none }
def pagerOnceRow : OpenClaim := { program := "ytbmmcaoifkboiaadoor", sum := "164fa1c33e8e9727afc45667efa1a6cb9702f3a69272b346b719997ce8a3a95d", func := "usance/usancelaw08.PagerOnce", spec := "pagerOnce", unfollowed := true, recurses := true, named := ["usance/wire.nibbles"], apart := false, laid := [("usance/wire.nibbles", laid_usance_wire_nibbles)] }
def PagerOnceSaid : Prop := pagerOnceRow.holds Tryd.pinned (OpenSpec.ofChange pagerOnceSpec)

/-- ITS FALSE NEIGHBOUR: 'it returns false'. Refute it at one input. -/
def pagerOnceWrong : ChangeSpec := { name := "pagerOnce", fn := fun _ => fun
  | [d1, d2] => { results := [.lit (.bool false)], args := [d1, d2] }
  | _ => none }
def PagerOnceWrongFalsely : Prop := pagerOnceRow.holds Tryd.pinned (OpenSpec.ofChange pagerOnceWrong)

/-- 'usancelaw08.PagerGives': WHATEVER THE INPUT: true; the input reads as it did. -/
def pagerGivesSpec : ChangeSpec := { name := "pagerGives", fn := fun _ => fun
  | [d1, d2, d3] => { results := [.lit (.bool true)], args := [d1, d2, d3] }
  | _ => none }
def pagerGivesRow : OpenClaim := { program := "ytbmmcaoifkboiaadoor", sum := "164fa1c33e8e9727afc45667efa1a6cb9702f3a69272b346b719997ce8a3a95d", func := "usance/usancelaw08.PagerGives", spec := "pagerGives", unfollowed := true, recurses := true, named := ["usance/wire.nibbles"], apart := false, laid := [("usance/wire.nibbles", laid_usance_wire_nibbles)] }
def PagerGivesSaid : Prop := pagerGivesRow.holds Tryd.pinned (OpenSpec.ofChange pagerGivesSpec)

/-- ITS FALSE NEIGHBOUR: 'it returns false'. Refute it at one input. -/
def pagerGivesWrong : ChangeSpec := { name := "pagerGives", fn := fun _ => fun
  | [d1, d2, d3] => { results := [.lit (.bool false)], args := [d1, d2, d3] }
  | _ => none }
def PagerGivesWrongFalsely : Prop := pagerGivesRow.holds Tryd.pinned (OpenSpec.ofChange pagerGivesWrong)

/-- 'usancelaw08.PagerPlays': WHATEVER THE INPUT: true; the input reads as it did. -/
def pagerPlaysSpec : ChangeSpec := { name := "pagerPlays", fn := fun _ => fun
  | [d1, d2] => { results := [.lit (.bool true)], args := [d1, d2] }
  | _ => none }
def pagerPlaysRow : OpenClaim := { program := "ytbmmcaoifkboiaadoor", sum := "164fa1c33e8e9727afc45667efa1a6cb9702f3a69272b346b719997ce8a3a95d", func := "usance/usancelaw08.PagerPlays", spec := "pagerPlays", unfollowed := true, recurses := true, named := ["usance/wire.nibbles"], apart := false, laid := [("usance/wire.nibbles", laid_usance_wire_nibbles)] }
def PagerPlaysSaid : Prop := pagerPlaysRow.holds Tryd.pinned (OpenSpec.ofChange pagerPlaysSpec)

/-- ITS FALSE NEIGHBOUR: 'it returns false'. Refute it at one input. -/
def pagerPlaysWrong : ChangeSpec := { name := "pagerPlays", fn := fun _ => fun
  | [d1, d2] => { results := [.lit (.bool false)], args := [d1, d2] }
  | _ => none }
def PagerPlaysWrongFalsely : Prop := pagerPlaysRow.holds Tryd.pinned (OpenSpec.ofChange pagerPlaysWrong)

/-- 'usancelaw08.PagerAnew': WHATEVER THE INPUT: true; the input reads as it did. -/
def pagerAnewSpec : ChangeSpec := { name := "pagerAnew", fn := fun _ => fun
  | [d1, d2] => { results := [.lit (.bool true)], args := [d1, d2] }
  | _ => none }
def pagerAnewRow : OpenClaim := { program := "ytbmmcaoifkboiaadoor", sum := "164fa1c33e8e9727afc45667efa1a6cb9702f3a69272b346b719997ce8a3a95d", func := "usance/usancelaw08.PagerAnew", spec := "pagerAnew", unfollowed := true, recurses := true, named := ["usance/wire.nibbles"], apart := false, laid := [("usance/wire.nibbles", laid_usance_wire_nibbles)] }
def PagerAnewSaid : Prop := pagerAnewRow.holds Tryd.pinned (OpenSpec.ofChange pagerAnewSpec)

/-- ITS FALSE NEIGHBOUR: 'it returns false'. Refute it at one input. -/
def pagerAnewWrong : ChangeSpec := { name := "pagerAnew", fn := fun _ => fun
  | [d1, d2] => { results := [.lit (.bool false)], args := [d1, d2] }
  | _ => none }
def PagerAnewWrongFalsely : Prop := pagerAnewRow.holds Tryd.pinned (OpenSpec.ofChange pagerAnewWrong)

/-- 'usancelaw08.PagerStays': WHATEVER THE INPUT: true; the input reads as it did. -/
def pagerStaysSpec : ChangeSpec := { name := "pagerStays", fn := fun _ => fun
  | [d1, d2, d3] => { results := [.lit (.bool true)], args := [d1, d2, d3] }
  | _ => none }
def pagerStaysRow : OpenClaim := { program := "ytbmmcaoifkboiaadoor", sum := "164fa1c33e8e9727afc45667efa1a6cb9702f3a69272b346b719997ce8a3a95d", func := "usance/usancelaw08.PagerStays", spec := "pagerStays", unfollowed := true, recurses := true, named := ["usance/wire.nibbles"], apart := false, laid := [("usance/wire.nibbles", laid_usance_wire_nibbles)] }
def PagerStaysSaid : Prop := pagerStaysRow.holds Tryd.pinned (OpenSpec.ofChange pagerStaysSpec)

/-- ITS FALSE NEIGHBOUR: 'it returns false'. Refute it at one input. -/
def pagerStaysWrong : ChangeSpec := { name := "pagerStays", fn := fun _ => fun
  | [d1, d2, d3] => { results := [.lit (.bool false)], args := [d1, d2, d3] }
  | _ => none }
def PagerStaysWrongFalsely : Prop := pagerStaysRow.holds Tryd.pinned (OpenSpec.ofChange pagerStaysWrong)

/- THE SECOND FORM. 'bulk': how many values and letters a reading holds, each counted each time it is reached (what is shared counts as often as it is met; a slice's spare places count too). A statement '..UptoSaid' is the law's where the arguments, and the package variables that the reading takes, are together of bulk at most 1048576: NARROWER than '..Said'. Prove '..Said' where nothing that the law and all that it calls make is longer than what came in: it says more and counts as full. Else prove '..UptoSaid'. A law counts once. -/
mutual
def uptoBulk {H : Type} : DataW H → Nat
  | .lit (.string bytes) => bytes.length + 1
  | .lit _ => 1
  | .nil => 1
  | .ptr d => uptoBulk d + 1
  | .slice elems spare => uptoBulkAll elems + uptoBulkAll spare + 1
  | .agg parts => uptoBulkAll parts + 1
  | .iface _ d => uptoBulk d + 1
  | .map entries => uptoBulkEntries entries + 1
  | .held _ => 1
def uptoBulkAll {H : Type} : List (DataW H) → Nat
  | [] => 0
  | d :: r => uptoBulk d + uptoBulkAll r
def uptoBulkEntries {H : Type} : List (Lit × DataW H) → Nat
  | [] => 0
  | x :: r => uptoBulkEntry x + uptoBulkEntries r
def uptoBulkEntry {H : Type} : Lit × DataW H → Nat
  | (.string bytes, d) => bytes.length + uptoBulk d + 1
  | (_, d) => uptoBulk d + 1
 end
def uptoSmall : (H : Type) → List (DataW H) → Bool := fun _ ds => decide (uptoBulkAll ds ≤ 1048576)
def OpenSpec.upto (s : _root_.Go.ChangeSpec) : _root_.Go.OpenSpec := { _root_.Go.OpenSpec.ofChange s with cond := some uptoSmall }

/-- 'usancelaw08.PagerOnce', WHERE WHAT IT READS IS OF BULK AT MOST 1048576: true; the input reads as it did. -/
def pagerOnceUptoRow : OpenClaim := { program := "ytbmmcaoifkboiaadoor", sum := "164fa1c33e8e9727afc45667efa1a6cb9702f3a69272b346b719997ce8a3a95d", func := "usance/usancelaw08.PagerOnce", spec := "pagerOnce", unfollowed := true, recurses := true, named := ["usance/wire.nibbles"], apart := false, laid := [("usance/wire.nibbles", laid_usance_wire_nibbles)], narrowed := true }
def PagerOnceUptoSaid : Prop := pagerOnceUptoRow.holds Tryd.pinned (OpenSpec.upto pagerOnceSpec)

/-- 'usancelaw08.PagerGives', WHERE WHAT IT READS IS OF BULK AT MOST 1048576: true; the input reads as it did. -/
def pagerGivesUptoRow : OpenClaim := { program := "ytbmmcaoifkboiaadoor", sum := "164fa1c33e8e9727afc45667efa1a6cb9702f3a69272b346b719997ce8a3a95d", func := "usance/usancelaw08.PagerGives", spec := "pagerGives", unfollowed := true, recurses := true, named := ["usance/wire.nibbles"], apart := false, laid := [("usance/wire.nibbles", laid_usance_wire_nibbles)], narrowed := true }
def PagerGivesUptoSaid : Prop := pagerGivesUptoRow.holds Tryd.pinned (OpenSpec.upto pagerGivesSpec)

/-- 'usancelaw08.PagerPlays', WHERE WHAT IT READS IS OF BULK AT MOST 1048576: true; the input reads as it did. -/
def pagerPlaysUptoRow : OpenClaim := { program := "ytbmmcaoifkboiaadoor", sum := "164fa1c33e8e9727afc45667efa1a6cb9702f3a69272b346b719997ce8a3a95d", func := "usance/usancelaw08.PagerPlays", spec := "pagerPlays", unfollowed := true, recurses := true, named := ["usance/wire.nibbles"], apart := false, laid := [("usance/wire.nibbles", laid_usance_wire_nibbles)], narrowed := true }
def PagerPlaysUptoSaid : Prop := pagerPlaysUptoRow.holds Tryd.pinned (OpenSpec.upto pagerPlaysSpec)

/-- 'usancelaw08.PagerAnew', WHERE WHAT IT READS IS OF BULK AT MOST 1048576: true; the input reads as it did. -/
def pagerAnewUptoRow : OpenClaim := { program := "ytbmmcaoifkboiaadoor", sum := "164fa1c33e8e9727afc45667efa1a6cb9702f3a69272b346b719997ce8a3a95d", func := "usance/usancelaw08.PagerAnew", spec := "pagerAnew", unfollowed := true, recurses := true, named := ["usance/wire.nibbles"], apart := false, laid := [("usance/wire.nibbles", laid_usance_wire_nibbles)], narrowed := true }
def PagerAnewUptoSaid : Prop := pagerAnewUptoRow.holds Tryd.pinned (OpenSpec.upto pagerAnewSpec)

/-- 'usancelaw08.PagerStays', WHERE WHAT IT READS IS OF BULK AT MOST 1048576: true; the input reads as it did. -/
def pagerStaysUptoRow : OpenClaim := { program := "ytbmmcaoifkboiaadoor", sum := "164fa1c33e8e9727afc45667efa1a6cb9702f3a69272b346b719997ce8a3a95d", func := "usance/usancelaw08.PagerStays", spec := "pagerStays", unfollowed := true, recurses := true, named := ["usance/wire.nibbles"], apart := false, laid := [("usance/wire.nibbles", laid_usance_wire_nibbles)], narrowed := true }
def PagerStaysUptoSaid : Prop := pagerStaysUptoRow.holds Tryd.pinned (OpenSpec.upto pagerStaysSpec)

end Rows
end Go.Proofs.YtbmmcaoifkboiaaDoor
