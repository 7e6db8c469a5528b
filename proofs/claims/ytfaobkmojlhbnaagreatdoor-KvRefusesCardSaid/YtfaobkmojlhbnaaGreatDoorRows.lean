/-
  NARROWER THAN 'FOR EVERY INPUT', by the rows' own cells (each row's printed sentence says how): KvLasts: laid · KvAnew: laid · KvCuts: laid · KvApart: laid · KvPlays: laid · KvRefuses: laid · KvTells: laid.
  DERIVED. THE GIVEN ROWS OF THIS SEAT. 7 by the template 'for every input the law returns true; each argument reads behind the call as it read before'; 0 by the template 'total and deterministic' (their statements: YtfaobkmojlhbnaaGreatDoorTotals.lean).
  GIVEN WITH THE SEED: the statements are not yours to turn. If you find one false, say at which input.
  Laid BY PROGRAM, IN A SANDBOX (cutbox-rows.mjs): the forced cells as the released guide's own fill.sh prints them over the translation 20a81643871a7edc… (all of the seat's roots in one cut). By AI agents, Wed Nov 11 2026. No macro, syntax, notation, axiom, sorry.
-/
import Derived.Test.YtfaobkmojlhbnaaGreatDoorChecked
import GoSem.Claim
import GoSem.ClaimJoined
import GoSem.ClaimMapViews
import Derived.JoinedTies
import Derived.KernelRfl
namespace Go.Proofs.YtfaobkmojlhbnaaGreatDoor
/- THE CELL 'sum', in the pinned program and in every row, IS THE sha256 OF THE DUMP (.gsa) THAT YtfaobkmojlhbnaaGreatDoorProg.lean LOADS. Nothing in Lean hashes anything: it is a label: what it is worth is what the hold of that sum in a sandbox is worth. -/
noncomputable def Tryz.pinned : Pinned := { name := "ytfaobkmojlhbnaagreatdoor", sum := "20a81643871a7edc181c9c90a43376bb0382c22042709009a229c70553c246c2", checked := Tryz.checked }
namespace Rows
def none {H : Type} : Left H := { results := [], args := [] }

/- WHAT THE LISTED PACKAGE-LEVEL VARIABLES READ AS WHEN THE CALL BEGINS. Each datum BY PROGRAM (the guide's laid-datum.mjs) off the statement by which the dump's own 'gosem.cut.vars' lays the variable. In a bare row this is a premise. The card (YtfaobkmojlhbnaaGreatDoorCards.lean) ties it to the program's text. -/
def laid_usance_wire_nibbles {H : Type} : DataW H := .agg [.lit (.int .u32 0), .lit (.int .u32 498536548), .lit (.int .u32 997073096), .lit (.int .u32 651767980), .lit (.int .u32 1994146192), .lit (.int .u32 1802195444), .lit (.int .u32 1303535960), .lit (.int .u32 1342533948), .lit (.int .u32 3988292384), .lit (.int .u32 4027552580), .lit (.int .u32 3604390888), .lit (.int .u32 3412177804), .lit (.int .u32 2607071920), .lit (.int .u32 2262029012), .lit (.int .u32 2685067896), .lit (.int .u32 3183342108)]

/-- 'usancelaw12.KvLasts': WHATEVER THE INPUT: true; the input reads as it did. -/
def kvLastsSpec : ChangeSpec := { name := "kvLasts", fn := fun _ => fun
  | [d1, d2] => { results := [.lit (.bool true)], args := [d1, d2] }
  | _ => none }
def kvLastsRow : OpenClaim := { program := "ytfaobkmojlhbnaagreatdoor", sum := "20a81643871a7edc181c9c90a43376bb0382c22042709009a229c70553c246c2", func := "usance/usancelaw12.KvLasts", spec := "kvLasts", inPlace := ["slices.overlaps[usance/btree.entry]"], unfollowed := true, recurses := true, named := ["usance/wire.nibbles"], plainKeys := false, apart := false, laid := [("usance/wire.nibbles", laid_usance_wire_nibbles)] }
def KvLastsSaid : Prop := kvLastsRow.holds Tryz.pinned (OpenSpec.ofChange kvLastsSpec)

/-- ITS FALSE NEIGHBOUR: 'it returns false'. Refute it at one input. -/
def kvLastsWrong : ChangeSpec := { name := "kvLasts", fn := fun _ => fun
  | [d1, d2] => { results := [.lit (.bool false)], args := [d1, d2] }
  | _ => none }
def KvLastsWrongFalsely : Prop := kvLastsRow.holds Tryz.pinned (OpenSpec.ofChange kvLastsWrong)

/-- 'usancelaw12.KvAnew': WHATEVER THE INPUT: true; the input reads as it did. -/
def kvAnewSpec : ChangeSpec := { name := "kvAnew", fn := fun _ => fun
  | [d1, d2, d3] => { results := [.lit (.bool true)], args := [d1, d2, d3] }
  | _ => none }
def kvAnewRow : OpenClaim := { program := "ytfaobkmojlhbnaagreatdoor", sum := "20a81643871a7edc181c9c90a43376bb0382c22042709009a229c70553c246c2", func := "usance/usancelaw12.KvAnew", spec := "kvAnew", inPlace := ["slices.overlaps[usance/btree.entry]"], unfollowed := true, recurses := true, named := ["usance/wire.nibbles"], plainKeys := false, apart := false, laid := [("usance/wire.nibbles", laid_usance_wire_nibbles)] }
def KvAnewSaid : Prop := kvAnewRow.holds Tryz.pinned (OpenSpec.ofChange kvAnewSpec)

/-- ITS FALSE NEIGHBOUR: 'it returns false'. Refute it at one input. -/
def kvAnewWrong : ChangeSpec := { name := "kvAnew", fn := fun _ => fun
  | [d1, d2, d3] => { results := [.lit (.bool false)], args := [d1, d2, d3] }
  | _ => none }
def KvAnewWrongFalsely : Prop := kvAnewRow.holds Tryz.pinned (OpenSpec.ofChange kvAnewWrong)

/-- 'usancelaw12.KvCuts': WHATEVER THE INPUT: true; the input reads as it did. -/
def kvCutsSpec : ChangeSpec := { name := "kvCuts", fn := fun _ => fun
  | [d1, d2, d3] => { results := [.lit (.bool true)], args := [d1, d2, d3] }
  | _ => none }
def kvCutsRow : OpenClaim := { program := "ytfaobkmojlhbnaagreatdoor", sum := "20a81643871a7edc181c9c90a43376bb0382c22042709009a229c70553c246c2", func := "usance/usancelaw12.KvCuts", spec := "kvCuts", inPlace := ["slices.overlaps[usance/btree.entry]"], unfollowed := true, recurses := true, named := ["usance/wire.nibbles"], plainKeys := false, apart := false, laid := [("usance/wire.nibbles", laid_usance_wire_nibbles)] }
def KvCutsSaid : Prop := kvCutsRow.holds Tryz.pinned (OpenSpec.ofChange kvCutsSpec)

/-- ITS FALSE NEIGHBOUR: 'it returns false'. Refute it at one input. -/
def kvCutsWrong : ChangeSpec := { name := "kvCuts", fn := fun _ => fun
  | [d1, d2, d3] => { results := [.lit (.bool false)], args := [d1, d2, d3] }
  | _ => none }
def KvCutsWrongFalsely : Prop := kvCutsRow.holds Tryz.pinned (OpenSpec.ofChange kvCutsWrong)

/-- 'usancelaw12.KvApart': WHATEVER THE INPUT: true; the input reads as it did. -/
def kvApartSpec : ChangeSpec := { name := "kvApart", fn := fun _ => fun
  | [d1, d2, d3, d4, d5] => { results := [.lit (.bool true)], args := [d1, d2, d3, d4, d5] }
  | _ => none }
def kvApartRow : OpenClaim := { program := "ytfaobkmojlhbnaagreatdoor", sum := "20a81643871a7edc181c9c90a43376bb0382c22042709009a229c70553c246c2", func := "usance/usancelaw12.KvApart", spec := "kvApart", inPlace := ["slices.overlaps[usance/btree.entry]"], unfollowed := true, recurses := true, named := ["usance/wire.nibbles"], plainKeys := false, apart := false, laid := [("usance/wire.nibbles", laid_usance_wire_nibbles)] }
def KvApartSaid : Prop := kvApartRow.holds Tryz.pinned (OpenSpec.ofChange kvApartSpec)

/-- ITS FALSE NEIGHBOUR: 'it returns false'. Refute it at one input. -/
def kvApartWrong : ChangeSpec := { name := "kvApart", fn := fun _ => fun
  | [d1, d2, d3, d4, d5] => { results := [.lit (.bool false)], args := [d1, d2, d3, d4, d5] }
  | _ => none }
def KvApartWrongFalsely : Prop := kvApartRow.holds Tryz.pinned (OpenSpec.ofChange kvApartWrong)

/-- 'usancelaw12.KvPlays': WHATEVER THE INPUT: true; the input reads as it did. -/
def kvPlaysSpec : ChangeSpec := { name := "kvPlays", fn := fun _ => fun
  | [d1, d2] => { results := [.lit (.bool true)], args := [d1, d2] }
  | _ => none }
def kvPlaysRow : OpenClaim := { program := "ytfaobkmojlhbnaagreatdoor", sum := "20a81643871a7edc181c9c90a43376bb0382c22042709009a229c70553c246c2", func := "usance/usancelaw12.KvPlays", spec := "kvPlays", inPlace := ["slices.overlaps[usance/btree.entry]"], unfollowed := true, recurses := true, named := ["usance/wire.nibbles"], plainKeys := false, apart := false, laid := [("usance/wire.nibbles", laid_usance_wire_nibbles)] }
def KvPlaysSaid : Prop := kvPlaysRow.holds Tryz.pinned (OpenSpec.ofChange kvPlaysSpec)

/-- ITS FALSE NEIGHBOUR: 'it returns false'. Refute it at one input. -/
def kvPlaysWrong : ChangeSpec := { name := "kvPlays", fn := fun _ => fun
  | [d1, d2] => { results := [.lit (.bool false)], args := [d1, d2] }
  | _ => none }
def KvPlaysWrongFalsely : Prop := kvPlaysRow.holds Tryz.pinned (OpenSpec.ofChange kvPlaysWrong)

/-- 'usancelaw12.KvRefuses': WHATEVER THE INPUT: true; the input reads as it did. -/
def kvRefusesSpec : ChangeSpec := { name := "kvRefuses", fn := fun _ => fun
  | [d1, d2, d3, d4] => { results := [.lit (.bool true)], args := [d1, d2, d3, d4] }
  | _ => none }
def kvRefusesRow : OpenClaim := { program := "ytfaobkmojlhbnaagreatdoor", sum := "20a81643871a7edc181c9c90a43376bb0382c22042709009a229c70553c246c2", func := "usance/usancelaw12.KvRefuses", spec := "kvRefuses", inPlace := ["slices.overlaps[usance/btree.entry]"], unfollowed := true, recurses := true, named := ["usance/wire.nibbles"], plainKeys := false, apart := false, laid := [("usance/wire.nibbles", laid_usance_wire_nibbles)] }
def KvRefusesSaid : Prop := kvRefusesRow.holds Tryz.pinned (OpenSpec.ofChange kvRefusesSpec)

/-- ITS FALSE NEIGHBOUR: 'it returns false'. Refute it at one input. -/
def kvRefusesWrong : ChangeSpec := { name := "kvRefuses", fn := fun _ => fun
  | [d1, d2, d3, d4] => { results := [.lit (.bool false)], args := [d1, d2, d3, d4] }
  | _ => none }
def KvRefusesWrongFalsely : Prop := kvRefusesRow.holds Tryz.pinned (OpenSpec.ofChange kvRefusesWrong)

/-- 'usancelaw12.KvTells': WHATEVER THE INPUT: true; the input reads as it did. -/
def kvTellsSpec : ChangeSpec := { name := "kvTells", fn := fun _ => fun
  | [d1, d2, d3, d4, d5] => { results := [.lit (.bool true)], args := [d1, d2, d3, d4, d5] }
  | _ => none }
def kvTellsRow : OpenClaim := { program := "ytfaobkmojlhbnaagreatdoor", sum := "20a81643871a7edc181c9c90a43376bb0382c22042709009a229c70553c246c2", func := "usance/usancelaw12.KvTells", spec := "kvTells", inPlace := ["slices.overlaps[usance/btree.entry]"], unfollowed := true, recurses := true, named := ["usance/wire.nibbles"], plainKeys := false, apart := false, laid := [("usance/wire.nibbles", laid_usance_wire_nibbles)] }
def KvTellsSaid : Prop := kvTellsRow.holds Tryz.pinned (OpenSpec.ofChange kvTellsSpec)

/-- ITS FALSE NEIGHBOUR: 'it returns false'. Refute it at one input. -/
def kvTellsWrong : ChangeSpec := { name := "kvTells", fn := fun _ => fun
  | [d1, d2, d3, d4, d5] => { results := [.lit (.bool false)], args := [d1, d2, d3, d4, d5] }
  | _ => none }
def KvTellsWrongFalsely : Prop := kvTellsRow.holds Tryz.pinned (OpenSpec.ofChange kvTellsWrong)

/- THE SECOND FORM. 'bulk': how many values and letters a reading holds, each counted each time it is reached (what is shared counts as often as it is met; a slice's spare places count too). A statement '..UptoSaid' is the law's where the arguments, and the package variables that the reading takes, are together of bulk at most 1048576: NARROWER than '..Said'. Prove '..Said' where nothing that the law and all that it calls make is longer than what came in: it says more and counts as full. Else prove '..UptoSaid'. A law counts once. -/
mutual
def uptoBulk {H : Type} : DataW H → Nat
  | .lit (.string bytes) => bytes.length + 1
  | .lit _ => 1
  | .nil => 1
  | .ptr d => uptoBulk d + 1
  | .slice elems spare => uptoBulkAll elems + uptoBulkAll spare + 1
  | .agg parts => uptoBulkAll parts + 1
  | .iface _ d => uptoBulk d + 1
  | .map entries => uptoBulkEntries entries + 1
  | .held _ => 1
def uptoBulkAll {H : Type} : List (DataW H) → Nat
  | [] => 0
  | d :: r => uptoBulk d + uptoBulkAll r
def uptoBulkEntries {H : Type} : List (Lit × DataW H) → Nat
  | [] => 0
  | x :: r => uptoBulkEntry x + uptoBulkEntries r
def uptoBulkEntry {H : Type} : Lit × DataW H → Nat
  | (.string bytes, d) => bytes.length + uptoBulk d + 1
  | (_, d) => uptoBulk d + 1
 end
def uptoSmall : (H : Type) → List (DataW H) → Bool := fun _ ds => decide (uptoBulkAll ds ≤ 1048576)
def OpenSpec.upto (s : _root_.Go.ChangeSpec) : _root_.Go.OpenSpec := { _root_.Go.OpenSpec.ofChange s with cond := some uptoSmall }

/-- 'usancelaw12.KvLasts', WHERE WHAT IT READS IS OF BULK AT MOST 1048576: true; the input reads as it did. -/
def kvLastsUptoRow : OpenClaim := { program := "ytfaobkmojlhbnaagreatdoor", sum := "20a81643871a7edc181c9c90a43376bb0382c22042709009a229c70553c246c2", func := "usance/usancelaw12.KvLasts", spec := "kvLasts", inPlace := ["slices.overlaps[usance/btree.entry]"], unfollowed := true, recurses := true, named := ["usance/wire.nibbles"], plainKeys := false, apart := false, laid := [("usance/wire.nibbles", laid_usance_wire_nibbles)], narrowed := true }
def KvLastsUptoSaid : Prop := kvLastsUptoRow.holds Tryz.pinned (OpenSpec.upto kvLastsSpec)

/-- 'usancelaw12.KvAnew', WHERE WHAT IT READS IS OF BULK AT MOST 1048576: true; the input reads as it did. -/
def kvAnewUptoRow : OpenClaim := { program := "ytfaobkmojlhbnaagreatdoor", sum := "20a81643871a7edc181c9c90a43376bb0382c22042709009a229c70553c246c2", func := "usance/usancelaw12.KvAnew", spec := "kvAnew", inPlace := ["slices.overlaps[usance/btree.entry]"], unfollowed := true, recurses := true, named := ["usance/wire.nibbles"], plainKeys := false, apart := false, laid := [("usance/wire.nibbles", laid_usance_wire_nibbles)], narrowed := true }
def KvAnewUptoSaid : Prop := kvAnewUptoRow.holds Tryz.pinned (OpenSpec.upto kvAnewSpec)

/-- 'usancelaw12.KvCuts', WHERE WHAT IT READS IS OF BULK AT MOST 1048576: true; the input reads as it did. -/
def kvCutsUptoRow : OpenClaim := { program := "ytfaobkmojlhbnaagreatdoor", sum := "20a81643871a7edc181c9c90a43376bb0382c22042709009a229c70553c246c2", func := "usance/usancelaw12.KvCuts", spec := "kvCuts", inPlace := ["slices.overlaps[usance/btree.entry]"], unfollowed := true, recurses := true, named := ["usance/wire.nibbles"], plainKeys := false, apart := false, laid := [("usance/wire.nibbles", laid_usance_wire_nibbles)], narrowed := true }
def KvCutsUptoSaid : Prop := kvCutsUptoRow.holds Tryz.pinned (OpenSpec.upto kvCutsSpec)

/-- 'usancelaw12.KvApart', WHERE WHAT IT READS IS OF BULK AT MOST 1048576: true; the input reads as it did. -/
def kvApartUptoRow : OpenClaim := { program := "ytfaobkmojlhbnaagreatdoor", sum := "20a81643871a7edc181c9c90a43376bb0382c22042709009a229c70553c246c2", func := "usance/usancelaw12.KvApart", spec := "kvApart", inPlace := ["slices.overlaps[usance/btree.entry]"], unfollowed := true, recurses := true, named := ["usance/wire.nibbles"], plainKeys := false, apart := false, laid := [("usance/wire.nibbles", laid_usance_wire_nibbles)], narrowed := true }
def KvApartUptoSaid : Prop := kvApartUptoRow.holds Tryz.pinned (OpenSpec.upto kvApartSpec)

/-- 'usancelaw12.KvPlays', WHERE WHAT IT READS IS OF BULK AT MOST 1048576: true; the input reads as it did. -/
def kvPlaysUptoRow : OpenClaim := { program := "ytfaobkmojlhbnaagreatdoor", sum := "20a81643871a7edc181c9c90a43376bb0382c22042709009a229c70553c246c2", func := "usance/usancelaw12.KvPlays", spec := "kvPlays", inPlace := ["slices.overlaps[usance/btree.entry]"], unfollowed := true, recurses := true, named := ["usance/wire.nibbles"], plainKeys := false, apart := false, laid := [("usance/wire.nibbles", laid_usance_wire_nibbles)], narrowed := true }
def KvPlaysUptoSaid : Prop := kvPlaysUptoRow.holds Tryz.pinned (OpenSpec.upto kvPlaysSpec)

/-- 'usancelaw12.KvRefuses', WHERE WHAT IT READS IS OF BULK AT MOST 1048576: true; the input reads as it did. -/
def kvRefusesUptoRow : OpenClaim := { program := "ytfaobkmojlhbnaagreatdoor", sum := "20a81643871a7edc181c9c90a43376bb0382c22042709009a229c70553c246c2", func := "usance/usancelaw12.KvRefuses", spec := "kvRefuses", inPlace := ["slices.overlaps[usance/btree.entry]"], unfollowed := true, recurses := true, named := ["usance/wire.nibbles"], plainKeys := false, apart := false, laid := [("usance/wire.nibbles", laid_usance_wire_nibbles)], narrowed := true }
def KvRefusesUptoSaid : Prop := kvRefusesUptoRow.holds Tryz.pinned (OpenSpec.upto kvRefusesSpec)

/-- 'usancelaw12.KvTells', WHERE WHAT IT READS IS OF BULK AT MOST 1048576: true; the input reads as it did. -/
def kvTellsUptoRow : OpenClaim := { program := "ytfaobkmojlhbnaagreatdoor", sum := "20a81643871a7edc181c9c90a43376bb0382c22042709009a229c70553c246c2", func := "usance/usancelaw12.KvTells", spec := "kvTells", inPlace := ["slices.overlaps[usance/btree.entry]"], unfollowed := true, recurses := true, named := ["usance/wire.nibbles"], plainKeys := false, apart := false, laid := [("usance/wire.nibbles", laid_usance_wire_nibbles)], narrowed := true }
def KvTellsUptoSaid : Prop := kvTellsUptoRow.holds Tryz.pinned (OpenSpec.upto kvTellsSpec)

end Rows
end Go.Proofs.YtfaobkmojlhbnaaGreatDoor
