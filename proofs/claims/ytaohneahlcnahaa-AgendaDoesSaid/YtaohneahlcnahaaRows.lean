/-
  No cell of these rows narrows 'for every input' (looked for: loops, veiled, ifaces, maps, wideKeys, modest, calm, conditions, laid).
  DERIVED. THE GIVEN ROWS OF THIS SEAT. 5 by the template 'for every input the law returns true; each argument reads behind the call as it read before'; 0 by the template 'total and deterministic' (their statements: YtaohneahlcnahaaTotals.lean).
  GIVEN WITH THE SEED: the statements are not yours to turn. If you find one false, say at which input.
  Laid BY PROGRAM, IN A SANDBOX (cutbox-rows.mjs): the forced cells as the released guide's own fill.sh prints them over the translation 2ff69f06dcf8b1d7… (all of the seat's roots in one cut). By AI agents, Wed Nov 11 2026. No macro, syntax, notation, axiom, sorry.
-/
import Derived.Test.YtaohneahlcnahaaChecked
import GoSem.Claim
import GoSem.ClaimJoined
import GoSem.ClaimMapViews
import Derived.JoinedTies
import Derived.KernelRfl
namespace Go.Proofs.Ytaohneahlcnahaa
/- THE CELL 'sum', in the pinned program and in every row, IS THE sha256 OF THE DUMP (.gsa) THAT YtaohneahlcnahaaProg.lean LOADS. Nothing in Lean hashes anything: it is a label: what it is worth is what the hold of that sum in a sandbox is worth. -/
noncomputable def Try.pinned : Pinned := { name := "ytaohneahlcnahaa", sum := "2ff69f06dcf8b1d785f080fac9aebcc807e877310e0ebb9a876d4a0b93ad1b1f", checked := Try.checked }
namespace Rows
def none {H : Type} : Left H := { results := [], args := [] }

/-- 'usancelaw19.AgendaTurns': WHATEVER THE INPUT: true; the input reads as it did. -/
def agendaTurnsSpec : ChangeSpec := { name := "agendaTurns", fn := fun _ => fun
  | [d] => { results := [.lit (.bool true)], args := [d] }
  | _ => none }
def agendaTurnsRow : OpenClaim := { program := "ytaohneahlcnahaa", sum := "2ff69f06dcf8b1d785f080fac9aebcc807e877310e0ebb9a876d4a0b93ad1b1f", func := "usance/usancelaw19.AgendaTurns", spec := "agendaTurns", inPlace := ["slices.overlaps[usance/api.Due]"], unfollowed := true, recurses := true, apart := false }
def AgendaTurnsSaid : Prop := agendaTurnsRow.holds Try.pinned (OpenSpec.ofChange agendaTurnsSpec)

/-- ITS FALSE NEIGHBOUR: 'it returns false'. Refute it at one input. -/
def agendaTurnsWrong : ChangeSpec := { name := "agendaTurns", fn := fun _ => fun
  | [d] => { results := [.lit (.bool false)], args := [d] }
  | _ => none }
def AgendaTurnsWrongFalsely : Prop := agendaTurnsRow.holds Try.pinned (OpenSpec.ofChange agendaTurnsWrong)

/-- 'usancelaw19.AgendaLeft': WHATEVER THE INPUT: true; the input reads as it did. -/
def agendaLeftSpec : ChangeSpec := { name := "agendaLeft", fn := fun _ => fun
  | [d1, d2, d3] => { results := [.lit (.bool true)], args := [d1, d2, d3] }
  | _ => none }
def agendaLeftRow : OpenClaim := { program := "ytaohneahlcnahaa", sum := "2ff69f06dcf8b1d785f080fac9aebcc807e877310e0ebb9a876d4a0b93ad1b1f", func := "usance/usancelaw19.AgendaLeft", spec := "agendaLeft", inPlace := ["slices.overlaps[usance/api.Due]"], unfollowed := true, recurses := true, apart := false }
def AgendaLeftSaid : Prop := agendaLeftRow.holds Try.pinned (OpenSpec.ofChange agendaLeftSpec)

/-- ITS FALSE NEIGHBOUR: 'it returns false'. Refute it at one input. -/
def agendaLeftWrong : ChangeSpec := { name := "agendaLeft", fn := fun _ => fun
  | [d1, d2, d3] => { results := [.lit (.bool false)], args := [d1, d2, d3] }
  | _ => none }
def AgendaLeftWrongFalsely : Prop := agendaLeftRow.holds Try.pinned (OpenSpec.ofChange agendaLeftWrong)

/-- 'usancelaw19.AgendaDrops': WHATEVER THE INPUT: true; the input reads as it did. -/
def agendaDropsSpec : ChangeSpec := { name := "agendaDrops", fn := fun _ => fun
  | [d1, d2, d3] => { results := [.lit (.bool true)], args := [d1, d2, d3] }
  | _ => none }
def agendaDropsRow : OpenClaim := { program := "ytaohneahlcnahaa", sum := "2ff69f06dcf8b1d785f080fac9aebcc807e877310e0ebb9a876d4a0b93ad1b1f", func := "usance/usancelaw19.AgendaDrops", spec := "agendaDrops", inPlace := ["slices.overlaps[usance/api.Due]"], unfollowed := true, recurses := true, apart := false }
def AgendaDropsSaid : Prop := agendaDropsRow.holds Try.pinned (OpenSpec.ofChange agendaDropsSpec)

/-- ITS FALSE NEIGHBOUR: 'it returns false'. Refute it at one input. -/
def agendaDropsWrong : ChangeSpec := { name := "agendaDrops", fn := fun _ => fun
  | [d1, d2, d3] => { results := [.lit (.bool false)], args := [d1, d2, d3] }
  | _ => none }
def AgendaDropsWrongFalsely : Prop := agendaDropsRow.holds Try.pinned (OpenSpec.ofChange agendaDropsWrong)

/-- 'usancelaw19.AgendaDoes': WHATEVER THE INPUT: true; the input reads as it did. -/
def agendaDoesSpec : ChangeSpec := { name := "agendaDoes", fn := fun _ => fun
  | [d1, d2, d3] => { results := [.lit (.bool true)], args := [d1, d2, d3] }
  | _ => none }
def agendaDoesRow : OpenClaim := { program := "ytaohneahlcnahaa", sum := "2ff69f06dcf8b1d785f080fac9aebcc807e877310e0ebb9a876d4a0b93ad1b1f", func := "usance/usancelaw19.AgendaDoes", spec := "agendaDoes", inPlace := ["slices.overlaps[usance/api.Due]"], unfollowed := true, recurses := true, apart := false }
def AgendaDoesSaid : Prop := agendaDoesRow.holds Try.pinned (OpenSpec.ofChange agendaDoesSpec)

/-- ITS FALSE NEIGHBOUR: 'it returns false'. Refute it at one input. -/
def agendaDoesWrong : ChangeSpec := { name := "agendaDoes", fn := fun _ => fun
  | [d1, d2, d3] => { results := [.lit (.bool false)], args := [d1, d2, d3] }
  | _ => none }
def AgendaDoesWrongFalsely : Prop := agendaDoesRow.holds Try.pinned (OpenSpec.ofChange agendaDoesWrong)

/-- 'usancelaw19.AgendaNone': WHATEVER THE INPUT: true; the input reads as it did. -/
def agendaNoneSpec : ChangeSpec := { name := "agendaNone", fn := fun _ => fun
  | [d1, d2] => { results := [.lit (.bool true)], args := [d1, d2] }
  | _ => none }
def agendaNoneRow : OpenClaim := { program := "ytaohneahlcnahaa", sum := "2ff69f06dcf8b1d785f080fac9aebcc807e877310e0ebb9a876d4a0b93ad1b1f", func := "usance/usancelaw19.AgendaNone", spec := "agendaNone", inPlace := ["slices.overlaps[usance/api.Due]"], unfollowed := true, recurses := true, apart := false }
def AgendaNoneSaid : Prop := agendaNoneRow.holds Try.pinned (OpenSpec.ofChange agendaNoneSpec)

/-- ITS FALSE NEIGHBOUR: 'it returns false'. Refute it at one input. -/
def agendaNoneWrong : ChangeSpec := { name := "agendaNone", fn := fun _ => fun
  | [d1, d2] => { results := [.lit (.bool false)], args := [d1, d2] }
  | _ => none }
def AgendaNoneWrongFalsely : Prop := agendaNoneRow.holds Try.pinned (OpenSpec.ofChange agendaNoneWrong)

/- THE SECOND FORM. 'bulk': how many values and letters a reading holds, each counted each time it is reached (what is shared counts as often as it is met; a slice's spare places count too). A statement '..UptoSaid' is the law's where the arguments, and the package variables that the reading takes, are together of bulk at most 1048576: NARROWER than '..Said'. Prove '..Said' where nothing that the law and all that it calls make is longer than what came in: it says more and counts as full. Else prove '..UptoSaid'. A law counts once. -/
mutual
def uptoBulk {H : Type} : DataW H → Nat
  | .lit (.string bytes) => bytes.length + 1
  | .lit _ => 1
  | .nil => 1
  | .ptr d => uptoBulk d + 1
  | .slice elems spare => uptoBulkAll elems + uptoBulkAll spare + 1
  | .agg parts => uptoBulkAll parts + 1
  | .iface _ d => uptoBulk d + 1
  | .map entries => uptoBulkEntries entries + 1
  | .held _ => 1
def uptoBulkAll {H : Type} : List (DataW H) → Nat
  | [] => 0
  | d :: r => uptoBulk d + uptoBulkAll r
def uptoBulkEntries {H : Type} : List (Lit × DataW H) → Nat
  | [] => 0
  | x :: r => uptoBulkEntry x + uptoBulkEntries r
def uptoBulkEntry {H : Type} : Lit × DataW H → Nat
  | (.string bytes, d) => bytes.length + uptoBulk d + 1
  | (_, d) => uptoBulk d + 1
 end
def uptoSmall : (H : Type) → List (DataW H) → Bool := fun _ ds => decide (uptoBulkAll ds ≤ 1048576)
def OpenSpec.upto (s : _root_.Go.ChangeSpec) : _root_.Go.OpenSpec := { _root_.Go.OpenSpec.ofChange s with cond := some uptoSmall }

/-- 'usancelaw19.AgendaTurns', WHERE WHAT IT READS IS OF BULK AT MOST 1048576: true; the input reads as it did. -/
def agendaTurnsUptoRow : OpenClaim := { program := "ytaohneahlcnahaa", sum := "2ff69f06dcf8b1d785f080fac9aebcc807e877310e0ebb9a876d4a0b93ad1b1f", func := "usance/usancelaw19.AgendaTurns", spec := "agendaTurns", inPlace := ["slices.overlaps[usance/api.Due]"], unfollowed := true, recurses := true, apart := false, narrowed := true }
def AgendaTurnsUptoSaid : Prop := agendaTurnsUptoRow.holds Try.pinned (OpenSpec.upto agendaTurnsSpec)

/-- 'usancelaw19.AgendaLeft', WHERE WHAT IT READS IS OF BULK AT MOST 1048576: true; the input reads as it did. -/
def agendaLeftUptoRow : OpenClaim := { program := "ytaohneahlcnahaa", sum := "2ff69f06dcf8b1d785f080fac9aebcc807e877310e0ebb9a876d4a0b93ad1b1f", func := "usance/usancelaw19.AgendaLeft", spec := "agendaLeft", inPlace := ["slices.overlaps[usance/api.Due]"], unfollowed := true, recurses := true, apart := false, narrowed := true }
def AgendaLeftUptoSaid : Prop := agendaLeftUptoRow.holds Try.pinned (OpenSpec.upto agendaLeftSpec)

/-- 'usancelaw19.AgendaDrops', WHERE WHAT IT READS IS OF BULK AT MOST 1048576: true; the input reads as it did. -/
def agendaDropsUptoRow : OpenClaim := { program := "ytaohneahlcnahaa", sum := "2ff69f06dcf8b1d785f080fac9aebcc807e877310e0ebb9a876d4a0b93ad1b1f", func := "usance/usancelaw19.AgendaDrops", spec := "agendaDrops", inPlace := ["slices.overlaps[usance/api.Due]"], unfollowed := true, recurses := true, apart := false, narrowed := true }
def AgendaDropsUptoSaid : Prop := agendaDropsUptoRow.holds Try.pinned (OpenSpec.upto agendaDropsSpec)

/-- 'usancelaw19.AgendaDoes', WHERE WHAT IT READS IS OF BULK AT MOST 1048576: true; the input reads as it did. -/
def agendaDoesUptoRow : OpenClaim := { program := "ytaohneahlcnahaa", sum := "2ff69f06dcf8b1d785f080fac9aebcc807e877310e0ebb9a876d4a0b93ad1b1f", func := "usance/usancelaw19.AgendaDoes", spec := "agendaDoes", inPlace := ["slices.overlaps[usance/api.Due]"], unfollowed := true, recurses := true, apart := false, narrowed := true }
def AgendaDoesUptoSaid : Prop := agendaDoesUptoRow.holds Try.pinned (OpenSpec.upto agendaDoesSpec)

/-- 'usancelaw19.AgendaNone', WHERE WHAT IT READS IS OF BULK AT MOST 1048576: true; the input reads as it did. -/
def agendaNoneUptoRow : OpenClaim := { program := "ytaohneahlcnahaa", sum := "2ff69f06dcf8b1d785f080fac9aebcc807e877310e0ebb9a876d4a0b93ad1b1f", func := "usance/usancelaw19.AgendaNone", spec := "agendaNone", inPlace := ["slices.overlaps[usance/api.Due]"], unfollowed := true, recurses := true, apart := false, narrowed := true }
def AgendaNoneUptoSaid : Prop := agendaNoneUptoRow.holds Try.pinned (OpenSpec.upto agendaNoneSpec)

end Rows
end Go.Proofs.Ytaohneahlcnahaa
