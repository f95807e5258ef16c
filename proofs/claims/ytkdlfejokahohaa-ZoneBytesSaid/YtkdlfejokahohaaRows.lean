/-
  No cell of these rows narrows 'for every input' (looked for: loops, veiled, ifaces, maps, wideKeys, modest, calm, conditions, laid).
  DERIVED. THE GIVEN ROWS OF THIS SEAT. 12 by the template 'for every input the law returns true; each argument reads behind the call as it read before'; 0 by the template 'total and deterministic' (their statements: YtkdlfejokahohaaTotals.lean).
  GIVEN WITH THE SEED: the statements are not yours to turn. If you find one false, say at which input.
  Laid BY PROGRAM, IN A SANDBOX (cutbox-rows.mjs): the forced cells as the released guide's own fill.sh prints them over the translation 2b451078bf41509c… (all of the seat's roots in one cut). By AI agents, Wed Nov 11 2026. No macro, syntax, notation, axiom, sorry.
-/
import Derived.Test.YtkdlfejokahohaaChecked
import GoSem.Claim
import GoSem.ClaimJoined
import GoSem.ClaimMapViews
import Derived.JoinedTies
import Derived.KernelRfl
namespace Go.Proofs.Ytkdlfejokahohaa
/- THE CELL 'sum', in the pinned program and in every row, IS THE sha256 OF THE DUMP (.gsa) THAT YtkdlfejokahohaaProg.lean LOADS. Nothing in Lean hashes anything: it is a label: what it is worth is what the hold of that sum in a sandbox is worth. -/
noncomputable def Try.pinned : Pinned := { name := "ytkdlfejokahohaa", sum := "2b451078bf41509cfa85df38df4df72ec055cd88656eabc32671d0ed629f8239", checked := Try.checked }
namespace Rows
def none {H : Type} : Left H := { results := [], args := [] }

/-- 'firkinlaw11.ZoneMay': WHATEVER THE INPUT: true; the input reads as it did. -/
def zoneMaySpec : ChangeSpec := { name := "zoneMay", fn := fun _ => fun
  | [d1, d2, d3] => { results := [.lit (.bool true)], args := [d1, d2, d3] }
  | _ => none }
def zoneMayRow : OpenClaim := { program := "ytkdlfejokahohaa", sum := "2b451078bf41509cfa85df38df4df72ec055cd88656eabc32671d0ed629f8239", func := "firkin/firkinlaw11.ZoneMay", spec := "zoneMay", unfollowed := true, recurses := true, apart := false }
def ZoneMaySaid : Prop := zoneMayRow.holds Try.pinned (OpenSpec.ofChange zoneMaySpec)

/-- ITS FALSE NEIGHBOUR: 'it returns false'. Refute it at one input. -/
def zoneMayWrong : ChangeSpec := { name := "zoneMay", fn := fun _ => fun
  | [d1, d2, d3] => { results := [.lit (.bool false)], args := [d1, d2, d3] }
  | _ => none }
def ZoneMayWrongFalsely : Prop := zoneMayRow.holds Try.pinned (OpenSpec.ofChange zoneMayWrong)

/-- 'firkinlaw06.DeltaPuts': WHATEVER THE INPUT: true; the input reads as it did. -/
def deltaPutsSpec : ChangeSpec := { name := "deltaPuts", fn := fun _ => fun
  | [d] => { results := [.lit (.bool true)], args := [d] }
  | _ => none }
def deltaPutsRow : OpenClaim := { program := "ytkdlfejokahohaa", sum := "2b451078bf41509cfa85df38df4df72ec055cd88656eabc32671d0ed629f8239", func := "firkin/firkinlaw06.DeltaPuts", spec := "deltaPuts", unfollowed := true, recurses := true, apart := false }
def DeltaPutsSaid : Prop := deltaPutsRow.holds Try.pinned (OpenSpec.ofChange deltaPutsSpec)

/-- ITS FALSE NEIGHBOUR: 'it returns false'. Refute it at one input. -/
def deltaPutsWrong : ChangeSpec := { name := "deltaPuts", fn := fun _ => fun
  | [d] => { results := [.lit (.bool false)], args := [d] }
  | _ => none }
def DeltaPutsWrongFalsely : Prop := deltaPutsRow.holds Try.pinned (OpenSpec.ofChange deltaPutsWrong)

/-- 'firkinlaw06.DeltaGets': WHATEVER THE INPUT: true; the input reads as it did. -/
def deltaGetsSpec : ChangeSpec := { name := "deltaGets", fn := fun _ => fun
  | [d1, d2] => { results := [.lit (.bool true)], args := [d1, d2] }
  | _ => none }
def deltaGetsRow : OpenClaim := { program := "ytkdlfejokahohaa", sum := "2b451078bf41509cfa85df38df4df72ec055cd88656eabc32671d0ed629f8239", func := "firkin/firkinlaw06.DeltaGets", spec := "deltaGets", unfollowed := true, recurses := true, apart := false }
def DeltaGetsSaid : Prop := deltaGetsRow.holds Try.pinned (OpenSpec.ofChange deltaGetsSpec)

/-- ITS FALSE NEIGHBOUR: 'it returns false'. Refute it at one input. -/
def deltaGetsWrong : ChangeSpec := { name := "deltaGets", fn := fun _ => fun
  | [d1, d2] => { results := [.lit (.bool false)], args := [d1, d2] }
  | _ => none }
def DeltaGetsWrongFalsely : Prop := deltaGetsRow.holds Try.pinned (OpenSpec.ofChange deltaGetsWrong)

/-- 'firkinlaw06.DeltaOne': WHATEVER THE INPUT: true; the input reads as it did. -/
def deltaOneSpec : ChangeSpec := { name := "deltaOne", fn := fun _ => fun
  | [d1, d2, d3] => { results := [.lit (.bool true)], args := [d1, d2, d3] }
  | _ => none }
def deltaOneRow : OpenClaim := { program := "ytkdlfejokahohaa", sum := "2b451078bf41509cfa85df38df4df72ec055cd88656eabc32671d0ed629f8239", func := "firkin/firkinlaw06.DeltaOne", spec := "deltaOne", unfollowed := true, recurses := true, apart := false }
def DeltaOneSaid : Prop := deltaOneRow.holds Try.pinned (OpenSpec.ofChange deltaOneSpec)

/-- ITS FALSE NEIGHBOUR: 'it returns false'. Refute it at one input. -/
def deltaOneWrong : ChangeSpec := { name := "deltaOne", fn := fun _ => fun
  | [d1, d2, d3] => { results := [.lit (.bool false)], args := [d1, d2, d3] }
  | _ => none }
def DeltaOneWrongFalsely : Prop := deltaOneRow.holds Try.pinned (OpenSpec.ofChange deltaOneWrong)

/-- 'firkinlaw01.VintReads': WHATEVER THE INPUT: true; the input reads as it did. -/
def vintReadsSpec : ChangeSpec := { name := "vintReads", fn := fun _ => fun
  | [d1, d2] => { results := [.lit (.bool true)], args := [d1, d2] }
  | _ => none }
def vintReadsRow : OpenClaim := { program := "ytkdlfejokahohaa", sum := "2b451078bf41509cfa85df38df4df72ec055cd88656eabc32671d0ed629f8239", func := "firkin/firkinlaw01.VintReads", spec := "vintReads", apart := false }
def VintReadsSaid : Prop := vintReadsRow.holds Try.pinned (OpenSpec.ofChange vintReadsSpec)

/-- ITS FALSE NEIGHBOUR: 'it returns false'. Refute it at one input. -/
def vintReadsWrong : ChangeSpec := { name := "vintReads", fn := fun _ => fun
  | [d1, d2] => { results := [.lit (.bool false)], args := [d1, d2] }
  | _ => none }
def VintReadsWrongFalsely : Prop := vintReadsRow.holds Try.pinned (OpenSpec.ofChange vintReadsWrong)

/-- 'firkinlaw01.VintBack': WHATEVER THE INPUT: true; the input reads as it did. -/
def vintBackSpec : ChangeSpec := { name := "vintBack", fn := fun _ => fun
  | [d1, d2, d3] => { results := [.lit (.bool true)], args := [d1, d2, d3] }
  | _ => none }
def vintBackRow : OpenClaim := { program := "ytkdlfejokahohaa", sum := "2b451078bf41509cfa85df38df4df72ec055cd88656eabc32671d0ed629f8239", func := "firkin/firkinlaw01.VintBack", spec := "vintBack", inPlace := ["internal/bytealg.MakeNoZero"], apart := false }
def VintBackSaid : Prop := vintBackRow.holds Try.pinned (OpenSpec.ofChange vintBackSpec)

/-- ITS FALSE NEIGHBOUR: 'it returns false'. Refute it at one input. -/
def vintBackWrong : ChangeSpec := { name := "vintBack", fn := fun _ => fun
  | [d1, d2, d3] => { results := [.lit (.bool false)], args := [d1, d2, d3] }
  | _ => none }
def VintBackWrongFalsely : Prop := vintBackRow.holds Try.pinned (OpenSpec.ofChange vintBackWrong)

/-- 'firkinlaw22.FoldValues': WHATEVER THE INPUT: true; the input reads as it did. -/
def foldValuesSpec : ChangeSpec := { name := "foldValues", fn := fun _ => fun
  | [d1, d2, d3] => { results := [.lit (.bool true)], args := [d1, d2, d3] }
  | _ => none }
def foldValuesRow : OpenClaim := { program := "ytkdlfejokahohaa", sum := "2b451078bf41509cfa85df38df4df72ec055cd88656eabc32671d0ed629f8239", func := "firkin/firkinlaw22.FoldValues", spec := "foldValues", unfollowed := true, recurses := true, apart := false }
def FoldValuesSaid : Prop := foldValuesRow.holds Try.pinned (OpenSpec.ofChange foldValuesSpec)

/-- ITS FALSE NEIGHBOUR: 'it returns false'. Refute it at one input. -/
def foldValuesWrong : ChangeSpec := { name := "foldValues", fn := fun _ => fun
  | [d1, d2, d3] => { results := [.lit (.bool false)], args := [d1, d2, d3] }
  | _ => none }
def FoldValuesWrongFalsely : Prop := foldValuesRow.holds Try.pinned (OpenSpec.ofChange foldValuesWrong)

/-- 'firkinlaw22.FoldJoins': WHATEVER THE INPUT: true; the input reads as it did. -/
def foldJoinsSpec : ChangeSpec := { name := "foldJoins", fn := fun _ => fun
  | [d1, d2, d3] => { results := [.lit (.bool true)], args := [d1, d2, d3] }
  | _ => none }
def foldJoinsRow : OpenClaim := { program := "ytkdlfejokahohaa", sum := "2b451078bf41509cfa85df38df4df72ec055cd88656eabc32671d0ed629f8239", func := "firkin/firkinlaw22.FoldJoins", spec := "foldJoins", unfollowed := true, recurses := true, apart := false }
def FoldJoinsSaid : Prop := foldJoinsRow.holds Try.pinned (OpenSpec.ofChange foldJoinsSpec)

/-- ITS FALSE NEIGHBOUR: 'it returns false'. Refute it at one input. -/
def foldJoinsWrong : ChangeSpec := { name := "foldJoins", fn := fun _ => fun
  | [d1, d2, d3] => { results := [.lit (.bool false)], args := [d1, d2, d3] }
  | _ => none }
def FoldJoinsWrongFalsely : Prop := foldJoinsRow.holds Try.pinned (OpenSpec.ofChange foldJoinsWrong)

/-- 'firkinlaw22.FoldOrders': WHATEVER THE INPUT: true; the input reads as it did. -/
def foldOrdersSpec : ChangeSpec := { name := "foldOrders", fn := fun _ => fun
  | [d1, d2] => { results := [.lit (.bool true)], args := [d1, d2] }
  | _ => none }
def foldOrdersRow : OpenClaim := { program := "ytkdlfejokahohaa", sum := "2b451078bf41509cfa85df38df4df72ec055cd88656eabc32671d0ed629f8239", func := "firkin/firkinlaw22.FoldOrders", spec := "foldOrders", unfollowed := true, recurses := true, apart := false }
def FoldOrdersSaid : Prop := foldOrdersRow.holds Try.pinned (OpenSpec.ofChange foldOrdersSpec)

/-- ITS FALSE NEIGHBOUR: 'it returns false'. Refute it at one input. -/
def foldOrdersWrong : ChangeSpec := { name := "foldOrders", fn := fun _ => fun
  | [d1, d2] => { results := [.lit (.bool false)], args := [d1, d2] }
  | _ => none }
def FoldOrdersWrongFalsely : Prop := foldOrdersRow.holds Try.pinned (OpenSpec.ofChange foldOrdersWrong)

/-- 'firkinlaw11.ZoneOf': WHATEVER THE INPUT: true; the input reads as it did. -/
def zoneOfSpec : ChangeSpec := { name := "zoneOf", fn := fun _ => fun
  | [d1, d2, d3] => { results := [.lit (.bool true)], args := [d1, d2, d3] }
  | _ => none }
def zoneOfRow : OpenClaim := { program := "ytkdlfejokahohaa", sum := "2b451078bf41509cfa85df38df4df72ec055cd88656eabc32671d0ed629f8239", func := "firkin/firkinlaw11.ZoneOf", spec := "zoneOf", unfollowed := true, recurses := true, apart := false }
def ZoneOfSaid : Prop := zoneOfRow.holds Try.pinned (OpenSpec.ofChange zoneOfSpec)

/-- ITS FALSE NEIGHBOUR: 'it returns false'. Refute it at one input. -/
def zoneOfWrong : ChangeSpec := { name := "zoneOf", fn := fun _ => fun
  | [d1, d2, d3] => { results := [.lit (.bool false)], args := [d1, d2, d3] }
  | _ => none }
def ZoneOfWrongFalsely : Prop := zoneOfRow.holds Try.pinned (OpenSpec.ofChange zoneOfWrong)

/-- 'firkinlaw09.CellBytes': WHATEVER THE INPUT: true; the input reads as it did. -/
def cellBytesSpec : ChangeSpec := { name := "cellBytes", fn := fun _ => fun
  | [d1, d2, d3] => { results := [.lit (.bool true)], args := [d1, d2, d3] }
  | _ => none }
def cellBytesRow : OpenClaim := { program := "ytkdlfejokahohaa", sum := "2b451078bf41509cfa85df38df4df72ec055cd88656eabc32671d0ed629f8239", func := "firkin/firkinlaw09.CellBytes", spec := "cellBytes", inPlace := ["internal/bytealg.MakeNoZero"], apart := false }
def CellBytesSaid : Prop := cellBytesRow.holds Try.pinned (OpenSpec.ofChange cellBytesSpec)

/-- ITS FALSE NEIGHBOUR: 'it returns false'. Refute it at one input. -/
def cellBytesWrong : ChangeSpec := { name := "cellBytes", fn := fun _ => fun
  | [d1, d2, d3] => { results := [.lit (.bool false)], args := [d1, d2, d3] }
  | _ => none }
def CellBytesWrongFalsely : Prop := cellBytesRow.holds Try.pinned (OpenSpec.ofChange cellBytesWrong)

/-- 'firkinlaw11.ZoneBytes': WHATEVER THE INPUT: true; the input reads as it did. -/
def zoneBytesSpec : ChangeSpec := { name := "zoneBytes", fn := fun _ => fun
  | [d1, d2, d3] => { results := [.lit (.bool true)], args := [d1, d2, d3] }
  | _ => none }
def zoneBytesRow : OpenClaim := { program := "ytkdlfejokahohaa", sum := "2b451078bf41509cfa85df38df4df72ec055cd88656eabc32671d0ed629f8239", func := "firkin/firkinlaw11.ZoneBytes", spec := "zoneBytes", inPlace := ["internal/bytealg.MakeNoZero"], unfollowed := true, recurses := true, apart := false }
def ZoneBytesSaid : Prop := zoneBytesRow.holds Try.pinned (OpenSpec.ofChange zoneBytesSpec)

/-- ITS FALSE NEIGHBOUR: 'it returns false'. Refute it at one input. -/
def zoneBytesWrong : ChangeSpec := { name := "zoneBytes", fn := fun _ => fun
  | [d1, d2, d3] => { results := [.lit (.bool false)], args := [d1, d2, d3] }
  | _ => none }
def ZoneBytesWrongFalsely : Prop := zoneBytesRow.holds Try.pinned (OpenSpec.ofChange zoneBytesWrong)

/- THE SECOND FORM. 'bulk': how many values and letters a reading holds, each counted each time it is reached (what is shared counts as often as it is met; a slice's spare places count too). A statement '..UptoSaid' is the law's where the arguments, and the package variables that the reading takes, are together of bulk at most 1048576: NARROWER than '..Said'. Prove '..Said' where nothing that the law and all that it calls make is longer than what came in: it says more and counts as full. Else prove '..UptoSaid'. A law counts once. -/
mutual
def uptoBulk {H : Type} : DataW H → Nat
  | .lit (.string bytes) => bytes.length + 1
  | .lit _ => 1
  | .nil => 1
  | .ptr d => uptoBulk d + 1
  | .slice elems spare => uptoBulkAll elems + uptoBulkAll spare + 1
  | .agg parts => uptoBulkAll parts + 1
  | .iface _ d => uptoBulk d + 1
  | .map entries => uptoBulkEntries entries + 1
  | .held _ => 1
def uptoBulkAll {H : Type} : List (DataW H) → Nat
  | [] => 0
  | d :: r => uptoBulk d + uptoBulkAll r
def uptoBulkEntries {H : Type} : List (Lit × DataW H) → Nat
  | [] => 0
  | x :: r => uptoBulkEntry x + uptoBulkEntries r
def uptoBulkEntry {H : Type} : Lit × DataW H → Nat
  | (.string bytes, d) => bytes.length + uptoBulk d + 1
  | (_, d) => uptoBulk d + 1
 end
def uptoSmall : (H : Type) → List (DataW H) → Bool := fun _ ds => decide (uptoBulkAll ds ≤ 1048576)
def OpenSpec.upto (s : _root_.Go.ChangeSpec) : _root_.Go.OpenSpec := { _root_.Go.OpenSpec.ofChange s with cond := some uptoSmall }

/-- 'firkinlaw11.ZoneMay', WHERE WHAT IT READS IS OF BULK AT MOST 1048576: true; the input reads as it did. -/
def zoneMayUptoRow : OpenClaim := { program := "ytkdlfejokahohaa", sum := "2b451078bf41509cfa85df38df4df72ec055cd88656eabc32671d0ed629f8239", func := "firkin/firkinlaw11.ZoneMay", spec := "zoneMay", unfollowed := true, recurses := true, apart := false, narrowed := true }
def ZoneMayUptoSaid : Prop := zoneMayUptoRow.holds Try.pinned (OpenSpec.upto zoneMaySpec)

/-- 'firkinlaw06.DeltaPuts', WHERE WHAT IT READS IS OF BULK AT MOST 1048576: true; the input reads as it did. -/
def deltaPutsUptoRow : OpenClaim := { program := "ytkdlfejokahohaa", sum := "2b451078bf41509cfa85df38df4df72ec055cd88656eabc32671d0ed629f8239", func := "firkin/firkinlaw06.DeltaPuts", spec := "deltaPuts", unfollowed := true, recurses := true, apart := false, narrowed := true }
def DeltaPutsUptoSaid : Prop := deltaPutsUptoRow.holds Try.pinned (OpenSpec.upto deltaPutsSpec)

/-- 'firkinlaw06.DeltaGets', WHERE WHAT IT READS IS OF BULK AT MOST 1048576: true; the input reads as it did. -/
def deltaGetsUptoRow : OpenClaim := { program := "ytkdlfejokahohaa", sum := "2b451078bf41509cfa85df38df4df72ec055cd88656eabc32671d0ed629f8239", func := "firkin/firkinlaw06.DeltaGets", spec := "deltaGets", unfollowed := true, recurses := true, apart := false, narrowed := true }
def DeltaGetsUptoSaid : Prop := deltaGetsUptoRow.holds Try.pinned (OpenSpec.upto deltaGetsSpec)

/-- 'firkinlaw06.DeltaOne', WHERE WHAT IT READS IS OF BULK AT MOST 1048576: true; the input reads as it did. -/
def deltaOneUptoRow : OpenClaim := { program := "ytkdlfejokahohaa", sum := "2b451078bf41509cfa85df38df4df72ec055cd88656eabc32671d0ed629f8239", func := "firkin/firkinlaw06.DeltaOne", spec := "deltaOne", unfollowed := true, recurses := true, apart := false, narrowed := true }
def DeltaOneUptoSaid : Prop := deltaOneUptoRow.holds Try.pinned (OpenSpec.upto deltaOneSpec)

/-- 'firkinlaw01.VintReads', WHERE WHAT IT READS IS OF BULK AT MOST 1048576: true; the input reads as it did. -/
def vintReadsUptoRow : OpenClaim := { program := "ytkdlfejokahohaa", sum := "2b451078bf41509cfa85df38df4df72ec055cd88656eabc32671d0ed629f8239", func := "firkin/firkinlaw01.VintReads", spec := "vintReads", apart := false, narrowed := true }
def VintReadsUptoSaid : Prop := vintReadsUptoRow.holds Try.pinned (OpenSpec.upto vintReadsSpec)

/-- 'firkinlaw01.VintBack', WHERE WHAT IT READS IS OF BULK AT MOST 1048576: true; the input reads as it did. -/
def vintBackUptoRow : OpenClaim := { program := "ytkdlfejokahohaa", sum := "2b451078bf41509cfa85df38df4df72ec055cd88656eabc32671d0ed629f8239", func := "firkin/firkinlaw01.VintBack", spec := "vintBack", inPlace := ["internal/bytealg.MakeNoZero"], apart := false, narrowed := true }
def VintBackUptoSaid : Prop := vintBackUptoRow.holds Try.pinned (OpenSpec.upto vintBackSpec)

/-- 'firkinlaw22.FoldValues', WHERE WHAT IT READS IS OF BULK AT MOST 1048576: true; the input reads as it did. -/
def foldValuesUptoRow : OpenClaim := { program := "ytkdlfejokahohaa", sum := "2b451078bf41509cfa85df38df4df72ec055cd88656eabc32671d0ed629f8239", func := "firkin/firkinlaw22.FoldValues", spec := "foldValues", unfollowed := true, recurses := true, apart := false, narrowed := true }
def FoldValuesUptoSaid : Prop := foldValuesUptoRow.holds Try.pinned (OpenSpec.upto foldValuesSpec)

/-- 'firkinlaw22.FoldJoins', WHERE WHAT IT READS IS OF BULK AT MOST 1048576: true; the input reads as it did. -/
def foldJoinsUptoRow : OpenClaim := { program := "ytkdlfejokahohaa", sum := "2b451078bf41509cfa85df38df4df72ec055cd88656eabc32671d0ed629f8239", func := "firkin/firkinlaw22.FoldJoins", spec := "foldJoins", unfollowed := true, recurses := true, apart := false, narrowed := true }
def FoldJoinsUptoSaid : Prop := foldJoinsUptoRow.holds Try.pinned (OpenSpec.upto foldJoinsSpec)

/-- 'firkinlaw22.FoldOrders', WHERE WHAT IT READS IS OF BULK AT MOST 1048576: true; the input reads as it did. -/
def foldOrdersUptoRow : OpenClaim := { program := "ytkdlfejokahohaa", sum := "2b451078bf41509cfa85df38df4df72ec055cd88656eabc32671d0ed629f8239", func := "firkin/firkinlaw22.FoldOrders", spec := "foldOrders", unfollowed := true, recurses := true, apart := false, narrowed := true }
def FoldOrdersUptoSaid : Prop := foldOrdersUptoRow.holds Try.pinned (OpenSpec.upto foldOrdersSpec)

/-- 'firkinlaw11.ZoneOf', WHERE WHAT IT READS IS OF BULK AT MOST 1048576: true; the input reads as it did. -/
def zoneOfUptoRow : OpenClaim := { program := "ytkdlfejokahohaa", sum := "2b451078bf41509cfa85df38df4df72ec055cd88656eabc32671d0ed629f8239", func := "firkin/firkinlaw11.ZoneOf", spec := "zoneOf", unfollowed := true, recurses := true, apart := false, narrowed := true }
def ZoneOfUptoSaid : Prop := zoneOfUptoRow.holds Try.pinned (OpenSpec.upto zoneOfSpec)

/-- 'firkinlaw09.CellBytes', WHERE WHAT IT READS IS OF BULK AT MOST 1048576: true; the input reads as it did. -/
def cellBytesUptoRow : OpenClaim := { program := "ytkdlfejokahohaa", sum := "2b451078bf41509cfa85df38df4df72ec055cd88656eabc32671d0ed629f8239", func := "firkin/firkinlaw09.CellBytes", spec := "cellBytes", inPlace := ["internal/bytealg.MakeNoZero"], apart := false, narrowed := true }
def CellBytesUptoSaid : Prop := cellBytesUptoRow.holds Try.pinned (OpenSpec.upto cellBytesSpec)

/-- 'firkinlaw11.ZoneBytes', WHERE WHAT IT READS IS OF BULK AT MOST 1048576: true; the input reads as it did. -/
def zoneBytesUptoRow : OpenClaim := { program := "ytkdlfejokahohaa", sum := "2b451078bf41509cfa85df38df4df72ec055cd88656eabc32671d0ed629f8239", func := "firkin/firkinlaw11.ZoneBytes", spec := "zoneBytes", inPlace := ["internal/bytealg.MakeNoZero"], unfollowed := true, recurses := true, apart := false, narrowed := true }
def ZoneBytesUptoSaid : Prop := zoneBytesUptoRow.holds Try.pinned (OpenSpec.upto zoneBytesSpec)

end Rows
end Go.Proofs.Ytkdlfejokahohaa
