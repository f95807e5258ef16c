/-
  No cell of these rows narrows 'for every input' (looked for: loops, veiled, ifaces, maps, wideKeys, modest, calm, conditions, laid).
  DERIVED. THE GIVEN ROWS OF THIS SEAT. 12 by the template 'for every input the law returns true; each argument reads behind the call as it read before'; 0 by the template 'total and deterministic' (their statements: YtebalgjkabnldaaTotals.lean).
  GIVEN WITH THE SEED: the statements are not yours to turn. If you find one false, say at which input.
  Laid BY PROGRAM, IN A SANDBOX (cutbox-rows.mjs): the forced cells as the released guide's own fill.sh prints them over the translation 35d2cd26d04b004b… (all of the seat's roots in one cut). By AI agents, Wed Nov 11 2026. No macro, syntax, notation, axiom, sorry.
-/
import Derived.Test.YtebalgjkabnldaaChecked
import GoSem.Claim
import GoSem.ClaimJoined
import GoSem.ClaimMapViews
import Derived.JoinedTies
import Derived.KernelRfl
namespace Go.Proofs.Ytebalgjkabnldaa
/- THE CELL 'sum', in the pinned program and in every row, IS THE sha256 OF THE DUMP (.gsa) THAT YtebalgjkabnldaaProg.lean LOADS. Nothing in Lean hashes anything: it is a label: what it is worth is what the hold of that sum in a sandbox is worth. -/
noncomputable def Try.pinned : Pinned := { name := "ytebalgjkabnldaa", sum := "35d2cd26d04b004b698b06d80a21771863496d38888b357648bb1b27dfaa0953", checked := Try.checked }
namespace Rows
def none {H : Type} : Left H := { results := [], args := [] }

/-- 'firkinlaw02.CrcOf': WHATEVER THE INPUT: true; the input reads as it did. -/
def crcOfSpec : ChangeSpec := { name := "crcOf", fn := fun _ => fun
  | [d1, d2] => { results := [.lit (.bool true)], args := [d1, d2] }
  | _ => none }
def crcOfRow : OpenClaim := { program := "ytebalgjkabnldaa", sum := "35d2cd26d04b004b698b06d80a21771863496d38888b357648bb1b27dfaa0953", func := "firkin/firkinlaw02.CrcOf", spec := "crcOf", apart := false }
def CrcOfSaid : Prop := crcOfRow.holds Try.pinned (OpenSpec.ofChange crcOfSpec)

/-- ITS FALSE NEIGHBOUR: 'it returns false'. Refute it at one input. -/
def crcOfWrong : ChangeSpec := { name := "crcOf", fn := fun _ => fun
  | [d1, d2] => { results := [.lit (.bool false)], args := [d1, d2] }
  | _ => none }
def CrcOfWrongFalsely : Prop := crcOfRow.holds Try.pinned (OpenSpec.ofChange crcOfWrong)

/-- 'firkinlaw02.CrcMore': WHATEVER THE INPUT: true; the input reads as it did. -/
def crcMoreSpec : ChangeSpec := { name := "crcMore", fn := fun _ => fun
  | [d] => { results := [.lit (.bool true)], args := [d] }
  | _ => none }
def crcMoreRow : OpenClaim := { program := "ytebalgjkabnldaa", sum := "35d2cd26d04b004b698b06d80a21771863496d38888b357648bb1b27dfaa0953", func := "firkin/firkinlaw02.CrcMore", spec := "crcMore", apart := false }
def CrcMoreSaid : Prop := crcMoreRow.holds Try.pinned (OpenSpec.ofChange crcMoreSpec)

/-- ITS FALSE NEIGHBOUR: 'it returns false'. Refute it at one input. -/
def crcMoreWrong : ChangeSpec := { name := "crcMore", fn := fun _ => fun
  | [d] => { results := [.lit (.bool false)], args := [d] }
  | _ => none }
def CrcMoreWrongFalsely : Prop := crcMoreRow.holds Try.pinned (OpenSpec.ofChange crcMoreWrong)

/-- 'firkinlaw02.CrcTells': WHATEVER THE INPUT: true; the input reads as it did. -/
def crcTellsSpec : ChangeSpec := { name := "crcTells", fn := fun _ => fun
  | [d1, d2, d3] => { results := [.lit (.bool true)], args := [d1, d2, d3] }
  | _ => none }
def crcTellsRow : OpenClaim := { program := "ytebalgjkabnldaa", sum := "35d2cd26d04b004b698b06d80a21771863496d38888b357648bb1b27dfaa0953", func := "firkin/firkinlaw02.CrcTells", spec := "crcTells", apart := false }
def CrcTellsSaid : Prop := crcTellsRow.holds Try.pinned (OpenSpec.ofChange crcTellsSpec)

/-- ITS FALSE NEIGHBOUR: 'it returns false'. Refute it at one input. -/
def crcTellsWrong : ChangeSpec := { name := "crcTells", fn := fun _ => fun
  | [d1, d2, d3] => { results := [.lit (.bool false)], args := [d1, d2, d3] }
  | _ => none }
def CrcTellsWrongFalsely : Prop := crcTellsRow.holds Try.pinned (OpenSpec.ofChange crcTellsWrong)

/-- 'firkinlaw04.BitvPacks': WHATEVER THE INPUT: true; the input reads as it did. -/
def bitvPacksSpec : ChangeSpec := { name := "bitvPacks", fn := fun _ => fun
  | [d] => { results := [.lit (.bool true)], args := [d] }
  | _ => none }
def bitvPacksRow : OpenClaim := { program := "ytebalgjkabnldaa", sum := "35d2cd26d04b004b698b06d80a21771863496d38888b357648bb1b27dfaa0953", func := "firkin/firkinlaw04.BitvPacks", spec := "bitvPacks", apart := false }
def BitvPacksSaid : Prop := bitvPacksRow.holds Try.pinned (OpenSpec.ofChange bitvPacksSpec)

/-- ITS FALSE NEIGHBOUR: 'it returns false'. Refute it at one input. -/
def bitvPacksWrong : ChangeSpec := { name := "bitvPacks", fn := fun _ => fun
  | [d] => { results := [.lit (.bool false)], args := [d] }
  | _ => none }
def BitvPacksWrongFalsely : Prop := bitvPacksRow.holds Try.pinned (OpenSpec.ofChange bitvPacksWrong)

/-- 'firkinlaw04.BitvUnpacks': WHATEVER THE INPUT: true; the input reads as it did. -/
def bitvUnpacksSpec : ChangeSpec := { name := "bitvUnpacks", fn := fun _ => fun
  | [d1, d2] => { results := [.lit (.bool true)], args := [d1, d2] }
  | _ => none }
def bitvUnpacksRow : OpenClaim := { program := "ytebalgjkabnldaa", sum := "35d2cd26d04b004b698b06d80a21771863496d38888b357648bb1b27dfaa0953", func := "firkin/firkinlaw04.BitvUnpacks", spec := "bitvUnpacks", apart := false }
def BitvUnpacksSaid : Prop := bitvUnpacksRow.holds Try.pinned (OpenSpec.ofChange bitvUnpacksSpec)

/-- ITS FALSE NEIGHBOUR: 'it returns false'. Refute it at one input. -/
def bitvUnpacksWrong : ChangeSpec := { name := "bitvUnpacks", fn := fun _ => fun
  | [d1, d2] => { results := [.lit (.bool false)], args := [d1, d2] }
  | _ => none }
def BitvUnpacksWrongFalsely : Prop := bitvUnpacksRow.holds Try.pinned (OpenSpec.ofChange bitvUnpacksWrong)

/-- 'firkinlaw04.BitvCounts': WHATEVER THE INPUT: true; the input reads as it did. -/
def bitvCountsSpec : ChangeSpec := { name := "bitvCounts", fn := fun _ => fun
  | [d1, d2] => { results := [.lit (.bool true)], args := [d1, d2] }
  | _ => none }
def bitvCountsRow : OpenClaim := { program := "ytebalgjkabnldaa", sum := "35d2cd26d04b004b698b06d80a21771863496d38888b357648bb1b27dfaa0953", func := "firkin/firkinlaw04.BitvCounts", spec := "bitvCounts", apart := false }
def BitvCountsSaid : Prop := bitvCountsRow.holds Try.pinned (OpenSpec.ofChange bitvCountsSpec)

/-- ITS FALSE NEIGHBOUR: 'it returns false'. Refute it at one input. -/
def bitvCountsWrong : ChangeSpec := { name := "bitvCounts", fn := fun _ => fun
  | [d1, d2] => { results := [.lit (.bool false)], args := [d1, d2] }
  | _ => none }
def BitvCountsWrongFalsely : Prop := bitvCountsRow.holds Try.pinned (OpenSpec.ofChange bitvCountsWrong)

/-- 'firkinlaw12.SchemaSame': WHATEVER THE INPUT: true; the input reads as it did. -/
def schemaSameSpec : ChangeSpec := { name := "schemaSame", fn := fun _ => fun
  | [d1, d2] => { results := [.lit (.bool true)], args := [d1, d2] }
  | _ => none }
def schemaSameRow : OpenClaim := { program := "ytebalgjkabnldaa", sum := "35d2cd26d04b004b698b06d80a21771863496d38888b357648bb1b27dfaa0953", func := "firkin/firkinlaw12.SchemaSame", spec := "schemaSame", unfollowed := true, recurses := true, apart := false }
def SchemaSameSaid : Prop := schemaSameRow.holds Try.pinned (OpenSpec.ofChange schemaSameSpec)

/-- ITS FALSE NEIGHBOUR: 'it returns false'. Refute it at one input. -/
def schemaSameWrong : ChangeSpec := { name := "schemaSame", fn := fun _ => fun
  | [d1, d2] => { results := [.lit (.bool false)], args := [d1, d2] }
  | _ => none }
def SchemaSameWrongFalsely : Prop := schemaSameRow.holds Try.pinned (OpenSpec.ofChange schemaSameWrong)

/-- 'firkinlaw01.VintOne': WHATEVER THE INPUT: true; the input reads as it did. -/
def vintOneSpec : ChangeSpec := { name := "vintOne", fn := fun _ => fun
  | [d] => { results := [.lit (.bool true)], args := [d] }
  | _ => none }
def vintOneRow : OpenClaim := { program := "ytebalgjkabnldaa", sum := "35d2cd26d04b004b698b06d80a21771863496d38888b357648bb1b27dfaa0953", func := "firkin/firkinlaw01.VintOne", spec := "vintOne", apart := false }
def VintOneSaid : Prop := vintOneRow.holds Try.pinned (OpenSpec.ofChange vintOneSpec)

/-- ITS FALSE NEIGHBOUR: 'it returns false'. Refute it at one input. -/
def vintOneWrong : ChangeSpec := { name := "vintOne", fn := fun _ => fun
  | [d] => { results := [.lit (.bool false)], args := [d] }
  | _ => none }
def VintOneWrongFalsely : Prop := vintOneRow.holds Try.pinned (OpenSpec.ofChange vintOneWrong)

/-- 'firkinlaw12.SchemaChecks': WHATEVER THE INPUT: true; the input reads as it did. -/
def schemaChecksSpec : ChangeSpec := { name := "schemaChecks", fn := fun _ => fun
  | [d1, d2, d3] => { results := [.lit (.bool true)], args := [d1, d2, d3] }
  | _ => none }
def schemaChecksRow : OpenClaim := { program := "ytebalgjkabnldaa", sum := "35d2cd26d04b004b698b06d80a21771863496d38888b357648bb1b27dfaa0953", func := "firkin/firkinlaw12.SchemaChecks", spec := "schemaChecks", unfollowed := true, recurses := true, apart := false }
def SchemaChecksSaid : Prop := schemaChecksRow.holds Try.pinned (OpenSpec.ofChange schemaChecksSpec)

/-- ITS FALSE NEIGHBOUR: 'it returns false'. Refute it at one input. -/
def schemaChecksWrong : ChangeSpec := { name := "schemaChecks", fn := fun _ => fun
  | [d1, d2, d3] => { results := [.lit (.bool false)], args := [d1, d2, d3] }
  | _ => none }
def SchemaChecksWrongFalsely : Prop := schemaChecksRow.holds Try.pinned (OpenSpec.ofChange schemaChecksWrong)

/-- 'firkinlaw09.CellOrders': WHATEVER THE INPUT: true; the input reads as it did. -/
def cellOrdersSpec : ChangeSpec := { name := "cellOrders", fn := fun _ => fun
  | [d1, d2, d3] => { results := [.lit (.bool true)], args := [d1, d2, d3] }
  | _ => none }
def cellOrdersRow : OpenClaim := { program := "ytebalgjkabnldaa", sum := "35d2cd26d04b004b698b06d80a21771863496d38888b357648bb1b27dfaa0953", func := "firkin/firkinlaw09.CellOrders", spec := "cellOrders", apart := false }
def CellOrdersSaid : Prop := cellOrdersRow.holds Try.pinned (OpenSpec.ofChange cellOrdersSpec)

/-- ITS FALSE NEIGHBOUR: 'it returns false'. Refute it at one input. -/
def cellOrdersWrong : ChangeSpec := { name := "cellOrders", fn := fun _ => fun
  | [d1, d2, d3] => { results := [.lit (.bool false)], args := [d1, d2, d3] }
  | _ => none }
def CellOrdersWrongFalsely : Prop := cellOrdersRow.holds Try.pinned (OpenSpec.ofChange cellOrdersWrong)

/-- 'firkinlaw09.CellAny': WHATEVER THE INPUT: true; the input reads as it did. -/
def cellAnySpec : ChangeSpec := { name := "cellAny", fn := fun _ => fun
  | [d1, d2, d3] => { results := [.lit (.bool true)], args := [d1, d2, d3] }
  | _ => none }
def cellAnyRow : OpenClaim := { program := "ytebalgjkabnldaa", sum := "35d2cd26d04b004b698b06d80a21771863496d38888b357648bb1b27dfaa0953", func := "firkin/firkinlaw09.CellAny", spec := "cellAny", apart := false }
def CellAnySaid : Prop := cellAnyRow.holds Try.pinned (OpenSpec.ofChange cellAnySpec)

/-- ITS FALSE NEIGHBOUR: 'it returns false'. Refute it at one input. -/
def cellAnyWrong : ChangeSpec := { name := "cellAny", fn := fun _ => fun
  | [d1, d2, d3] => { results := [.lit (.bool false)], args := [d1, d2, d3] }
  | _ => none }
def CellAnyWrongFalsely : Prop := cellAnyRow.holds Try.pinned (OpenSpec.ofChange cellAnyWrong)

/-- 'firkinlaw01.VintPuts': WHATEVER THE INPUT: true; the input reads as it did. -/
def vintPutsSpec : ChangeSpec := { name := "vintPuts", fn := fun _ => fun
  | [d1, d2, d3] => { results := [.lit (.bool true)], args := [d1, d2, d3] }
  | _ => none }
def vintPutsRow : OpenClaim := { program := "ytebalgjkabnldaa", sum := "35d2cd26d04b004b698b06d80a21771863496d38888b357648bb1b27dfaa0953", func := "firkin/firkinlaw01.VintPuts", spec := "vintPuts", inPlace := ["internal/bytealg.MakeNoZero"], apart := false }
def VintPutsSaid : Prop := vintPutsRow.holds Try.pinned (OpenSpec.ofChange vintPutsSpec)

/-- ITS FALSE NEIGHBOUR: 'it returns false'. Refute it at one input. -/
def vintPutsWrong : ChangeSpec := { name := "vintPuts", fn := fun _ => fun
  | [d1, d2, d3] => { results := [.lit (.bool false)], args := [d1, d2, d3] }
  | _ => none }
def VintPutsWrongFalsely : Prop := vintPutsRow.holds Try.pinned (OpenSpec.ofChange vintPutsWrong)

/- THE SECOND FORM. 'bulk': how many values and letters a reading holds, each counted each time it is reached (what is shared counts as often as it is met; a slice's spare places count too). A statement '..UptoSaid' is the law's where the arguments, and the package variables that the reading takes, are together of bulk at most 1048576: NARROWER than '..Said'. Prove '..Said' where nothing that the law and all that it calls make is longer than what came in: it says more and counts as full. Else prove '..UptoSaid'. A law counts once. -/
mutual
def uptoBulk {H : Type} : DataW H → Nat
  | .lit (.string bytes) => bytes.length + 1
  | .lit _ => 1
  | .nil => 1
  | .ptr d => uptoBulk d + 1
  | .slice elems spare => uptoBulkAll elems + uptoBulkAll spare + 1
  | .agg parts => uptoBulkAll parts + 1
  | .iface _ d => uptoBulk d + 1
  | .map entries => uptoBulkEntries entries + 1
  | .held _ => 1
def uptoBulkAll {H : Type} : List (DataW H) → Nat
  | [] => 0
  | d :: r => uptoBulk d + uptoBulkAll r
def uptoBulkEntries {H : Type} : List (Lit × DataW H) → Nat
  | [] => 0
  | x :: r => uptoBulkEntry x + uptoBulkEntries r
def uptoBulkEntry {H : Type} : Lit × DataW H → Nat
  | (.string bytes, d) => bytes.length + uptoBulk d + 1
  | (_, d) => uptoBulk d + 1
 end
def uptoSmall : (H : Type) → List (DataW H) → Bool := fun _ ds => decide (uptoBulkAll ds ≤ 1048576)
def OpenSpec.upto (s : _root_.Go.ChangeSpec) : _root_.Go.OpenSpec := { _root_.Go.OpenSpec.ofChange s with cond := some uptoSmall }

/-- 'firkinlaw02.CrcOf', WHERE WHAT IT READS IS OF BULK AT MOST 1048576: true; the input reads as it did. -/
def crcOfUptoRow : OpenClaim := { program := "ytebalgjkabnldaa", sum := "35d2cd26d04b004b698b06d80a21771863496d38888b357648bb1b27dfaa0953", func := "firkin/firkinlaw02.CrcOf", spec := "crcOf", apart := false, narrowed := true }
def CrcOfUptoSaid : Prop := crcOfUptoRow.holds Try.pinned (OpenSpec.upto crcOfSpec)

/-- 'firkinlaw02.CrcMore', WHERE WHAT IT READS IS OF BULK AT MOST 1048576: true; the input reads as it did. -/
def crcMoreUptoRow : OpenClaim := { program := "ytebalgjkabnldaa", sum := "35d2cd26d04b004b698b06d80a21771863496d38888b357648bb1b27dfaa0953", func := "firkin/firkinlaw02.CrcMore", spec := "crcMore", apart := false, narrowed := true }
def CrcMoreUptoSaid : Prop := crcMoreUptoRow.holds Try.pinned (OpenSpec.upto crcMoreSpec)

/-- 'firkinlaw02.CrcTells', WHERE WHAT IT READS IS OF BULK AT MOST 1048576: true; the input reads as it did. -/
def crcTellsUptoRow : OpenClaim := { program := "ytebalgjkabnldaa", sum := "35d2cd26d04b004b698b06d80a21771863496d38888b357648bb1b27dfaa0953", func := "firkin/firkinlaw02.CrcTells", spec := "crcTells", apart := false, narrowed := true }
def CrcTellsUptoSaid : Prop := crcTellsUptoRow.holds Try.pinned (OpenSpec.upto crcTellsSpec)

/-- 'firkinlaw04.BitvPacks', WHERE WHAT IT READS IS OF BULK AT MOST 1048576: true; the input reads as it did. -/
def bitvPacksUptoRow : OpenClaim := { program := "ytebalgjkabnldaa", sum := "35d2cd26d04b004b698b06d80a21771863496d38888b357648bb1b27dfaa0953", func := "firkin/firkinlaw04.BitvPacks", spec := "bitvPacks", apart := false, narrowed := true }
def BitvPacksUptoSaid : Prop := bitvPacksUptoRow.holds Try.pinned (OpenSpec.upto bitvPacksSpec)

/-- 'firkinlaw04.BitvUnpacks', WHERE WHAT IT READS IS OF BULK AT MOST 1048576: true; the input reads as it did. -/
def bitvUnpacksUptoRow : OpenClaim := { program := "ytebalgjkabnldaa", sum := "35d2cd26d04b004b698b06d80a21771863496d38888b357648bb1b27dfaa0953", func := "firkin/firkinlaw04.BitvUnpacks", spec := "bitvUnpacks", apart := false, narrowed := true }
def BitvUnpacksUptoSaid : Prop := bitvUnpacksUptoRow.holds Try.pinned (OpenSpec.upto bitvUnpacksSpec)

/-- 'firkinlaw04.BitvCounts', WHERE WHAT IT READS IS OF BULK AT MOST 1048576: true; the input reads as it did. -/
def bitvCountsUptoRow : OpenClaim := { program := "ytebalgjkabnldaa", sum := "35d2cd26d04b004b698b06d80a21771863496d38888b357648bb1b27dfaa0953", func := "firkin/firkinlaw04.BitvCounts", spec := "bitvCounts", apart := false, narrowed := true }
def BitvCountsUptoSaid : Prop := bitvCountsUptoRow.holds Try.pinned (OpenSpec.upto bitvCountsSpec)

/-- 'firkinlaw12.SchemaSame', WHERE WHAT IT READS IS OF BULK AT MOST 1048576: true; the input reads as it did. -/
def schemaSameUptoRow : OpenClaim := { program := "ytebalgjkabnldaa", sum := "35d2cd26d04b004b698b06d80a21771863496d38888b357648bb1b27dfaa0953", func := "firkin/firkinlaw12.SchemaSame", spec := "schemaSame", unfollowed := true, recurses := true, apart := false, narrowed := true }
def SchemaSameUptoSaid : Prop := schemaSameUptoRow.holds Try.pinned (OpenSpec.upto schemaSameSpec)

/-- 'firkinlaw01.VintOne', WHERE WHAT IT READS IS OF BULK AT MOST 1048576: true; the input reads as it did. -/
def vintOneUptoRow : OpenClaim := { program := "ytebalgjkabnldaa", sum := "35d2cd26d04b004b698b06d80a21771863496d38888b357648bb1b27dfaa0953", func := "firkin/firkinlaw01.VintOne", spec := "vintOne", apart := false, narrowed := true }
def VintOneUptoSaid : Prop := vintOneUptoRow.holds Try.pinned (OpenSpec.upto vintOneSpec)

/-- 'firkinlaw12.SchemaChecks', WHERE WHAT IT READS IS OF BULK AT MOST 1048576: true; the input reads as it did. -/
def schemaChecksUptoRow : OpenClaim := { program := "ytebalgjkabnldaa", sum := "35d2cd26d04b004b698b06d80a21771863496d38888b357648bb1b27dfaa0953", func := "firkin/firkinlaw12.SchemaChecks", spec := "schemaChecks", unfollowed := true, recurses := true, apart := false, narrowed := true }
def SchemaChecksUptoSaid : Prop := schemaChecksUptoRow.holds Try.pinned (OpenSpec.upto schemaChecksSpec)

/-- 'firkinlaw09.CellOrders', WHERE WHAT IT READS IS OF BULK AT MOST 1048576: true; the input reads as it did. -/
def cellOrdersUptoRow : OpenClaim := { program := "ytebalgjkabnldaa", sum := "35d2cd26d04b004b698b06d80a21771863496d38888b357648bb1b27dfaa0953", func := "firkin/firkinlaw09.CellOrders", spec := "cellOrders", apart := false, narrowed := true }
def CellOrdersUptoSaid : Prop := cellOrdersUptoRow.holds Try.pinned (OpenSpec.upto cellOrdersSpec)

/-- 'firkinlaw09.CellAny', WHERE WHAT IT READS IS OF BULK AT MOST 1048576: true; the input reads as it did. -/
def cellAnyUptoRow : OpenClaim := { program := "ytebalgjkabnldaa", sum := "35d2cd26d04b004b698b06d80a21771863496d38888b357648bb1b27dfaa0953", func := "firkin/firkinlaw09.CellAny", spec := "cellAny", apart := false, narrowed := true }
def CellAnyUptoSaid : Prop := cellAnyUptoRow.holds Try.pinned (OpenSpec.upto cellAnySpec)

/-- 'firkinlaw01.VintPuts', WHERE WHAT IT READS IS OF BULK AT MOST 1048576: true; the input reads as it did. -/
def vintPutsUptoRow : OpenClaim := { program := "ytebalgjkabnldaa", sum := "35d2cd26d04b004b698b06d80a21771863496d38888b357648bb1b27dfaa0953", func := "firkin/firkinlaw01.VintPuts", spec := "vintPuts", inPlace := ["internal/bytealg.MakeNoZero"], apart := false, narrowed := true }
def VintPutsUptoSaid : Prop := vintPutsUptoRow.holds Try.pinned (OpenSpec.upto vintPutsSpec)

end Rows
end Go.Proofs.Ytebalgjkabnldaa
