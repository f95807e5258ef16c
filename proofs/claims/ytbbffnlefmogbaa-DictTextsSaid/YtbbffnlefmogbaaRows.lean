/-
  No cell of these rows narrows 'for every input' (looked for: loops, veiled, ifaces, maps, wideKeys, modest, calm, conditions, laid).
  DERIVED. THE GIVEN ROWS OF THIS SEAT. 7 by the template 'for every input the law returns true; each argument reads behind the call as it read before'; 0 by the template 'total and deterministic' (their statements: YtbbffnlefmogbaaTotals.lean).
  GIVEN WITH THE SEED: the statements are not yours to turn. If you find one false, say at which input.
  Laid BY PROGRAM, IN A SANDBOX (cutbox-rows.mjs): the forced cells as the released guide's own fill.sh prints them over the translation 7c6d84b8a7b585a6… (all of the seat's roots in one cut). By AI agents, Wed Nov 11 2026. No macro, syntax, notation, axiom, sorry.
-/
import Derived.Test.YtbbffnlefmogbaaChecked
import GoSem.Claim
import GoSem.ClaimJoined
import GoSem.ClaimMapViews
import Derived.JoinedTies
import Derived.KernelRfl
namespace Go.Proofs.Ytbbffnlefmogbaa
/- THE CELL 'sum', in the pinned program and in every row, IS THE sha256 OF THE DUMP (.gsa) THAT YtbbffnlefmogbaaProg.lean LOADS. Nothing in Lean hashes anything: it is a label: what it is worth is what the hold of that sum in a sandbox is worth. -/
noncomputable def Try.pinned : Pinned := { name := "ytbbffnlefmogbaa", sum := "7c6d84b8a7b585a607821e15348c88acbf83dcc74c5d4fe564ac4cc19413db95", checked := Try.checked }
namespace Rows
def none {H : Type} : Left H := { results := [], args := [] }

/-- 'firkinlaw07.TightPuts': WHATEVER THE INPUT: true; the input reads as it did. -/
def tightPutsSpec : ChangeSpec := { name := "tightPuts", fn := fun _ => fun
  | [d] => { results := [.lit (.bool true)], args := [d] }
  | _ => none }
def tightPutsRow : OpenClaim := { program := "ytbbffnlefmogbaa", sum := "7c6d84b8a7b585a607821e15348c88acbf83dcc74c5d4fe564ac4cc19413db95", func := "firkin/firkinlaw07.TightPuts", spec := "tightPuts", apart := false }
def TightPutsSaid : Prop := tightPutsRow.holds Try.pinned (OpenSpec.ofChange tightPutsSpec)

/-- ITS FALSE NEIGHBOUR: 'it returns false'. Refute it at one input. -/
def tightPutsWrong : ChangeSpec := { name := "tightPuts", fn := fun _ => fun
  | [d] => { results := [.lit (.bool false)], args := [d] }
  | _ => none }
def TightPutsWrongFalsely : Prop := tightPutsRow.holds Try.pinned (OpenSpec.ofChange tightPutsWrong)

/-- 'firkinlaw07.TightGets': WHATEVER THE INPUT: true; the input reads as it did. -/
def tightGetsSpec : ChangeSpec := { name := "tightGets", fn := fun _ => fun
  | [d1, d2] => { results := [.lit (.bool true)], args := [d1, d2] }
  | _ => none }
def tightGetsRow : OpenClaim := { program := "ytbbffnlefmogbaa", sum := "7c6d84b8a7b585a607821e15348c88acbf83dcc74c5d4fe564ac4cc19413db95", func := "firkin/firkinlaw07.TightGets", spec := "tightGets", apart := false }
def TightGetsSaid : Prop := tightGetsRow.holds Try.pinned (OpenSpec.ofChange tightGetsSpec)

/-- ITS FALSE NEIGHBOUR: 'it returns false'. Refute it at one input. -/
def tightGetsWrong : ChangeSpec := { name := "tightGets", fn := fun _ => fun
  | [d1, d2] => { results := [.lit (.bool false)], args := [d1, d2] }
  | _ => none }
def TightGetsWrongFalsely : Prop := tightGetsRow.holds Try.pinned (OpenSpec.ofChange tightGetsWrong)

/-- 'firkinlaw07.TightOne': WHATEVER THE INPUT: true; the input reads as it did. -/
def tightOneSpec : ChangeSpec := { name := "tightOne", fn := fun _ => fun
  | [d1, d2, d3] => { results := [.lit (.bool true)], args := [d1, d2, d3] }
  | _ => none }
def tightOneRow : OpenClaim := { program := "ytbbffnlefmogbaa", sum := "7c6d84b8a7b585a607821e15348c88acbf83dcc74c5d4fe564ac4cc19413db95", func := "firkin/firkinlaw07.TightOne", spec := "tightOne", apart := false }
def TightOneSaid : Prop := tightOneRow.holds Try.pinned (OpenSpec.ofChange tightOneSpec)

/-- ITS FALSE NEIGHBOUR: 'it returns false'. Refute it at one input. -/
def tightOneWrong : ChangeSpec := { name := "tightOne", fn := fun _ => fun
  | [d1, d2, d3] => { results := [.lit (.bool false)], args := [d1, d2, d3] }
  | _ => none }
def TightOneWrongFalsely : Prop := tightOneRow.holds Try.pinned (OpenSpec.ofChange tightOneWrong)

/-- 'firkinlaw12.SchemaBytes': WHATEVER THE INPUT: true; the input reads as it did. -/
def schemaBytesSpec : ChangeSpec := { name := "schemaBytes", fn := fun _ => fun
  | [d1, d2] => { results := [.lit (.bool true)], args := [d1, d2] }
  | _ => none }
def schemaBytesRow : OpenClaim := { program := "ytbbffnlefmogbaa", sum := "7c6d84b8a7b585a607821e15348c88acbf83dcc74c5d4fe564ac4cc19413db95", func := "firkin/firkinlaw12.SchemaBytes", spec := "schemaBytes", inPlace := ["internal/bytealg.MakeNoZero"], unfollowed := true, recurses := true, apart := false }
def SchemaBytesSaid : Prop := schemaBytesRow.holds Try.pinned (OpenSpec.ofChange schemaBytesSpec)

/-- ITS FALSE NEIGHBOUR: 'it returns false'. Refute it at one input. -/
def schemaBytesWrong : ChangeSpec := { name := "schemaBytes", fn := fun _ => fun
  | [d1, d2] => { results := [.lit (.bool false)], args := [d1, d2] }
  | _ => none }
def SchemaBytesWrongFalsely : Prop := schemaBytesRow.holds Try.pinned (OpenSpec.ofChange schemaBytesWrong)

/-- 'firkinlaw08.DictTexts': WHATEVER THE INPUT: true; the input reads as it did. -/
def dictTextsSpec : ChangeSpec := { name := "dictTexts", fn := fun _ => fun
  | [d1, d2, d3] => { results := [.lit (.bool true)], args := [d1, d2, d3] }
  | _ => none }
def dictTextsRow : OpenClaim := { program := "ytbbffnlefmogbaa", sum := "7c6d84b8a7b585a607821e15348c88acbf83dcc74c5d4fe564ac4cc19413db95", func := "firkin/firkinlaw08.DictTexts", spec := "dictTexts", inPlace := ["internal/bytealg.MakeNoZero"], unfollowed := true, recurses := true, apart := false }
def DictTextsSaid : Prop := dictTextsRow.holds Try.pinned (OpenSpec.ofChange dictTextsSpec)

/-- ITS FALSE NEIGHBOUR: 'it returns false'. Refute it at one input. -/
def dictTextsWrong : ChangeSpec := { name := "dictTexts", fn := fun _ => fun
  | [d1, d2, d3] => { results := [.lit (.bool false)], args := [d1, d2, d3] }
  | _ => none }
def DictTextsWrongFalsely : Prop := dictTextsRow.holds Try.pinned (OpenSpec.ofChange dictTextsWrong)

/-- 'firkinlaw08.DictGets': WHATEVER THE INPUT: true; the input reads as it did. -/
def dictGetsSpec : ChangeSpec := { name := "dictGets", fn := fun _ => fun
  | [d1, d2, d3] => { results := [.lit (.bool true)], args := [d1, d2, d3] }
  | _ => none }
def dictGetsRow : OpenClaim := { program := "ytbbffnlefmogbaa", sum := "7c6d84b8a7b585a607821e15348c88acbf83dcc74c5d4fe564ac4cc19413db95", func := "firkin/firkinlaw08.DictGets", spec := "dictGets", inPlace := ["internal/bytealg.MakeNoZero"], unfollowed := true, recurses := true, apart := false }
def DictGetsSaid : Prop := dictGetsRow.holds Try.pinned (OpenSpec.ofChange dictGetsSpec)

/-- ITS FALSE NEIGHBOUR: 'it returns false'. Refute it at one input. -/
def dictGetsWrong : ChangeSpec := { name := "dictGets", fn := fun _ => fun
  | [d1, d2, d3] => { results := [.lit (.bool false)], args := [d1, d2, d3] }
  | _ => none }
def DictGetsWrongFalsely : Prop := dictGetsRow.holds Try.pinned (OpenSpec.ofChange dictGetsWrong)

/-- 'firkinlaw08.DictPuts': WHATEVER THE INPUT: true; the input reads as it did. -/
def dictPutsSpec : ChangeSpec := { name := "dictPuts", fn := fun _ => fun
  | [d] => { results := [.lit (.bool true)], args := [d] }
  | _ => none }
def dictPutsRow : OpenClaim := { program := "ytbbffnlefmogbaa", sum := "7c6d84b8a7b585a607821e15348c88acbf83dcc74c5d4fe564ac4cc19413db95", func := "firkin/firkinlaw08.DictPuts", spec := "dictPuts", inPlace := ["internal/bytealg.MakeNoZero"], unfollowed := true, recurses := true, apart := false }
def DictPutsSaid : Prop := dictPutsRow.holds Try.pinned (OpenSpec.ofChange dictPutsSpec)

/-- ITS FALSE NEIGHBOUR: 'it returns false'. Refute it at one input. -/
def dictPutsWrong : ChangeSpec := { name := "dictPuts", fn := fun _ => fun
  | [d] => { results := [.lit (.bool false)], args := [d] }
  | _ => none }
def DictPutsWrongFalsely : Prop := dictPutsRow.holds Try.pinned (OpenSpec.ofChange dictPutsWrong)

/- THE SECOND FORM. 'bulk': how many values and letters a reading holds, each counted each time it is reached (what is shared counts as often as it is met; a slice's spare places count too). A statement '..UptoSaid' is the law's where the arguments, and the package variables that the reading takes, are together of bulk at most 1048576: NARROWER than '..Said'. Prove '..Said' where nothing that the law and all that it calls make is longer than what came in: it says more and counts as full. Else prove '..UptoSaid'. A law counts once. -/
mutual
def uptoBulk {H : Type} : DataW H → Nat
  | .lit (.string bytes) => bytes.length + 1
  | .lit _ => 1
  | .nil => 1
  | .ptr d => uptoBulk d + 1
  | .slice elems spare => uptoBulkAll elems + uptoBulkAll spare + 1
  | .agg parts => uptoBulkAll parts + 1
  | .iface _ d => uptoBulk d + 1
  | .map entries => uptoBulkEntries entries + 1
  | .held _ => 1
def uptoBulkAll {H : Type} : List (DataW H) → Nat
  | [] => 0
  | d :: r => uptoBulk d + uptoBulkAll r
def uptoBulkEntries {H : Type} : List (Lit × DataW H) → Nat
  | [] => 0
  | x :: r => uptoBulkEntry x + uptoBulkEntries r
def uptoBulkEntry {H : Type} : Lit × DataW H → Nat
  | (.string bytes, d) => bytes.length + uptoBulk d + 1
  | (_, d) => uptoBulk d + 1
 end
def uptoSmall : (H : Type) → List (DataW H) → Bool := fun _ ds => decide (uptoBulkAll ds ≤ 1048576)
def OpenSpec.upto (s : _root_.Go.ChangeSpec) : _root_.Go.OpenSpec := { _root_.Go.OpenSpec.ofChange s with cond := some uptoSmall }

/-- 'firkinlaw07.TightPuts', WHERE WHAT IT READS IS OF BULK AT MOST 1048576: true; the input reads as it did. -/
def tightPutsUptoRow : OpenClaim := { program := "ytbbffnlefmogbaa", sum := "7c6d84b8a7b585a607821e15348c88acbf83dcc74c5d4fe564ac4cc19413db95", func := "firkin/firkinlaw07.TightPuts", spec := "tightPuts", apart := false, narrowed := true }
def TightPutsUptoSaid : Prop := tightPutsUptoRow.holds Try.pinned (OpenSpec.upto tightPutsSpec)

/-- 'firkinlaw07.TightGets', WHERE WHAT IT READS IS OF BULK AT MOST 1048576: true; the input reads as it did. -/
def tightGetsUptoRow : OpenClaim := { program := "ytbbffnlefmogbaa", sum := "7c6d84b8a7b585a607821e15348c88acbf83dcc74c5d4fe564ac4cc19413db95", func := "firkin/firkinlaw07.TightGets", spec := "tightGets", apart := false, narrowed := true }
def TightGetsUptoSaid : Prop := tightGetsUptoRow.holds Try.pinned (OpenSpec.upto tightGetsSpec)

/-- 'firkinlaw07.TightOne', WHERE WHAT IT READS IS OF BULK AT MOST 1048576: true; the input reads as it did. -/
def tightOneUptoRow : OpenClaim := { program := "ytbbffnlefmogbaa", sum := "7c6d84b8a7b585a607821e15348c88acbf83dcc74c5d4fe564ac4cc19413db95", func := "firkin/firkinlaw07.TightOne", spec := "tightOne", apart := false, narrowed := true }
def TightOneUptoSaid : Prop := tightOneUptoRow.holds Try.pinned (OpenSpec.upto tightOneSpec)

/-- 'firkinlaw12.SchemaBytes', WHERE WHAT IT READS IS OF BULK AT MOST 1048576: true; the input reads as it did. -/
def schemaBytesUptoRow : OpenClaim := { program := "ytbbffnlefmogbaa", sum := "7c6d84b8a7b585a607821e15348c88acbf83dcc74c5d4fe564ac4cc19413db95", func := "firkin/firkinlaw12.SchemaBytes", spec := "schemaBytes", inPlace := ["internal/bytealg.MakeNoZero"], unfollowed := true, recurses := true, apart := false, narrowed := true }
def SchemaBytesUptoSaid : Prop := schemaBytesUptoRow.holds Try.pinned (OpenSpec.upto schemaBytesSpec)

/-- 'firkinlaw08.DictTexts', WHERE WHAT IT READS IS OF BULK AT MOST 1048576: true; the input reads as it did. -/
def dictTextsUptoRow : OpenClaim := { program := "ytbbffnlefmogbaa", sum := "7c6d84b8a7b585a607821e15348c88acbf83dcc74c5d4fe564ac4cc19413db95", func := "firkin/firkinlaw08.DictTexts", spec := "dictTexts", inPlace := ["internal/bytealg.MakeNoZero"], unfollowed := true, recurses := true, apart := false, narrowed := true }
def DictTextsUptoSaid : Prop := dictTextsUptoRow.holds Try.pinned (OpenSpec.upto dictTextsSpec)

/-- 'firkinlaw08.DictGets', WHERE WHAT IT READS IS OF BULK AT MOST 1048576: true; the input reads as it did. -/
def dictGetsUptoRow : OpenClaim := { program := "ytbbffnlefmogbaa", sum := "7c6d84b8a7b585a607821e15348c88acbf83dcc74c5d4fe564ac4cc19413db95", func := "firkin/firkinlaw08.DictGets", spec := "dictGets", inPlace := ["internal/bytealg.MakeNoZero"], unfollowed := true, recurses := true, apart := false, narrowed := true }
def DictGetsUptoSaid : Prop := dictGetsUptoRow.holds Try.pinned (OpenSpec.upto dictGetsSpec)

/-- 'firkinlaw08.DictPuts', WHERE WHAT IT READS IS OF BULK AT MOST 1048576: true; the input reads as it did. -/
def dictPutsUptoRow : OpenClaim := { program := "ytbbffnlefmogbaa", sum := "7c6d84b8a7b585a607821e15348c88acbf83dcc74c5d4fe564ac4cc19413db95", func := "firkin/firkinlaw08.DictPuts", spec := "dictPuts", inPlace := ["internal/bytealg.MakeNoZero"], unfollowed := true, recurses := true, apart := false, narrowed := true }
def DictPutsUptoSaid : Prop := dictPutsUptoRow.holds Try.pinned (OpenSpec.upto dictPutsSpec)

end Rows
end Go.Proofs.Ytbbffnlefmogbaa
