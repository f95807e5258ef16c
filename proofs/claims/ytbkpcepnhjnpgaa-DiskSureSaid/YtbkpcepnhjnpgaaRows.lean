/-
  No cell of these rows narrows 'for every input' (looked for: loops, veiled, ifaces, maps, wideKeys, modest, calm, conditions, laid).
  DERIVED. THE GIVEN ROWS OF THIS SEAT. 8 by the template 'for every input the law returns true; each argument reads behind the call as it read before'; 0 by the template 'total and deterministic' (their statements: YtbkpcepnhjnpgaaTotals.lean).
  GIVEN WITH THE SEED: the statements are not yours to turn. If you find one false, say at which input.
  Laid BY PROGRAM, IN A SANDBOX (cutbox-rows.mjs): the forced cells as the released guide's own fill.sh prints them over the translation 418f47639554d243… (all of the seat's roots in one cut). By AI agents, Wed Nov 11 2026. No macro, syntax, notation, axiom, sorry.
-/
import Derived.Test.YtbkpcepnhjnpgaaChecked
import GoSem.Claim
import GoSem.ClaimJoined
import GoSem.ClaimMapViews
import Derived.JoinedTies
import Derived.KernelRfl
namespace Go.Proofs.Ytbkpcepnhjnpgaa
/- THE CELL 'sum', in the pinned program and in every row, IS THE sha256 OF THE DUMP (.gsa) THAT YtbkpcepnhjnpgaaProg.lean LOADS. Nothing in Lean hashes anything: it is a label: what it is worth is what the hold of that sum in a sandbox is worth. -/
noncomputable def Try.pinned : Pinned := { name := "ytbkpcepnhjnpgaa", sum := "418f47639554d243996c8768aa61f07f01c0bbc062ab2467b12fa87fd1120b1d", checked := Try.checked }
namespace Rows
def none {H : Type} : Left H := { results := [], args := [] }

/-- 'firkinlaw35.StagePuts': WHATEVER THE INPUT: true; the input reads as it did. -/
def stagePutsSpec : ChangeSpec := { name := "stagePuts", fn := fun _ => fun
  | [d1, d2, d3] => { results := [.lit (.bool true)], args := [d1, d2, d3] }
  | _ => none }
def stagePutsRow : OpenClaim := { program := "ytbkpcepnhjnpgaa", sum := "418f47639554d243996c8768aa61f07f01c0bbc062ab2467b12fa87fd1120b1d", func := "firkin/firkinlaw35.StagePuts", spec := "stagePuts", apart := false }
def StagePutsSaid : Prop := stagePutsRow.holds Try.pinned (OpenSpec.ofChange stagePutsSpec)

/-- ITS FALSE NEIGHBOUR: 'it returns false'. Refute it at one input. -/
def stagePutsWrong : ChangeSpec := { name := "stagePuts", fn := fun _ => fun
  | [d1, d2, d3] => { results := [.lit (.bool false)], args := [d1, d2, d3] }
  | _ => none }
def StagePutsWrongFalsely : Prop := stagePutsRow.holds Try.pinned (OpenSpec.ofChange stagePutsWrong)

/-- 'firkinlaw35.StageNil': WHATEVER THE INPUT: true; the input reads as it did. -/
def stageNilSpec : ChangeSpec := { name := "stageNil", fn := fun _ => fun
  | [d1, d2, d3] => { results := [.lit (.bool true)], args := [d1, d2, d3] }
  | _ => none }
def stageNilRow : OpenClaim := { program := "ytbkpcepnhjnpgaa", sum := "418f47639554d243996c8768aa61f07f01c0bbc062ab2467b12fa87fd1120b1d", func := "firkin/firkinlaw35.StageNil", spec := "stageNil", unfollowed := true, recurses := true, apart := false }
def StageNilSaid : Prop := stageNilRow.holds Try.pinned (OpenSpec.ofChange stageNilSpec)

/-- ITS FALSE NEIGHBOUR: 'it returns false'. Refute it at one input. -/
def stageNilWrong : ChangeSpec := { name := "stageNil", fn := fun _ => fun
  | [d1, d2, d3] => { results := [.lit (.bool false)], args := [d1, d2, d3] }
  | _ => none }
def StageNilWrongFalsely : Prop := stageNilRow.holds Try.pinned (OpenSpec.ofChange stageNilWrong)

/-- 'firkinlaw35.StageUploads': WHATEVER THE INPUT: true; the input reads as it did. -/
def stageUploadsSpec : ChangeSpec := { name := "stageUploads", fn := fun _ => fun
  | [d1, d2, d3] => { results := [.lit (.bool true)], args := [d1, d2, d3] }
  | _ => none }
def stageUploadsRow : OpenClaim := { program := "ytbkpcepnhjnpgaa", sum := "418f47639554d243996c8768aa61f07f01c0bbc062ab2467b12fa87fd1120b1d", func := "firkin/firkinlaw35.StageUploads", spec := "stageUploads", unfollowed := true, recurses := true, apart := false }
def StageUploadsSaid : Prop := stageUploadsRow.holds Try.pinned (OpenSpec.ofChange stageUploadsSpec)

/-- ITS FALSE NEIGHBOUR: 'it returns false'. Refute it at one input. -/
def stageUploadsWrong : ChangeSpec := { name := "stageUploads", fn := fun _ => fun
  | [d1, d2, d3] => { results := [.lit (.bool false)], args := [d1, d2, d3] }
  | _ => none }
def StageUploadsWrongFalsely : Prop := stageUploadsRow.holds Try.pinned (OpenSpec.ofChange stageUploadsWrong)

/-- 'firkinlaw25.DiskSure': WHATEVER THE INPUT: true; the input reads as it did. -/
def diskSureSpec : ChangeSpec := { name := "diskSure", fn := fun _ => fun
  | [d1, d2, d3] => { results := [.lit (.bool true)], args := [d1, d2, d3] }
  | _ => none }
def diskSureRow : OpenClaim := { program := "ytbkpcepnhjnpgaa", sum := "418f47639554d243996c8768aa61f07f01c0bbc062ab2467b12fa87fd1120b1d", func := "firkin/firkinlaw25.DiskSure", spec := "diskSure", unfollowed := true, recurses := true, apart := false }
def DiskSureSaid : Prop := diskSureRow.holds Try.pinned (OpenSpec.ofChange diskSureSpec)

/-- ITS FALSE NEIGHBOUR: 'it returns false'. Refute it at one input. -/
def diskSureWrong : ChangeSpec := { name := "diskSure", fn := fun _ => fun
  | [d1, d2, d3] => { results := [.lit (.bool false)], args := [d1, d2, d3] }
  | _ => none }
def DiskSureWrongFalsely : Prop := diskSureRow.holds Try.pinned (OpenSpec.ofChange diskSureWrong)

/-- 'firkinlaw25.DiskNil': WHATEVER THE INPUT: true; the input reads as it did. -/
def diskNilSpec : ChangeSpec := { name := "diskNil", fn := fun _ => fun
  | [d1, d2] => { results := [.lit (.bool true)], args := [d1, d2] }
  | _ => none }
def diskNilRow : OpenClaim := { program := "ytbkpcepnhjnpgaa", sum := "418f47639554d243996c8768aa61f07f01c0bbc062ab2467b12fa87fd1120b1d", func := "firkin/firkinlaw25.DiskNil", spec := "diskNil", unfollowed := true, recurses := true, apart := false }
def DiskNilSaid : Prop := diskNilRow.holds Try.pinned (OpenSpec.ofChange diskNilSpec)

/-- ITS FALSE NEIGHBOUR: 'it returns false'. Refute it at one input. -/
def diskNilWrong : ChangeSpec := { name := "diskNil", fn := fun _ => fun
  | [d1, d2] => { results := [.lit (.bool false)], args := [d1, d2] }
  | _ => none }
def DiskNilWrongFalsely : Prop := diskNilRow.holds Try.pinned (OpenSpec.ofChange diskNilWrong)

/-- 'firkinlaw25.DiskDoes': WHATEVER THE INPUT: true; the input reads as it did. -/
def diskDoesSpec : ChangeSpec := { name := "diskDoes", fn := fun _ => fun
  | [d1, d2] => { results := [.lit (.bool true)], args := [d1, d2] }
  | _ => none }
def diskDoesRow : OpenClaim := { program := "ytbkpcepnhjnpgaa", sum := "418f47639554d243996c8768aa61f07f01c0bbc062ab2467b12fa87fd1120b1d", func := "firkin/firkinlaw25.DiskDoes", spec := "diskDoes", unfollowed := true, recurses := true, apart := false }
def DiskDoesSaid : Prop := diskDoesRow.holds Try.pinned (OpenSpec.ofChange diskDoesSpec)

/-- ITS FALSE NEIGHBOUR: 'it returns false'. Refute it at one input. -/
def diskDoesWrong : ChangeSpec := { name := "diskDoes", fn := fun _ => fun
  | [d1, d2] => { results := [.lit (.bool false)], args := [d1, d2] }
  | _ => none }
def DiskDoesWrongFalsely : Prop := diskDoesRow.holds Try.pinned (OpenSpec.ofChange diskDoesWrong)

/-- 'firkinlaw24.WorldKeeps': WHATEVER THE INPUT: true; the input reads as it did. -/
def worldKeepsSpec : ChangeSpec := { name := "worldKeeps", fn := fun _ => fun
  | [d1, d2] => { results := [.lit (.bool true)], args := [d1, d2] }
  | _ => none }
def worldKeepsRow : OpenClaim := { program := "ytbkpcepnhjnpgaa", sum := "418f47639554d243996c8768aa61f07f01c0bbc062ab2467b12fa87fd1120b1d", func := "firkin/firkinlaw24.WorldKeeps", spec := "worldKeeps", unfollowed := true, recurses := true, apart := false }
def WorldKeepsSaid : Prop := worldKeepsRow.holds Try.pinned (OpenSpec.ofChange worldKeepsSpec)

/-- ITS FALSE NEIGHBOUR: 'it returns false'. Refute it at one input. -/
def worldKeepsWrong : ChangeSpec := { name := "worldKeeps", fn := fun _ => fun
  | [d1, d2] => { results := [.lit (.bool false)], args := [d1, d2] }
  | _ => none }
def WorldKeepsWrongFalsely : Prop := worldKeepsRow.holds Try.pinned (OpenSpec.ofChange worldKeepsWrong)

/-- 'firkinlaw24.WorldNil': WHATEVER THE INPUT: true; the input reads as it did. -/
def worldNilSpec : ChangeSpec := { name := "worldNil", fn := fun _ => fun
  | [d1, d2, d3] => { results := [.lit (.bool true)], args := [d1, d2, d3] }
  | _ => none }
def worldNilRow : OpenClaim := { program := "ytbkpcepnhjnpgaa", sum := "418f47639554d243996c8768aa61f07f01c0bbc062ab2467b12fa87fd1120b1d", func := "firkin/firkinlaw24.WorldNil", spec := "worldNil", unfollowed := true, recurses := true, apart := false }
def WorldNilSaid : Prop := worldNilRow.holds Try.pinned (OpenSpec.ofChange worldNilSpec)

/-- ITS FALSE NEIGHBOUR: 'it returns false'. Refute it at one input. -/
def worldNilWrong : ChangeSpec := { name := "worldNil", fn := fun _ => fun
  | [d1, d2, d3] => { results := [.lit (.bool false)], args := [d1, d2, d3] }
  | _ => none }
def WorldNilWrongFalsely : Prop := worldNilRow.holds Try.pinned (OpenSpec.ofChange worldNilWrong)

/- THE SECOND FORM. 'bulk': how many values and letters a reading holds, each counted each time it is reached (what is shared counts as often as it is met; a slice's spare places count too). A statement '..UptoSaid' is the law's where the arguments, and the package variables that the reading takes, are together of bulk at most 1048576: NARROWER than '..Said'. Prove '..Said' where nothing that the law and all that it calls make is longer than what came in: it says more and counts as full. Else prove '..UptoSaid'. A law counts once. -/
mutual
def uptoBulk {H : Type} : DataW H → Nat
  | .lit (.string bytes) => bytes.length + 1
  | .lit _ => 1
  | .nil => 1
  | .ptr d => uptoBulk d + 1
  | .slice elems spare => uptoBulkAll elems + uptoBulkAll spare + 1
  | .agg parts => uptoBulkAll parts + 1
  | .iface _ d => uptoBulk d + 1
  | .map entries => uptoBulkEntries entries + 1
  | .held _ => 1
def uptoBulkAll {H : Type} : List (DataW H) → Nat
  | [] => 0
  | d :: r => uptoBulk d + uptoBulkAll r
def uptoBulkEntries {H : Type} : List (Lit × DataW H) → Nat
  | [] => 0
  | x :: r => uptoBulkEntry x + uptoBulkEntries r
def uptoBulkEntry {H : Type} : Lit × DataW H → Nat
  | (.string bytes, d) => bytes.length + uptoBulk d + 1
  | (_, d) => uptoBulk d + 1
 end
def uptoSmall : (H : Type) → List (DataW H) → Bool := fun _ ds => decide (uptoBulkAll ds ≤ 1048576)
def OpenSpec.upto (s : _root_.Go.ChangeSpec) : _root_.Go.OpenSpec := { _root_.Go.OpenSpec.ofChange s with cond := some uptoSmall }

/-- 'firkinlaw35.StagePuts', WHERE WHAT IT READS IS OF BULK AT MOST 1048576: true; the input reads as it did. -/
def stagePutsUptoRow : OpenClaim := { program := "ytbkpcepnhjnpgaa", sum := "418f47639554d243996c8768aa61f07f01c0bbc062ab2467b12fa87fd1120b1d", func := "firkin/firkinlaw35.StagePuts", spec := "stagePuts", apart := false, narrowed := true }
def StagePutsUptoSaid : Prop := stagePutsUptoRow.holds Try.pinned (OpenSpec.upto stagePutsSpec)

/-- 'firkinlaw35.StageNil', WHERE WHAT IT READS IS OF BULK AT MOST 1048576: true; the input reads as it did. -/
def stageNilUptoRow : OpenClaim := { program := "ytbkpcepnhjnpgaa", sum := "418f47639554d243996c8768aa61f07f01c0bbc062ab2467b12fa87fd1120b1d", func := "firkin/firkinlaw35.StageNil", spec := "stageNil", unfollowed := true, recurses := true, apart := false, narrowed := true }
def StageNilUptoSaid : Prop := stageNilUptoRow.holds Try.pinned (OpenSpec.upto stageNilSpec)

/-- 'firkinlaw35.StageUploads', WHERE WHAT IT READS IS OF BULK AT MOST 1048576: true; the input reads as it did. -/
def stageUploadsUptoRow : OpenClaim := { program := "ytbkpcepnhjnpgaa", sum := "418f47639554d243996c8768aa61f07f01c0bbc062ab2467b12fa87fd1120b1d", func := "firkin/firkinlaw35.StageUploads", spec := "stageUploads", unfollowed := true, recurses := true, apart := false, narrowed := true }
def StageUploadsUptoSaid : Prop := stageUploadsUptoRow.holds Try.pinned (OpenSpec.upto stageUploadsSpec)

/-- 'firkinlaw25.DiskSure', WHERE WHAT IT READS IS OF BULK AT MOST 1048576: true; the input reads as it did. -/
def diskSureUptoRow : OpenClaim := { program := "ytbkpcepnhjnpgaa", sum := "418f47639554d243996c8768aa61f07f01c0bbc062ab2467b12fa87fd1120b1d", func := "firkin/firkinlaw25.DiskSure", spec := "diskSure", unfollowed := true, recurses := true, apart := false, narrowed := true }
def DiskSureUptoSaid : Prop := diskSureUptoRow.holds Try.pinned (OpenSpec.upto diskSureSpec)

/-- 'firkinlaw25.DiskNil', WHERE WHAT IT READS IS OF BULK AT MOST 1048576: true; the input reads as it did. -/
def diskNilUptoRow : OpenClaim := { program := "ytbkpcepnhjnpgaa", sum := "418f47639554d243996c8768aa61f07f01c0bbc062ab2467b12fa87fd1120b1d", func := "firkin/firkinlaw25.DiskNil", spec := "diskNil", unfollowed := true, recurses := true, apart := false, narrowed := true }
def DiskNilUptoSaid : Prop := diskNilUptoRow.holds Try.pinned (OpenSpec.upto diskNilSpec)

/-- 'firkinlaw25.DiskDoes', WHERE WHAT IT READS IS OF BULK AT MOST 1048576: true; the input reads as it did. -/
def diskDoesUptoRow : OpenClaim := { program := "ytbkpcepnhjnpgaa", sum := "418f47639554d243996c8768aa61f07f01c0bbc062ab2467b12fa87fd1120b1d", func := "firkin/firkinlaw25.DiskDoes", spec := "diskDoes", unfollowed := true, recurses := true, apart := false, narrowed := true }
def DiskDoesUptoSaid : Prop := diskDoesUptoRow.holds Try.pinned (OpenSpec.upto diskDoesSpec)

/-- 'firkinlaw24.WorldKeeps', WHERE WHAT IT READS IS OF BULK AT MOST 1048576: true; the input reads as it did. -/
def worldKeepsUptoRow : OpenClaim := { program := "ytbkpcepnhjnpgaa", sum := "418f47639554d243996c8768aa61f07f01c0bbc062ab2467b12fa87fd1120b1d", func := "firkin/firkinlaw24.WorldKeeps", spec := "worldKeeps", unfollowed := true, recurses := true, apart := false, narrowed := true }
def WorldKeepsUptoSaid : Prop := worldKeepsUptoRow.holds Try.pinned (OpenSpec.upto worldKeepsSpec)

/-- 'firkinlaw24.WorldNil', WHERE WHAT IT READS IS OF BULK AT MOST 1048576: true; the input reads as it did. -/
def worldNilUptoRow : OpenClaim := { program := "ytbkpcepnhjnpgaa", sum := "418f47639554d243996c8768aa61f07f01c0bbc062ab2467b12fa87fd1120b1d", func := "firkin/firkinlaw24.WorldNil", spec := "worldNil", unfollowed := true, recurses := true, apart := false, narrowed := true }
def WorldNilUptoSaid : Prop := worldNilUptoRow.holds Try.pinned (OpenSpec.upto worldNilSpec)

end Rows
end Go.Proofs.Ytbkpcepnhjnpgaa
