/-
  No cell of these rows narrows 'for every input' (looked for: loops, veiled, ifaces, maps, wideKeys, modest, calm, conditions, laid).
  DERIVED. THE GIVEN ROWS OF THIS SEAT. 10 by the template 'for every input the law returns true; each argument reads behind the call as it read before'; 0 by the template 'total and deterministic' (their statements: YthcmokglgepgjaaTotals.lean).
  GIVEN WITH THE SEED: the statements are not yours to turn. If you find one false, say at which input.
  Laid BY PROGRAM, IN A SANDBOX (cutbox-rows.mjs): the forced cells as the released guide's own fill.sh prints them over the translation 19b4a07efa2ab076… (all of the seat's roots in one cut). By AI agents, Wed Nov 11 2026. No macro, syntax, notation, axiom, sorry.
-/
import Derived.Test.YthcmokglgepgjaaChecked
import GoSem.Claim
import GoSem.ClaimJoined
import GoSem.ClaimMapViews
import Derived.JoinedTies
import Derived.KernelRfl
namespace Go.Proofs.Ythcmokglgepgjaa
/- THE CELL 'sum', in the pinned program and in every row, IS THE sha256 OF THE DUMP (.gsa) THAT YthcmokglgepgjaaProg.lean LOADS. Nothing in Lean hashes anything: it is a label: what it is worth is what the hold of that sum in a sandbox is worth. -/
noncomputable def Try.pinned : Pinned := { name := "ythcmokglgepgjaa", sum := "19b4a07efa2ab076c3d3d29a29c704b6530ff91aef4c5e100a1aa69b0d8d5fa8", checked := Try.checked }
namespace Rows
def none {H : Type} : Left H := { results := [], args := [] }

/-- 'firkinlaw03.FramePuts': WHATEVER THE INPUT: true; the input reads as it did. -/
def framePutsSpec : ChangeSpec := { name := "framePuts", fn := fun _ => fun
  | [d1, d2] => { results := [.lit (.bool true)], args := [d1, d2] }
  | _ => none }
def framePutsRow : OpenClaim := { program := "ythcmokglgepgjaa", sum := "19b4a07efa2ab076c3d3d29a29c704b6530ff91aef4c5e100a1aa69b0d8d5fa8", func := "firkin/firkinlaw03.FramePuts", spec := "framePuts", apart := false }
def FramePutsSaid : Prop := framePutsRow.holds Try.pinned (OpenSpec.ofChange framePutsSpec)

/-- ITS FALSE NEIGHBOUR: 'it returns false'. Refute it at one input. -/
def framePutsWrong : ChangeSpec := { name := "framePuts", fn := fun _ => fun
  | [d1, d2] => { results := [.lit (.bool false)], args := [d1, d2] }
  | _ => none }
def FramePutsWrongFalsely : Prop := framePutsRow.holds Try.pinned (OpenSpec.ofChange framePutsWrong)

/-- 'firkinlaw03.FrameTells': WHATEVER THE INPUT: true; the input reads as it did. -/
def frameTellsSpec : ChangeSpec := { name := "frameTells", fn := fun _ => fun
  | [d1, d2, d3] => { results := [.lit (.bool true)], args := [d1, d2, d3] }
  | _ => none }
def frameTellsRow : OpenClaim := { program := "ythcmokglgepgjaa", sum := "19b4a07efa2ab076c3d3d29a29c704b6530ff91aef4c5e100a1aa69b0d8d5fa8", func := "firkin/firkinlaw03.FrameTells", spec := "frameTells", apart := false }
def FrameTellsSaid : Prop := frameTellsRow.holds Try.pinned (OpenSpec.ofChange frameTellsSpec)

/-- ITS FALSE NEIGHBOUR: 'it returns false'. Refute it at one input. -/
def frameTellsWrong : ChangeSpec := { name := "frameTells", fn := fun _ => fun
  | [d1, d2, d3] => { results := [.lit (.bool false)], args := [d1, d2, d3] }
  | _ => none }
def FrameTellsWrongFalsely : Prop := frameTellsRow.holds Try.pinned (OpenSpec.ofChange frameTellsWrong)

/-- 'firkinlaw03.FrameGets': WHATEVER THE INPUT: true; the input reads as it did. -/
def frameGetsSpec : ChangeSpec := { name := "frameGets", fn := fun _ => fun
  | [d] => { results := [.lit (.bool true)], args := [d] }
  | _ => none }
def frameGetsRow : OpenClaim := { program := "ythcmokglgepgjaa", sum := "19b4a07efa2ab076c3d3d29a29c704b6530ff91aef4c5e100a1aa69b0d8d5fa8", func := "firkin/firkinlaw03.FrameGets", spec := "frameGets", unfollowed := true, recurses := true, apart := false }
def FrameGetsSaid : Prop := frameGetsRow.holds Try.pinned (OpenSpec.ofChange frameGetsSpec)

/-- ITS FALSE NEIGHBOUR: 'it returns false'. Refute it at one input. -/
def frameGetsWrong : ChangeSpec := { name := "frameGets", fn := fun _ => fun
  | [d] => { results := [.lit (.bool false)], args := [d] }
  | _ => none }
def FrameGetsWrongFalsely : Prop := frameGetsRow.holds Try.pinned (OpenSpec.ofChange frameGetsWrong)

/-- 'firkinlaw03.FrameAll': WHATEVER THE INPUT: true; the input reads as it did. -/
def frameAllSpec : ChangeSpec := { name := "frameAll", fn := fun _ => fun
  | [d1, d2] => { results := [.lit (.bool true)], args := [d1, d2] }
  | _ => none }
def frameAllRow : OpenClaim := { program := "ythcmokglgepgjaa", sum := "19b4a07efa2ab076c3d3d29a29c704b6530ff91aef4c5e100a1aa69b0d8d5fa8", func := "firkin/firkinlaw03.FrameAll", spec := "frameAll", unfollowed := true, recurses := true, apart := false }
def FrameAllSaid : Prop := frameAllRow.holds Try.pinned (OpenSpec.ofChange frameAllSpec)

/-- ITS FALSE NEIGHBOUR: 'it returns false'. Refute it at one input. -/
def frameAllWrong : ChangeSpec := { name := "frameAll", fn := fun _ => fun
  | [d1, d2] => { results := [.lit (.bool false)], args := [d1, d2] }
  | _ => none }
def FrameAllWrongFalsely : Prop := frameAllRow.holds Try.pinned (OpenSpec.ofChange frameAllWrong)

/-- 'firkinlaw14.DeadPuts': WHATEVER THE INPUT: true; the input reads as it did. -/
def deadPutsSpec : ChangeSpec := { name := "deadPuts", fn := fun _ => fun
  | [d] => { results := [.lit (.bool true)], args := [d] }
  | _ => none }
def deadPutsRow : OpenClaim := { program := "ythcmokglgepgjaa", sum := "19b4a07efa2ab076c3d3d29a29c704b6530ff91aef4c5e100a1aa69b0d8d5fa8", func := "firkin/firkinlaw14.DeadPuts", spec := "deadPuts", apart := false }
def DeadPutsSaid : Prop := deadPutsRow.holds Try.pinned (OpenSpec.ofChange deadPutsSpec)

/-- ITS FALSE NEIGHBOUR: 'it returns false'. Refute it at one input. -/
def deadPutsWrong : ChangeSpec := { name := "deadPuts", fn := fun _ => fun
  | [d] => { results := [.lit (.bool false)], args := [d] }
  | _ => none }
def DeadPutsWrongFalsely : Prop := deadPutsRow.holds Try.pinned (OpenSpec.ofChange deadPutsWrong)

/-- 'firkinlaw14.DeadGets': WHATEVER THE INPUT: true; the input reads as it did. -/
def deadGetsSpec : ChangeSpec := { name := "deadGets", fn := fun _ => fun
  | [d1, d2] => { results := [.lit (.bool true)], args := [d1, d2] }
  | _ => none }
def deadGetsRow : OpenClaim := { program := "ythcmokglgepgjaa", sum := "19b4a07efa2ab076c3d3d29a29c704b6530ff91aef4c5e100a1aa69b0d8d5fa8", func := "firkin/firkinlaw14.DeadGets", spec := "deadGets", apart := false }
def DeadGetsSaid : Prop := deadGetsRow.holds Try.pinned (OpenSpec.ofChange deadGetsSpec)

/-- ITS FALSE NEIGHBOUR: 'it returns false'. Refute it at one input. -/
def deadGetsWrong : ChangeSpec := { name := "deadGets", fn := fun _ => fun
  | [d1, d2] => { results := [.lit (.bool false)], args := [d1, d2] }
  | _ => none }
def DeadGetsWrongFalsely : Prop := deadGetsRow.holds Try.pinned (OpenSpec.ofChange deadGetsWrong)

/-- 'firkinlaw14.DeadMore': WHATEVER THE INPUT: true; the input reads as it did. -/
def deadMoreSpec : ChangeSpec := { name := "deadMore", fn := fun _ => fun
  | [d1, d2, d3] => { results := [.lit (.bool true)], args := [d1, d2, d3] }
  | _ => none }
def deadMoreRow : OpenClaim := { program := "ythcmokglgepgjaa", sum := "19b4a07efa2ab076c3d3d29a29c704b6530ff91aef4c5e100a1aa69b0d8d5fa8", func := "firkin/firkinlaw14.DeadMore", spec := "deadMore", apart := false }
def DeadMoreSaid : Prop := deadMoreRow.holds Try.pinned (OpenSpec.ofChange deadMoreSpec)

/-- ITS FALSE NEIGHBOUR: 'it returns false'. Refute it at one input. -/
def deadMoreWrong : ChangeSpec := { name := "deadMore", fn := fun _ => fun
  | [d1, d2, d3] => { results := [.lit (.bool false)], args := [d1, d2, d3] }
  | _ => none }
def DeadMoreWrongFalsely : Prop := deadMoreRow.holds Try.pinned (OpenSpec.ofChange deadMoreWrong)

/-- 'firkinlaw05.RunsPuts': WHATEVER THE INPUT: true; the input reads as it did. -/
def runsPutsSpec : ChangeSpec := { name := "runsPuts", fn := fun _ => fun
  | [d] => { results := [.lit (.bool true)], args := [d] }
  | _ => none }
def runsPutsRow : OpenClaim := { program := "ythcmokglgepgjaa", sum := "19b4a07efa2ab076c3d3d29a29c704b6530ff91aef4c5e100a1aa69b0d8d5fa8", func := "firkin/firkinlaw05.RunsPuts", spec := "runsPuts", apart := false }
def RunsPutsSaid : Prop := runsPutsRow.holds Try.pinned (OpenSpec.ofChange runsPutsSpec)

/-- ITS FALSE NEIGHBOUR: 'it returns false'. Refute it at one input. -/
def runsPutsWrong : ChangeSpec := { name := "runsPuts", fn := fun _ => fun
  | [d] => { results := [.lit (.bool false)], args := [d] }
  | _ => none }
def RunsPutsWrongFalsely : Prop := runsPutsRow.holds Try.pinned (OpenSpec.ofChange runsPutsWrong)

/-- 'firkinlaw05.RunsGets': WHATEVER THE INPUT: true; the input reads as it did. -/
def runsGetsSpec : ChangeSpec := { name := "runsGets", fn := fun _ => fun
  | [d1, d2] => { results := [.lit (.bool true)], args := [d1, d2] }
  | _ => none }
def runsGetsRow : OpenClaim := { program := "ythcmokglgepgjaa", sum := "19b4a07efa2ab076c3d3d29a29c704b6530ff91aef4c5e100a1aa69b0d8d5fa8", func := "firkin/firkinlaw05.RunsGets", spec := "runsGets", apart := false }
def RunsGetsSaid : Prop := runsGetsRow.holds Try.pinned (OpenSpec.ofChange runsGetsSpec)

/-- ITS FALSE NEIGHBOUR: 'it returns false'. Refute it at one input. -/
def runsGetsWrong : ChangeSpec := { name := "runsGets", fn := fun _ => fun
  | [d1, d2] => { results := [.lit (.bool false)], args := [d1, d2] }
  | _ => none }
def RunsGetsWrongFalsely : Prop := runsGetsRow.holds Try.pinned (OpenSpec.ofChange runsGetsWrong)

/-- 'firkinlaw05.RunsOne': WHATEVER THE INPUT: true; the input reads as it did. -/
def runsOneSpec : ChangeSpec := { name := "runsOne", fn := fun _ => fun
  | [d1, d2, d3] => { results := [.lit (.bool true)], args := [d1, d2, d3] }
  | _ => none }
def runsOneRow : OpenClaim := { program := "ythcmokglgepgjaa", sum := "19b4a07efa2ab076c3d3d29a29c704b6530ff91aef4c5e100a1aa69b0d8d5fa8", func := "firkin/firkinlaw05.RunsOne", spec := "runsOne", apart := false }
def RunsOneSaid : Prop := runsOneRow.holds Try.pinned (OpenSpec.ofChange runsOneSpec)

/-- ITS FALSE NEIGHBOUR: 'it returns false'. Refute it at one input. -/
def runsOneWrong : ChangeSpec := { name := "runsOne", fn := fun _ => fun
  | [d1, d2, d3] => { results := [.lit (.bool false)], args := [d1, d2, d3] }
  | _ => none }
def RunsOneWrongFalsely : Prop := runsOneRow.holds Try.pinned (OpenSpec.ofChange runsOneWrong)

/- THE SECOND FORM. 'bulk': how many values and letters a reading holds, each counted each time it is reached (what is shared counts as often as it is met; a slice's spare places count too). A statement '..UptoSaid' is the law's where the arguments, and the package variables that the reading takes, are together of bulk at most 1048576: NARROWER than '..Said'. Prove '..Said' where nothing that the law and all that it calls make is longer than what came in: it says more and counts as full. Else prove '..UptoSaid'. A law counts once. -/
mutual
def uptoBulk {H : Type} : DataW H → Nat
  | .lit (.string bytes) => bytes.length + 1
  | .lit _ => 1
  | .nil => 1
  | .ptr d => uptoBulk d + 1
  | .slice elems spare => uptoBulkAll elems + uptoBulkAll spare + 1
  | .agg parts => uptoBulkAll parts + 1
  | .iface _ d => uptoBulk d + 1
  | .map entries => uptoBulkEntries entries + 1
  | .held _ => 1
def uptoBulkAll {H : Type} : List (DataW H) → Nat
  | [] => 0
  | d :: r => uptoBulk d + uptoBulkAll r
def uptoBulkEntries {H : Type} : List (Lit × DataW H) → Nat
  | [] => 0
  | x :: r => uptoBulkEntry x + uptoBulkEntries r
def uptoBulkEntry {H : Type} : Lit × DataW H → Nat
  | (.string bytes, d) => bytes.length + uptoBulk d + 1
  | (_, d) => uptoBulk d + 1
 end
def uptoSmall : (H : Type) → List (DataW H) → Bool := fun _ ds => decide (uptoBulkAll ds ≤ 1048576)
def OpenSpec.upto (s : _root_.Go.ChangeSpec) : _root_.Go.OpenSpec := { _root_.Go.OpenSpec.ofChange s with cond := some uptoSmall }

/-- 'firkinlaw03.FramePuts', WHERE WHAT IT READS IS OF BULK AT MOST 1048576: true; the input reads as it did. -/
def framePutsUptoRow : OpenClaim := { program := "ythcmokglgepgjaa", sum := "19b4a07efa2ab076c3d3d29a29c704b6530ff91aef4c5e100a1aa69b0d8d5fa8", func := "firkin/firkinlaw03.FramePuts", spec := "framePuts", apart := false, narrowed := true }
def FramePutsUptoSaid : Prop := framePutsUptoRow.holds Try.pinned (OpenSpec.upto framePutsSpec)

/-- 'firkinlaw03.FrameTells', WHERE WHAT IT READS IS OF BULK AT MOST 1048576: true; the input reads as it did. -/
def frameTellsUptoRow : OpenClaim := { program := "ythcmokglgepgjaa", sum := "19b4a07efa2ab076c3d3d29a29c704b6530ff91aef4c5e100a1aa69b0d8d5fa8", func := "firkin/firkinlaw03.FrameTells", spec := "frameTells", apart := false, narrowed := true }
def FrameTellsUptoSaid : Prop := frameTellsUptoRow.holds Try.pinned (OpenSpec.upto frameTellsSpec)

/-- 'firkinlaw03.FrameGets', WHERE WHAT IT READS IS OF BULK AT MOST 1048576: true; the input reads as it did. -/
def frameGetsUptoRow : OpenClaim := { program := "ythcmokglgepgjaa", sum := "19b4a07efa2ab076c3d3d29a29c704b6530ff91aef4c5e100a1aa69b0d8d5fa8", func := "firkin/firkinlaw03.FrameGets", spec := "frameGets", unfollowed := true, recurses := true, apart := false, narrowed := true }
def FrameGetsUptoSaid : Prop := frameGetsUptoRow.holds Try.pinned (OpenSpec.upto frameGetsSpec)

/-- 'firkinlaw03.FrameAll', WHERE WHAT IT READS IS OF BULK AT MOST 1048576: true; the input reads as it did. -/
def frameAllUptoRow : OpenClaim := { program := "ythcmokglgepgjaa", sum := "19b4a07efa2ab076c3d3d29a29c704b6530ff91aef4c5e100a1aa69b0d8d5fa8", func := "firkin/firkinlaw03.FrameAll", spec := "frameAll", unfollowed := true, recurses := true, apart := false, narrowed := true }
def FrameAllUptoSaid : Prop := frameAllUptoRow.holds Try.pinned (OpenSpec.upto frameAllSpec)

/-- 'firkinlaw14.DeadPuts', WHERE WHAT IT READS IS OF BULK AT MOST 1048576: true; the input reads as it did. -/
def deadPutsUptoRow : OpenClaim := { program := "ythcmokglgepgjaa", sum := "19b4a07efa2ab076c3d3d29a29c704b6530ff91aef4c5e100a1aa69b0d8d5fa8", func := "firkin/firkinlaw14.DeadPuts", spec := "deadPuts", apart := false, narrowed := true }
def DeadPutsUptoSaid : Prop := deadPutsUptoRow.holds Try.pinned (OpenSpec.upto deadPutsSpec)

/-- 'firkinlaw14.DeadGets', WHERE WHAT IT READS IS OF BULK AT MOST 1048576: true; the input reads as it did. -/
def deadGetsUptoRow : OpenClaim := { program := "ythcmokglgepgjaa", sum := "19b4a07efa2ab076c3d3d29a29c704b6530ff91aef4c5e100a1aa69b0d8d5fa8", func := "firkin/firkinlaw14.DeadGets", spec := "deadGets", apart := false, narrowed := true }
def DeadGetsUptoSaid : Prop := deadGetsUptoRow.holds Try.pinned (OpenSpec.upto deadGetsSpec)

/-- 'firkinlaw14.DeadMore', WHERE WHAT IT READS IS OF BULK AT MOST 1048576: true; the input reads as it did. -/
def deadMoreUptoRow : OpenClaim := { program := "ythcmokglgepgjaa", sum := "19b4a07efa2ab076c3d3d29a29c704b6530ff91aef4c5e100a1aa69b0d8d5fa8", func := "firkin/firkinlaw14.DeadMore", spec := "deadMore", apart := false, narrowed := true }
def DeadMoreUptoSaid : Prop := deadMoreUptoRow.holds Try.pinned (OpenSpec.upto deadMoreSpec)

/-- 'firkinlaw05.RunsPuts', WHERE WHAT IT READS IS OF BULK AT MOST 1048576: true; the input reads as it did. -/
def runsPutsUptoRow : OpenClaim := { program := "ythcmokglgepgjaa", sum := "19b4a07efa2ab076c3d3d29a29c704b6530ff91aef4c5e100a1aa69b0d8d5fa8", func := "firkin/firkinlaw05.RunsPuts", spec := "runsPuts", apart := false, narrowed := true }
def RunsPutsUptoSaid : Prop := runsPutsUptoRow.holds Try.pinned (OpenSpec.upto runsPutsSpec)

/-- 'firkinlaw05.RunsGets', WHERE WHAT IT READS IS OF BULK AT MOST 1048576: true; the input reads as it did. -/
def runsGetsUptoRow : OpenClaim := { program := "ythcmokglgepgjaa", sum := "19b4a07efa2ab076c3d3d29a29c704b6530ff91aef4c5e100a1aa69b0d8d5fa8", func := "firkin/firkinlaw05.RunsGets", spec := "runsGets", apart := false, narrowed := true }
def RunsGetsUptoSaid : Prop := runsGetsUptoRow.holds Try.pinned (OpenSpec.upto runsGetsSpec)

/-- 'firkinlaw05.RunsOne', WHERE WHAT IT READS IS OF BULK AT MOST 1048576: true; the input reads as it did. -/
def runsOneUptoRow : OpenClaim := { program := "ythcmokglgepgjaa", sum := "19b4a07efa2ab076c3d3d29a29c704b6530ff91aef4c5e100a1aa69b0d8d5fa8", func := "firkin/firkinlaw05.RunsOne", spec := "runsOne", apart := false, narrowed := true }
def RunsOneUptoSaid : Prop := runsOneUptoRow.holds Try.pinned (OpenSpec.upto runsOneSpec)

end Rows
end Go.Proofs.Ythcmokglgepgjaa
