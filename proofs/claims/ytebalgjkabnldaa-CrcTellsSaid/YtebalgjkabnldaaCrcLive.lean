/- firkinlaw02.live, the page's example: it answers true. -/
import Derived.Test.YtebalgjkabnldaaX3
import Derived.Test.YtebalgjkabnldaaMem
import Derived.Lib.SlBytesConst
namespace Go.Proofs.Ytebalgjkabnldaa.X
open Go.RowKit Go.Proofs.YtebalgjkabnldaaW.PrintWords Go.Proofs.YtebalgjkabnldaaW.PrintLast Go.Proofs.YtebalgjkabnldaaW.PrintMore
set_option linter.unusedVariables false
def firkinlaw02_live.f : Option Bool := some true
set_option maxHeartbeats 8000000 in
set_option maxRecDepth 100000 in
theorem firkinlaw02_live.calls (r : Bool) (w : World) (h : firkinlaw02_live.f = some r) :
    Calls Try.prog 15 #[] w fun e w' => e = .returned (.bool r) ∧ Below w.heap.size w w' := by
  obtain rfl := Option.some.inj h
  have kc := fun (w : World) (C : Array Value) (n c : Nat) => Lib.run_convert_bytes_const (P := Try.prog) w 22 5 C n c Try.underlying22 Try.underlying5
  go_enter Try.func15, Try.ntmps15
  go_wp2_with fail
  refine (crc_Of.calls 30 (some ⟨w.heap.size + 1, 0, none⟩) 1 [[49, 50, 51, 52, 53, 54, 55, 56, 57]] 3808858755 _ ?hr (Nat.le_refl _) ?hf).mono ?_
  case hf => decide +kernel
  case hr =>
    have h0 := Mem.alloc_new w (Obj.cells #[Value.int IntKind.u8 49, Value.int IntKind.u8 50, Value.int IntKind.u8 51, Value.int IntKind.u8 52, Value.int IntKind.u8 53, Value.int IntKind.u8 54, Value.int IntKind.u8 55, Value.int IntKind.u8 56, Value.int IntKind.u8 57] 5 (9, 10))
    refine Mem.C_one (xs := [49, 50, 51, 52, 53, 54, 55, 56, 57]) (c := 9) (A := some ⟨w.heap.size, 0, none⟩) (by have := Mem.alloc_new (w.alloc (Obj.cells #[Value.int IntKind.u8 49, Value.int IntKind.u8 50, Value.int IntKind.u8 51, Value.int IntKind.u8 52, Value.int IntKind.u8 53, Value.int IntKind.u8 54, Value.int IntKind.u8 55, Value.int IntKind.u8 56, Value.int IntKind.u8 57] 5 (9, 10))) (Obj.cells #[Value.slice (some { block := w.heap.size, off := 0 }) 9 9] 22); rwa [Mem.alloc_size] at this) rfl (by decide) ?_
    refine Mem.C_ints (xs := [49, 50, 51, 52, 53, 54, 55, 56, 57]) (Mem.alloc_old h0) (fun i hi => ?_) (by decide)
    match i, hi with
    | 0, _ | 1, _ | 2, _ | 3, _ | 4, _ | 5, _ | 6, _ | 7, _ | 8, _ => rfl
  rintro e w' ⟨rfl, ⟨nd, rfl⟩⟩
  go_wp2
  go_ret
  exact ⟨rfl, pw_below_drewN (below_alloc (below_alloc (Below.refl _ _) _) _) _⟩
end Go.Proofs.Ytebalgjkabnldaa.X
