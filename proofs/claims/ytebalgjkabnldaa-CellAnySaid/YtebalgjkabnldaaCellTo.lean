/- cell.To, Int, Bool, Text: what the code's cells become, and what values are. -/
import Derived.Test.YtebalgjkabnldaaX0
import Derived.Test.YtebalgjkabnldaaMem
import Derived.Lib.Hide
namespace Go.Proofs.Ytebalgjkabnldaa.X
open Go.RowKit Go.Proofs.YtebalgjkabnldaaW.PrintWords Go.Proofs.YtebalgjkabnldaaW.PrintLast Go.Proofs.YtebalgjkabnldaaW.PrintMore
set_option linter.unusedVariables false
set_option linter.unusedSimpArgs false

set_option maxHeartbeats 8000000 in
set_option maxRecDepth 100000 in
theorem cell_To.null (ty : Int) (c1 : Int) (c2 : ByteArray) (w : World) :
    Calls Try.prog 62 #[.int .i64 ty, .agg #[.bool true, .int .i64 c1, .string c2]] w fun e w' => e = .returned (.nilIface) ∧ Below w.heap.size w w' := by
  have HB := Aside0.mk (below_alloc (Below.refl w.heap.size w) (.cells #[.bool true, .int .i64 c1, .string c2] 60))
  go_enter Try.func62, Try.ntmps62
  go_wp2_with fail
  go_ret
  exact ⟨rfl, HB.out⟩

set_option maxHeartbeats 8000000 in
set_option maxRecDepth 100000 in
theorem cell_To.int (ty : Int) (ht : ty = 1) (c1 : Int) (c2 : ByteArray) (w : World) :
    Calls Try.prog 62 #[.int .i64 ty, .agg #[.bool false, .int .i64 c1, .string c2]] w fun e w' => e = .returned (.iface 2 (.int .i64 c1)) ∧ Below w.heap.size w w' := by
  subst ht
  have HB := Aside0.mk (below_alloc (Below.refl w.heap.size w) (.cells #[.bool false, .int .i64 c1, .string c2] 60))
  go_enter Try.func62, Try.ntmps62
  go_wp2_with fail
  go_ret
  exact ⟨rfl, HB.out⟩

set_option maxHeartbeats 8000000 in
set_option maxRecDepth 100000 in
theorem cell_To.bool (ty : Int) (ht : ty = 2) (c1 : Int) (c2 : ByteArray) (w : World) :
    Calls Try.prog 62 #[.int .i64 ty, .agg #[.bool false, .int .i64 c1, .string c2]] w fun e w' => e = .returned (.iface 4 (.bool (c1 != 0))) ∧ Below w.heap.size w w' := by
  subst ht
  have HB := Aside0.mk (below_alloc (Below.refl w.heap.size w) (.cells #[.bool false, .int .i64 c1, .string c2] 60))
  go_enter Try.func62, Try.ntmps62
  go_wp2_with fail
  go_ret
  exact ⟨rfl, HB.out⟩

set_option maxHeartbeats 8000000 in
set_option maxRecDepth 100000 in
theorem cell_To.text (ty : Int) (ht : ty = 3) (c1 : Int) (c2 : ByteArray) (w : World) :
    Calls Try.prog 62 #[.int .i64 ty, .agg #[.bool false, .int .i64 c1, .string c2]] w fun e w' => e = .returned (.iface 9 (.string c2)) ∧ Below w.heap.size w w' := by
  subst ht
  have HB := Aside0.mk (below_alloc (Below.refl w.heap.size w) (.cells #[.bool false, .int .i64 c1, .string c2] 60))
  go_enter Try.func62, Try.ntmps62
  go_wp2_with fail
  go_ret
  exact ⟨rfl, HB.out⟩

set_option maxHeartbeats 8000000 in
set_option maxRecDepth 100000 in
theorem cell_To.other (ty : Int) (h1 : (ty == 1) = false) (h2 : (ty == 2) = false) (h3 : (ty == 3) = false) (c1 : Int) (c2 : ByteArray) (w : World) :
    Calls Try.prog 62 #[.int .i64 ty, .agg #[.bool false, .int .i64 c1, .string c2]] w fun e w' => e = .returned (.nilIface) ∧ Below w.heap.size w w' := by
  have HB := Aside0.mk (below_alloc (Below.refl w.heap.size w) (.cells #[.bool false, .int .i64 c1, .string c2] 60))
  go_enter Try.func62, Try.ntmps62
  go_wp2_with fail
  go_ret
  exact ⟨rfl, HB.out⟩

set_option maxHeartbeats 8000000 in
set_option maxRecDepth 100000 in
theorem cell_Int.val (n : Int) (w : World) :
    Calls Try.prog 63 #[.iface 2 (.int .i64 n)] w fun e w' => e = .returned (.int .i64 n) ∧ Below w.heap.size w w' := by
  have h1 : ∀ w : World, (Instr.typeAssert (.iface 2 (.int .i64 n)) 20 2 false).run Try.prog w = .ok (.int .i64 n) w := fun w => by kernel_rfl
  go_enter Try.func63, Try.ntmps63
  go_wp2_with fail
  go_ret
  exact ⟨rfl, Below.refl _ _⟩

set_option maxHeartbeats 8000000 in
set_option maxRecDepth 100000 in
theorem cell_Bool.val (n : Bool) (w : World) :
    Calls Try.prog 64 #[.iface 4 (.bool n)] w fun e w' => e = .returned (.bool n) ∧ Below w.heap.size w w' := by
  have h1 : ∀ w : World, (Instr.typeAssert (.iface 4 (.bool n)) 20 4 false).run Try.prog w = .ok (.bool n) w := fun w => by kernel_rfl
  go_enter Try.func64, Try.ntmps64
  go_wp2_with fail
  go_ret
  exact ⟨rfl, Below.refl _ _⟩

set_option maxHeartbeats 8000000 in
set_option maxRecDepth 100000 in
theorem cell_Text.val (n : ByteArray) (w : World) :
    Calls Try.prog 65 #[.iface 9 (.string n)] w fun e w' => e = .returned (.string n) ∧ Below w.heap.size w w' := by
  have h1 : ∀ w : World, (Instr.typeAssert (.iface 9 (.string n)) 20 9 false).run Try.prog w = .ok (.string n) w := fun w => by kernel_rfl
  go_enter Try.func65, Try.ntmps65
  go_wp2_with fail
  go_ret
  exact ⟨rfl, Below.refl _ _⟩

end Go.Proofs.Ytebalgjkabnldaa.X
