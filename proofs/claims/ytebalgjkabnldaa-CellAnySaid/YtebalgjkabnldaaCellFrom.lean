/- What the code's cells become of the values that the laws hand it (cell.From). -/
import Derived.Test.YtebalgjkabnldaaX0
import Derived.Test.YtebalgjkabnldaaMem
import Derived.Lib.Hide
namespace Go.Proofs.Ytebalgjkabnldaa.X
open Go.RowKit Go.Proofs.YtebalgjkabnldaaW.PrintWords Go.Proofs.YtebalgjkabnldaaW.PrintLast Go.Proofs.YtebalgjkabnldaaW.PrintMore
set_option linter.unusedVariables false
set_option linter.unusedSimpArgs false
set_option maxHeartbeats 8000000 in
set_option maxRecDepth 100000 in
theorem cell_From.text (s : ByteArray) (w : World) :
    Calls Try.prog 61 #[.iface 9 (.string s)] w fun e w' => e = .returned (.tuple #[.agg #[.bool false, .int .i64 0, .string s], .int .i64 3]) ∧ Below w.heap.size w w' := by
  have h1 : ∀ w : World, (Instr.typeAssert (.iface 9 (.string s)) 20 2 true).run Try.prog w = .ok (.tuple #[.int .i64 0, .bool false]) w := fun w => by kernel_rfl
  have h2 : ∀ w : World, (Instr.typeAssert (.iface 9 (.string s)) 20 9 true).run Try.prog w = .ok (.tuple #[.string s, .bool true]) w := fun w => by kernel_rfl
  go_enter Try.func61, Try.ntmps61
  go_wp2_with fail
  exact bodyPost_ret (v := .tuple #[.agg #[.bool false, .int .i64 0, .string s], .int .i64 3]) (by simp [results, Try.results61, go_sem]) rfl ⟨rfl, by repeat (first | exact Below.refl _ _ | refine below_alloc ?_ _ | refine below_set ?_ (by simp))⟩
set_option maxHeartbeats 8000000 in
set_option maxRecDepth 100000 in
theorem cell_From.int (n : Int) (w : World) :
    Calls Try.prog 61 #[.iface 2 (.int .i64 n)] w fun e w' => e = .returned (.tuple #[.agg #[.bool false, .int .i64 n, .string ⟨#[]⟩], .int .i64 1]) ∧ Below w.heap.size w w' := by
  have h1 : ∀ w : World, (Instr.typeAssert (.iface 2 (.int .i64 n)) 20 2 true).run Try.prog w = .ok (.tuple #[.int .i64 n, .bool true]) w := fun w => by kernel_rfl
  go_enter Try.func61, Try.ntmps61
  go_wp2_with fail
  exact bodyPost_ret (v := .tuple #[.agg #[.bool false, .int .i64 n, .string ⟨#[]⟩], .int .i64 1]) (by simp [results, Try.results61, go_sem]) rfl ⟨rfl, by repeat (first | exact Below.refl _ _ | refine below_alloc ?_ _ | refine below_set ?_ (by simp))⟩
set_option maxHeartbeats 8000000 in
set_option maxRecDepth 100000 in
theorem cell_From.bool_true (w : World) :
    Calls Try.prog 61 #[.iface 4 (.bool true)] w fun e w' => e = .returned (.tuple #[.agg #[.bool false, .int .i64 1, .string ⟨#[]⟩], .int .i64 2]) ∧ Below w.heap.size w w' := by
  have h1 : ∀ w : World, (Instr.typeAssert (.iface 4 (.bool true)) 20 2 true).run Try.prog w = .ok (.tuple #[.int .i64 0, .bool false]) w := fun w => by kernel_rfl
  have h2 : ∀ w : World, (Instr.typeAssert (.iface 4 (.bool true)) 20 9 true).run Try.prog w = .ok (.tuple #[.string ⟨#[]⟩, .bool false]) w := fun w => by kernel_rfl
  have h3 : ∀ w : World, (Instr.typeAssert (.iface 4 (.bool true)) 20 4 true).run Try.prog w = .ok (.tuple #[.bool true, .bool true]) w := fun w => by kernel_rfl
  go_enter Try.func61, Try.ntmps61
  go_wp2_with fail
  exact bodyPost_ret (v := .tuple #[.agg #[.bool false, .int .i64 1, .string ⟨#[]⟩], .int .i64 2]) (by simp [results, Try.results61, go_sem]) rfl ⟨rfl, by repeat (first | exact Below.refl _ _ | refine below_alloc ?_ _ | refine below_set ?_ (by simp))⟩
set_option maxHeartbeats 8000000 in
set_option maxRecDepth 100000 in
theorem cell_From.bool_false (w : World) :
    Calls Try.prog 61 #[.iface 4 (.bool false)] w fun e w' => e = .returned (.tuple #[.agg #[.bool false, .int .i64 0, .string ⟨#[]⟩], .int .i64 2]) ∧ Below w.heap.size w w' := by
  have h1 : ∀ w : World, (Instr.typeAssert (.iface 4 (.bool false)) 20 2 true).run Try.prog w = .ok (.tuple #[.int .i64 0, .bool false]) w := fun w => by kernel_rfl
  have h2 : ∀ w : World, (Instr.typeAssert (.iface 4 (.bool false)) 20 9 true).run Try.prog w = .ok (.tuple #[.string ⟨#[]⟩, .bool false]) w := fun w => by kernel_rfl
  have h3 : ∀ w : World, (Instr.typeAssert (.iface 4 (.bool false)) 20 4 true).run Try.prog w = .ok (.tuple #[.bool false, .bool true]) w := fun w => by kernel_rfl
  go_enter Try.func61, Try.ntmps61
  go_wp2_with fail
  exact bodyPost_ret (v := .tuple #[.agg #[.bool false, .int .i64 0, .string ⟨#[]⟩], .int .i64 2]) (by simp [results, Try.results61, go_sem]) rfl ⟨rfl, by repeat (first | exact Below.refl _ _ | refine below_alloc ?_ _ | refine below_set ?_ (by simp))⟩
set_option maxHeartbeats 8000000 in
set_option maxRecDepth 100000 in
theorem cell_From.none_ (w : World) :
    Calls Try.prog 61 #[.nilIface] w fun e w' => e = .returned (.tuple #[.agg #[.bool true, .int .i64 0, .string ⟨#[]⟩], .int .i64 0]) ∧ Below w.heap.size w w' := by
  go_enter Try.func61, Try.ntmps61
  go_wp2_with fail
  exact bodyPost_ret (v := .tuple #[.agg #[.bool true, .int .i64 0, .string ⟨#[]⟩], .int .i64 0]) (by simp [results, Try.results61, go_sem]) rfl ⟨rfl, by repeat (first | exact Below.refl _ _ | refine below_alloc ?_ _ | refine below_set ?_ (by simp))⟩
set_option maxHeartbeats 8000000 in
set_option maxRecDepth 100000 in
theorem cell_From.bytes (A : Option Addr) (n c : Nat) (w : World) :
    Calls Try.prog 61 #[.iface 22 (.slice A n c)] w fun e w' => e = .returned (.tuple #[.agg #[.bool false, .int .i64 0, .string ⟨#[]⟩], .int .i64 (-1)]) ∧ Below w.heap.size w w' := by
  have h1 : ∀ w : World, (Instr.typeAssert (.iface 22 (.slice A n c)) 20 2 true).run Try.prog w = .ok (.tuple #[.int .i64 0, .bool false]) w := fun w => by kernel_rfl
  have h2 : ∀ w : World, (Instr.typeAssert (.iface 22 (.slice A n c)) 20 9 true).run Try.prog w = .ok (.tuple #[.string ⟨#[]⟩, .bool false]) w := fun w => by kernel_rfl
  have h3 : ∀ w : World, (Instr.typeAssert (.iface 22 (.slice A n c)) 20 4 true).run Try.prog w = .ok (.tuple #[.bool false, .bool false]) w := fun w => by kernel_rfl
  go_enter Try.func61, Try.ntmps61
  go_wp2_with fail
  exact bodyPost_ret (v := .tuple #[.agg #[.bool false, .int .i64 0, .string ⟨#[]⟩], .int .i64 (-1)]) (by simp [results, Try.results61, go_sem]) rfl ⟨rfl, by repeat (first | exact Below.refl _ _ | refine below_alloc ?_ _ | refine below_set ?_ (by simp))⟩
end Go.Proofs.Ytebalgjkabnldaa.X
