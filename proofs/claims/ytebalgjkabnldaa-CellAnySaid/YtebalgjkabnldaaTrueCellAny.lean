/- CellAny: cells become values, and come back; what is no cell's value is told. No condition. -/
import Derived.Test.YtebalgjkabnldaaLawCellAny
namespace Go.Proofs.Ytebalgjkabnldaa.True_
open Go Go.RowKit Go.Proofs.Ytebalgjkabnldaa.X
theorem CellAny : ∀ (x0 : Int) (x1 : S60) (x2 : S77), (Lit.int .i64 x0).wf = true → (True ∧ (Lit.int .i64 x1.f1).wf = true ∧ x1.f2.size ≤ maxLen) → ((Lit.int .i64 x2.f0).wf = true ∧ True ∧ x2.f2.size ≤ maxLen) → firkinlaw09_CellAny.f x0 x1.f0 x1.f1 x1.f2 x2.f0 x2.f1 x2.f2 = some true := fun _ _ _ _ _ _ => rfl
end Go.Proofs.Ytebalgjkabnldaa.True_
