/- The plain law of StageNil: the walk has shown it whole. -/
import Derived.Test.YtbkpcepnhjnpgaaLawStageNil
namespace Go.Proofs.Ytbkpcepnhjnpgaa.True_
open Go.RowKit Go.Proofs.Ytbkpcepnhjnpgaa.X
theorem StageNil : ∀ (x0 x1 x2 : Int), (Lit.int .i64 x0).wf = true → (Lit.int .i64 x1).wf = true → (Lit.int .i64 x2).wf = true → firkinlaw35_StageNil.f x0 x1 x2 = some true := fun _ _ _ _ _ _ => rfl
end Go.Proofs.Ytbkpcepnhjnpgaa.True_
