/- The plain law of DiskNil: the walk has shown it whole. -/
import Derived.Test.YtbkpcepnhjnpgaaLawDiskNil
namespace Go.Proofs.Ytbkpcepnhjnpgaa.True_
open Go.RowKit Go.Proofs.Ytbkpcepnhjnpgaa.X
theorem DiskNil : ∀ (x0 x1 : Int), (Lit.int .i64 x0).wf = true → (Lit.int .i64 x1).wf = true → firkinlaw25_DiskNil.f x0 x1 = some true := fun _ _ _ _ => rfl
end Go.Proofs.Ytbkpcepnhjnpgaa.True_
