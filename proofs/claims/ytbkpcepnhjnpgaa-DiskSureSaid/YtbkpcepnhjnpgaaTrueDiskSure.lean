/- The plain law of DiskSure: the walk has shown it whole. -/
import Derived.Test.YtbkpcepnhjnpgaaLawDiskSure
namespace Go.Proofs.Ytbkpcepnhjnpgaa.True_
open Go.RowKit Go.Proofs.Ytbkpcepnhjnpgaa.X
theorem DiskSure : ∀ (x0 : Int) (x1 x2 : List Int), (Lit.int .u8 x0).wf = true → (x1.length ≤ maxLen ∧ ∀ z ∈ x1, (Lit.int .u8 z).wf = true) → (x2.length ≤ maxLen ∧ ∀ z ∈ x2, (Lit.int .i64 z).wf = true) → firkinlaw25_DiskSure.f x0 x1 x2 = some true := fun _ _ _ _ _ _ => rfl
end Go.Proofs.Ytbkpcepnhjnpgaa.True_
