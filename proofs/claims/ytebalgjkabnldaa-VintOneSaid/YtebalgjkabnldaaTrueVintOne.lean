/- VintOne: its bytes are bytes, which is all that the walk asks. No condition. -/
import Derived.Test.YtebalgjkabnldaaLawVintOne
namespace Go.Proofs.Ytebalgjkabnldaa.True_
open Go.RowKit Go.Proofs.Ytebalgjkabnldaa.X Go.Proofs.Ytebalgjkabnldaa.Dec
theorem VintOne : ∀ (x0 : List Int), (x0.length ≤ maxLen ∧ ∀ z ∈ x0, (Lit.int .u8 z).wf = true) → firkinlaw01_VintOne.f x0 = some true := by
  intro x0 h
  unfold firkinlaw01_VintOne.f
  have hb : IsBytes x0 := fun x hx => byte_bounds (h.2 x hx)
  rw [if_pos hb]
end Go.Proofs.Ytebalgjkabnldaa.True_
