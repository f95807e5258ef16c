/- BitvPacks, in plain numbers and lists: every truths' bits are the reference's, and they are unpacked. No condition. -/
import Derived.Test.YtebalgjkabnldaaBitv
namespace Go.Proofs.Ytebalgjkabnldaa.True_
open Go.RowKit Go.Proofs.Ytebalgjkabnldaa.X Go.Proofs.Ytebalgjkabnldaa.Bitv
theorem BitvPacks : ∀ (x0 : List Bool), (x0.length ≤ maxLen ∧ ∀ z ∈ x0, True) → ∃ k, firkinlaw04_BitvPacks.f k x0 = some true :=
  fun x0 _ => ⟨10000, packs x0⟩
end Go.Proofs.Ytebalgjkabnldaa.True_
