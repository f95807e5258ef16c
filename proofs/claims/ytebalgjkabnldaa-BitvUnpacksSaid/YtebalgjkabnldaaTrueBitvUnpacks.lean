/- BitvUnpacks, in plain numbers and lists: which truths whatever bytes have, and that packed anew they are the bytes. No condition. -/
import Derived.Test.YtebalgjkabnldaaBitv
namespace Go.Proofs.Ytebalgjkabnldaa.True_
open Go.RowKit Go.Proofs.Ytebalgjkabnldaa.X Go.Proofs.Ytebalgjkabnldaa.Bitv
theorem BitvUnpacks : ∀ (x0 : List Int) (x1 : Int), (x0.length ≤ maxLen ∧ ∀ z ∈ x0, (Lit.int .u8 z).wf = true) → (Lit.int .i64 x1).wf = true → ∃ k, firkinlaw04_BitvUnpacks.f k x0 x1 = some true := by
  intro x0 x1 h0 h1
  have h' : (decide ((-9223372036854775808 : Int) ≤ x1) && decide (x1 ≤ 9223372036854775807)) = true := h1
  rw [Bool.and_eq_true, decide_eq_true_eq, decide_eq_true_eq] at h'
  exact ⟨5000, unpacks x0 x1 (wf_bytes h0.2) ⟨h'.1, by omega⟩⟩
end Go.Proofs.Ytebalgjkabnldaa.True_
