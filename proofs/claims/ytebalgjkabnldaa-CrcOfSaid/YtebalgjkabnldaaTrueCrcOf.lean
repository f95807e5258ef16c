/- CrcOf, in plain numbers and lists: every bytes' sum is the document's, bit by bit, and from every sum on. No condition. -/
import Derived.Test.YtebalgjkabnldaaCrc
namespace Go.Proofs.Ytebalgjkabnldaa.True_
open Go.RowKit Go.Proofs.Ytebalgjkabnldaa.X Go.Proofs.Ytebalgjkabnldaa.Crc
theorem CrcOf : ∀ (x0 : List Int) (x1 : Int), (x0.length ≤ maxLen ∧ ∀ z ∈ x0, (Lit.int .u8 z).wf = true) → (Lit.int .u32 x1).wf = true → ∃ k, firkinlaw02_CrcOf.f k x0 x1 = some true := by
  intro x0 x1 h0 h1
  obtain ⟨a, b⟩ := u32_bounds h1
  obtain ⟨s, rfl⟩ := Int.eq_ofNat_of_zero_le a
  exact ⟨20000, of x0 (fun x hx => byte_bounds (h0.2 x hx)) s (by omega)⟩
end Go.Proofs.Ytebalgjkabnldaa.True_
