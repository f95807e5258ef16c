/- ZoneMay: which zones there may be, and which cells they have, is the document's. No condition. -/
import Derived.Test.YtkdlfejokahohaaX9
import Derived.Test.YtkdlfejokahohaaZonePlainR
namespace Go.Proofs.Ytkdlfejokahohaa.True_
open Go Go.RowKit Go.Proofs.Ytkdlfejokahohaa.X Go.Proofs.Ytkdlfejokahohaa.CellPlain Go.Proofs.YtkdlfejokahohaaW.PrintWords Go.Proofs.YtkdlfejokahohaaW.PrintLast Go.Proofs.YtkdlfejokahohaaW.PrintMore
set_option linter.unusedVariables false
set_option linter.unusedSimpArgs false
theorem zone_live : firkinlaw11_live.f = some true := by
  unfold firkinlaw11_live.f zone_Of.f
  decide +kernel
theorem ZoneMay : ∀ (x0 : Int) (x1 : S25) (x2 : S23), (Lit.int .i64 x0).wf = true → ((Lit.int .i64 x1.f0).wf = true ∧ (Lit.int .i64 x1.f1).wf = true ∧ (True ∧ (Lit.int .i64 x1.f2.f1).wf = true ∧ x1.f2.f2.size ≤ maxLen) ∧ (True ∧ (Lit.int .i64 x1.f3.f1).wf = true ∧ x1.f3.f2.size ≤ maxLen)) → (True ∧ (Lit.int .i64 x2.f1).wf = true ∧ x2.f2.size ≤ maxLen) → ∃ k, firkinlaw11_ZoneMay.f k x0 x1.f0 x1.f1 x1.f2.f0 x1.f2.f1 x1.f2.f2 x1.f3.f0 x1.f3.f1 x1.f3.f2 x2.f0 x2.f1 x2.f2 = some true := by
  intro x0 x1 x2 _ _ _
  refine ⟨12, ?_⟩
  have hj : ∀ b, firkinlaw11_ZoneMay.j0 12 x0 b x1.f0 x1.f1 x1.f2.f0 x1.f2.f1 x1.f2.f2 x1.f3.f0 x1.f3.f1 x1.f3.f2 x2.f0 x2.f1 x2.f2 = some true := by
    intro b
    rw [firkinlaw11_ZoneMay.j0]
    cases b
    · rw [if_neg (by decide), zmay_is _ _ _ _ _ _ _ _ _ 11 (by decide), Option.bind_some, rzmay_is, Option.bind_some, if_pos (beq_self_eq_true _), zhas_is _ _ _ _ _ _ _ _ _ _ _ 11 (by decide), Option.bind_some, rzhas_is, Option.bind_some, if_pos (beq_self_eq_true _), zone_live]; rfl
    · rw [if_pos rfl, zone_live]; rfl
  unfold firkinlaw11_ZoneMay.f
  simp only [hj, ite_self]
end Go.Proofs.Ytkdlfejokahohaa.True_
