/- What the page's example of spans answers. -/
import Derived.Test.YtbepdhndnhoelaaX11
namespace Go.Proofs.Ytbepdhndnhoelaa.SpanLive
open Go Go.RowKit Go.Proofs.Ytbepdhndnhoelaa.X Go.Proofs.YtbepdhndnhoelaaW.PrintWords Go.Proofs.YtbepdhndnhoelaaW.PrintLast Go.Proofs.YtbepdhndnhoelaaW.PrintMore
set_option linter.unusedVariables false
set_option linter.unusedSimpArgs false
theorem live_is : firkinlaw26_live.f 100 = some true := by
  have hs : slices_Sort_int.f [1, 2, 5] = some [1, 2, 5] := by
    unfold slices_Sort_int.f
    rw [if_pos (by decide)]
    congr 1
    exact List.mergeSort_of_pairwise (by decide)
  have hr : ∀ g, span_Runs.f 100 [1, 2, 5] g = span_Runs.l0 100 g [] [1, 2, 5] 3 0 := by
    intro g
    have h1 : slices_Clone_int.f [1, 2, 5] = some [1, 2, 5] := by decide +kernel
    have h2 : slices_DeleteFunc_neg.f [1, 2, 5] = some [1, 2, 5] := by decide +kernel
    have h4 : slices_Compact_int.f [1, 2, 5] = some [1, 2, 5] := by decide +kernel
    unfold span_Runs.f
    rw [h1, Option.bind_some, h2, Option.bind_some, hs, Option.bind_some, h4, Option.bind_some]; rfl
  unfold firkinlaw26_live.f
  rw [hr, hr]
  decide +kernel
theorem live_at (k : Nat) (h : 100 ≤ k) : firkinlaw26_live.f k = some true := by
  obtain ⟨d, rfl⟩ : ∃ d, k = 100 + d := ⟨k - 100, by omega⟩
  clear h
  induction d with
  | zero => exact live_is
  | succ d ih => exact firkinlaw26_live.mono _ _ ih
end Go.Proofs.Ytbepdhndnhoelaa.SpanLive
