/- SpanCuts: the pages that a run of bytes is cut into are the document's. No condition. -/
import Derived.Test.YtbepdhndnhoelaaX15
import Derived.Test.YtbepdhndnhoelaaSpanCut
import Derived.Test.YtbepdhndnhoelaaWf
namespace Go.Proofs.Ytbepdhndnhoelaa.True_
open Go Go.RowKit Go.Proofs.Ytbepdhndnhoelaa.X Go.Proofs.Ytbepdhndnhoelaa.SpanCut
theorem SpanCuts : ∀ (x0 : S33) (x1 : List Int), ((Lit.int .i64 x0.f0).wf = true ∧ (Lit.int .i64 x0.f1).wf = true) → (x1.length ≤ maxLen ∧ ∀ z ∈ x1, (Lit.int .u8 z).wf = true) → ∃ k, firkinlaw26_SpanCuts.f k x0.f0 x0.f1 x1 = some true := by
  intro x0 x1 h0 h1
  obtain ⟨b0, b1⟩ := Wf.i64 h0.1
  obtain ⟨c0, c1⟩ := Wf.i64 h0.2
  refine ⟨1000, ?_⟩
  have ht : ∀ b, b = true → firkinlaw26_SpanCuts.j0 1000 x1 b x0.f0 x0.f1 = some true := by
    rintro b rfl
    rw [firkinlaw26_SpanCuts.j0, if_pos rfl, live_at 999 (by decide)]; rfl
  have hf : ∀ b, b = false → x1.length ≤ 1000 → ¬ (0 ≤ x0.f0 ∧ x0.f1 ≤ 5461 ∧ 0 ≤ x0.f1 ∧ 20 < wrap64 (x0.f1 - x0.f0)) → firkinlaw26_SpanCuts.j0 1000 x1 b x0.f0 x0.f1 = some true := by
    rintro b rfl hx h
    obtain ⟨l, e1, e2⟩ := cut_same x1 x0.f0 x0.f1 hx b0 b1 c0 c1 h
    rw [firkinlaw26_SpanCuts.j0, if_neg (by decide), e1, Option.bind_some, e2, Option.bind_some]
    unfold firkinref03_Lists.f
    rw [Option.bind_some, lists_self, if_pos rfl, live_at 999 (by decide)]; rfl
  unfold firkinlaw26_SpanCuts.f
  by_cases hl : (x1.length : Int) > 1000
  · rw [if_pos hl]; exact ht _ rfl
  rw [if_neg hl]
  by_cases g1 : x0.f0 ≥ 0
  · rw [if_pos g1]
    by_cases g2 : x0.f1 ≤ 5461
    · rw [if_pos g2]
      by_cases g3 : x0.f1 ≥ 0
      · rw [if_pos g3]
        by_cases g4 : wrap64 (x0.f1 - x0.f0) > 20
        · exact ht _ (by simpa using g4)
        · exact hf _ (by simpa using g4) (by omega) (fun h => g4 h.2.2.2)
      · rw [if_neg g3]; exact hf _ rfl (by omega) (fun h => g3 h.2.2.1)
    · rw [if_neg g2]; exact hf _ rfl (by omega) (fun h => g2 h.2.1)
  · rw [if_neg g1]; exact hf _ rfl (by omega) (fun h => g1 h.1)
end Go.Proofs.Ytbepdhndnhoelaa.True_
