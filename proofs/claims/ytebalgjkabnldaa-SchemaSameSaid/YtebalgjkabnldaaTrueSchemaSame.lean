/- SchemaSame, in plain lists: which columns are the same. -/
import Derived.Test.YtebalgjkabnldaaSchemaPlain
import Derived.Test.YtebalgjkabnldaaX14
namespace Go.Proofs.Ytebalgjkabnldaa.True_
open Go.RowKit Go.Proofs.Ytebalgjkabnldaa.X Go.Proofs.Ytebalgjkabnldaa.Cols Go.Proofs.YtebalgjkabnldaaW.PrintWords Go.Proofs.YtebalgjkabnldaaW.PrintLast Go.Proofs.YtebalgjkabnldaaW.PrintMore
set_option linter.unusedVariables false
set_option maxRecDepth 100000 in
theorem live_true : firkinlaw12_live.f = some true := by decide +kernel
theorem SchemaSame : ∀ (x0 : List (S90)) (x1 : List (S90)), (x0.length ≤ maxLen ∧ ∀ z ∈ x0, (z.f0.size ≤ maxLen ∧ (Lit.int .i64 z.f1).wf = true ∧ True)) → (x1.length ≤ maxLen ∧ ∀ z ∈ x1, (z.f0.size ≤ maxLen ∧ (Lit.int .i64 z.f1).wf = true ∧ True)) → ∃ k, firkinlaw12_SchemaSame.f k x0 x1 = some true := by
  intro a b _ _
  refine ⟨101, ?_⟩
  unfold firkinlaw12_SchemaSame.f
  obtain ⟨p, hp, hp2⟩ := small_get a 101 (by omega)
  obtain ⟨q, hq, _⟩ := small_get b 101 (by omega)
  rw [hp, Option.bind_some]
  have hj : ∀ c, (c = false → a.length ≤ 20) → firkinlaw12_SchemaSame.j0 101 a b c = some true := by
    intro c hc
    rw [firkinlaw12_SchemaSame.j0]
    cases c with
    | true => rw [if_pos rfl, live_true]; rfl
    | false =>
      have := hc rfl
      rw [if_neg (by decide), code_same a b (by omega) _ (by omega), ref_same a b (by omega) _ (by omega), code_same a a (by omega) _ (by omega), sameL_self, live_true]
      simp
  cases p with
  | true =>
    rw [if_pos rfl, hq, Option.bind_some]
    exact hj _ (fun _ => hp2 rfl)
  | false =>
    rw [if_neg (by decide)]
    exact hj true (fun h => by cases h)
end Go.Proofs.Ytebalgjkabnldaa.True_
