/- FoldValues: every aggregate of whatever cells is the document's, and so is its type. No condition. -/
import Derived.Test.YtkdlfejokahohaaFoldPlain
import Derived.Test.YtkdlfejokahohaaX8
namespace Go.Proofs.Ytkdlfejokahohaa.True_
open Go Go.RowKit Go.Proofs.Ytkdlfejokahohaa.X Go.Proofs.Ytkdlfejokahohaa.Fold Go.Proofs.YtkdlfejokahohaaW.PrintWords Go.Proofs.YtkdlfejokahohaaW.PrintLast Go.Proofs.YtkdlfejokahohaaW.PrintMore
set_option linter.unusedVariables false
set_option linter.unusedSimpArgs false
theorem fv_j3 (k : Nat) (hk : 400 ≤ k) (l : List S23) (hl : l.length ≤ 100) (ho : ∀ x ∈ l, Ok x) (op ty want : Int) (hw : want = if 1 ≤ op ∧ op ≤ 3 then 1 else if op = 4 ∨ op = 5 then ty else 0) : firkinlaw22_FoldValues.j3 (k + 1) l op ty want = some true := by
  obtain ⟨s, h1, h2⟩ := of_is l (by omega) ho k (by omega)
  obtain ⟨r, h3, h4⟩ := value_eq h2 (by omega) op k (by omega)
  obtain ⟨k', rfl⟩ : ∃ m, k = m + 3 := ⟨k - 3, by omega⟩
  rw [firkinlaw22_FoldValues.j3, h1, Option.bind_some]
  simp only [St.tup]
  rw [h4, Option.bind_some, h3, Option.bind_some, if_pos (by simp), type_is, Option.bind_some, if_pos hw.symm, live_k _ (by omega)]
  rfl
theorem FoldValues : ∀ (x0 : List (S23)) (x1 : Int) (x2 : Int), (x0.length ≤ maxLen ∧ ∀ z ∈ x0, (True ∧ (Lit.int .i64 z.f1).wf = true ∧ z.f2.size ≤ maxLen)) → (Lit.int .i64 x1).wf = true → (Lit.int .i64 x2).wf = true → ∃ k, firkinlaw22_FoldValues.f k x0 x1 x2 = some true := by
  intro l op ty hl _ _
  refine ⟨1000, ?_⟩
  have ho : ∀ x ∈ l, Ok x := fun x hx => ok_of (hl.2 x hx).2.1
  unfold firkinlaw22_FoldValues.f
  obtain ⟨b, h1, h2⟩ := small_get l 1000 (by omega)
  rw [h1, Option.bind_some]
  cases b with
  | false => rw [if_neg (by decide), live_k _ (by omega)]; rfl
  | true =>
    have hs := h2 rfl
    rw [if_pos rfl]
    have h3 : ∀ want, (want = if 1 ≤ op ∧ op ≤ 3 then 1 else if op = 4 ∨ op = 5 then ty else 0) → firkinlaw22_FoldValues.j3 997 l op ty want = some true := fun want hw => fv_j3 996 (by omega) l hs ho op ty want hw
    by_cases c1 : op ≥ 1
    · rw [if_pos c1]
      by_cases c3 : op ≤ 3
      · rw [decide_eq_true c3, firkinlaw22_FoldValues.j0, if_pos rfl, firkinlaw22_FoldValues.j1, if_neg (by omega), show (op == 5) = false from beq_eq_false_iff_ne.mpr (by omega), firkinlaw22_FoldValues.j2, if_neg (by decide)]
        exact h3 1 (by rw [if_pos ⟨by omega, c3⟩])
      · rw [decide_eq_false c3, firkinlaw22_FoldValues.j0, if_neg (by decide), firkinlaw22_FoldValues.j1]
        by_cases c4 : op = 4
        · rw [if_pos c4, firkinlaw22_FoldValues.j2, if_pos rfl]
          exact h3 ty (by rw [if_neg (by omega), if_pos (Or.inl c4)])
        · rw [if_neg c4]
          by_cases c5 : op = 5
          · rw [show (op == 5) = true from beq_iff_eq.mpr c5, firkinlaw22_FoldValues.j2, if_pos rfl]
            exact h3 ty (by rw [if_neg (by omega), if_pos (Or.inr c5)])
          · rw [show (op == 5) = false from beq_eq_false_iff_ne.mpr c5, firkinlaw22_FoldValues.j2, if_neg (by decide)]
            exact h3 0 (by rw [if_neg (by omega), if_neg (by omega)])
    · rw [if_neg c1, firkinlaw22_FoldValues.j0, if_neg (by decide), firkinlaw22_FoldValues.j1, if_neg (by omega), show (op == 5) = false from beq_eq_false_iff_ne.mpr (by omega), firkinlaw22_FoldValues.j2, if_neg (by decide)]
      exact h3 0 (by rw [if_neg (by omega), if_neg (by omega)])
end Go.Proofs.Ytkdlfejokahohaa.True_
