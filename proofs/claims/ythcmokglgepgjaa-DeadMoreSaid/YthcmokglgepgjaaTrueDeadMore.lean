/- DeadMore: with more rows gone, which are left: rows that were left, in order; nothing that is handed in is turned. No condition. -/
import Derived.Test.YthcmokglgepgjaaDeadMoreP
import Derived.Test.YthcmokglgepgjaaX12
namespace Go.Proofs.Ythcmokglgepgjaa.True_
open Go Go.RowKit Go.Proofs.Ythcmokglgepgjaa.X Go.Proofs.Ythcmokglgepgjaa.Dead
set_option linter.unusedVariables false
set_option linter.unusedSimpArgs false
theorem more_all (r : List (List S94)) (l : List Bool) (gone : List Int) (M : Nat) (hM : M ≤ maxLen) (hl : ∀ x ∈ r, x.length ≤ M) : firkinlaw14_DeadMore.f (M + 10001) r l gone = some true := by
  unfold firkinlaw14_DeadMore.f
  have ht : firkinlaw14_DeadMore.j0 (M + 10000 + 1) r l gone true = some true := by rw [firkinlaw14_DeadMore.j0, if_pos rfl, live_is _ (by omega)]; rfl
  by_cases h1 : (r.length : Int) > 60
  · rw [if_pos h1]; exact ht
  rw [if_neg h1]
  by_cases h2 : (l.length : Int) > 250
  · rw [if_pos h2]; exact ht
  rw [if_neg h2]
  by_cases h3 : (gone.length : Int) > 60
  · rw [decide_eq_true h3]; exact ht
  rw [decide_eq_false h3]
  obtain ⟨m1, m2⟩ := more_is l gone (by omega) (M + 10000) (by omega)
  obtain ⟨o1, o2⟩ := moreL_over l gone
  have hs : ∀ x : List Bool, x.length ≤ 250 → firkinref04_Same.f (M + 10000) x x = some true := fun x hx => Bitv.same_refl x (by omega) _ (by omega)
  have hrow : ∀ m : List Bool, firkinref09_Rows.f (M + 10000) (liveGo m r 0) (liveGo m r 0) = some true := fun m => rows_self _ (by have := liveGo_len m r 0; omega) M hM (fun x hx => hl x (liveGo_mem m r 0 x hx)) _ (by omega)
  show firkinlaw14_DeadMore.j0 (M + 10000 + 1) r l gone false = some true
  rw [firkinlaw14_DeadMore.j0, if_neg (by decide), Option.bind_some, List.nil_append, if_pos (by simp; omega), m1, Option.bind_some, m2, Option.bind_some, live_of r l (by omega), Option.bind_some, live_of r _ (by omega), Option.bind_some]
  simp only [firkinlaw14_num.f, Option.bind_some]
  rw [if_pos trivial, hs _ (by omega), Option.bind_some, if_pos rfl, hs l (by omega), Option.bind_some, if_pos rfl, rlive_is r l (by omega) _ (by omega), Option.bind_some, hrow, Option.bind_some, if_pos rfl, rlive_is r _ (by omega) _ (by omega), Option.bind_some, hrow, Option.bind_some, if_pos rfl, live_is _ (by omega)]
  by_cases h0 : (moreL l gone).2 = 0
  · have := live_le (o1 h0) r 0
    rw [if_pos h0, if_pos (by omega)]; rfl
  · rw [if_neg h0]; rfl
theorem DeadMore : ∀ (x0 : List (List (S94))) (x1 : List Bool) (x2 : List Int), (x0.length ≤ maxLen ∧ ∀ z ∈ x0, (z.length ≤ maxLen ∧ ∀ zz ∈ z, (True ∧ (Lit.int .i64 zz.f1).wf = true ∧ zz.f2.size ≤ maxLen))) → (x1.length ≤ maxLen ∧ ∀ z ∈ x1, True) → (x2.length ≤ maxLen ∧ ∀ z ∈ x2, (Lit.int .i64 z).wf = true) → ∃ k, firkinlaw14_DeadMore.f k x0 x1 x2 = some true :=
  fun r l gone h _ _ => ⟨_, more_all r l gone maxLen (Nat.le_refl _) (fun x hx => (h.2 x hx).1)⟩
end Go.Proofs.Ythcmokglgepgjaa.True_
