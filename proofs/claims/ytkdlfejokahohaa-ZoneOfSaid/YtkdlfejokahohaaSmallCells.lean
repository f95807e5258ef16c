/- Are cells not too many, or too great: plain law. -/
import Derived.Test.YtkdlfejokahohaaX6
import Derived.Test.YtkdlfejokahohaaDec
namespace Go.Proofs.Ytkdlfejokahohaa.CellPlain
open Go Go.RowKit Go.Proofs.Ytkdlfejokahohaa.X Go.Proofs.Ytkdlfejokahohaa.Dec Go.Proofs.YtkdlfejokahohaaW.PrintWords Go.Proofs.YtkdlfejokahohaaW.PrintLast Go.Proofs.YtkdlfejokahohaaW.PrintMore
set_option linter.unusedVariables false
set_option linter.unusedSimpArgs false
theorem smallc_loop (l : List S23) (d : Nat) : ∀ (k i : Nat), i + d = 201 → 2 * d + 2 ≤ k → ∃ b, firkinlaw10_Small.l0 k l (i : Int) = some b ∧ (b = true → l.length ≤ 100) := by
  induction d with
  | zero =>
    intro k i hi hk
    obtain ⟨k, rfl⟩ : ∃ m, k = m + 2 := ⟨k - 2, by omega⟩
    rw [firkinlaw10_Small.l0]
    have h30 : decide ((i : Int) < 200) = false := decide_eq_false (by omega)
    rw [h30]
    simp only [ite_self]
    rw [firkinlaw10_Small.j1, if_neg (by decide)]
    exact ⟨_, rfl, fun h => by have := of_decide_eq_true h; omega⟩
  | succ d ih =>
    intro k i hi hk
    obtain ⟨k, rfl⟩ : ∃ m, k = m + 2 := ⟨k - 2, by omega⟩
    rw [firkinlaw10_Small.l0]
    by_cases hl : (i : Int) < (l.length : Int)
    · rw [if_pos hl]
      by_cases h30 : (i : Int) < 200
      · rw [decide_eq_true h30, firkinlaw10_Small.j1, if_pos rfl, if_pos (by omega), if_pos hl]
        by_cases h100 : (((rd_T23 l (i : Int)).f2).size : Int) > 60
        · rw [if_pos h100]; exact ⟨_, rfl, fun h => by cases h⟩
        · rw [if_neg h100, w64 (by omega) (by omega)]
          exact ih k (i + 1) (by omega) (by omega)
      · rw [decide_eq_false h30, firkinlaw10_Small.j1, if_neg (by decide)]
        exact ⟨_, rfl, fun h => by have := of_decide_eq_true h; omega⟩
    · rw [if_neg hl, firkinlaw10_Small.j1, if_neg (by decide)]
      exact ⟨_, rfl, fun h => by have := of_decide_eq_true h; omega⟩
theorem smallc_get (l : List S23) (k : Nat) (hk : 500 ≤ k) : ∃ b, firkinlaw10_Small.f k l = some b ∧ (b = true → l.length ≤ 100) := by
  unfold firkinlaw10_Small.f
  exact smallc_loop l 201 k 0 (by omega) (by omega)
end Go.Proofs.Ytkdlfejokahohaa.CellPlain
