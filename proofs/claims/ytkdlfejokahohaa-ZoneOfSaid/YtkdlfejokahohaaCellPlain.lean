/- Cells, plain law: which cells there may be; the code's answer and the document's are the same. -/
import Derived.Test.YtkdlfejokahohaaX5
import Derived.Test.YtkdlfejokahohaaX7
import Derived.Test.YtkdlfejokahohaaCellOrd0
namespace Go.Proofs.Ytkdlfejokahohaa.CellPlain
open Go Go.RowKit Go.Proofs.Ytkdlfejokahohaa.X Go.Proofs.Ytkdlfejokahohaa.Dec Go.Proofs.YtkdlfejokahohaaW.PrintWords Go.Proofs.YtkdlfejokahohaaW.PrintLast Go.Proofs.YtkdlfejokahohaaW.PrintMore
set_option linter.unusedVariables false
set_option linter.unusedSimpArgs false
/-- Which cells there may be. -/
def mayC (ty : Int) (null : Bool) (c0 : Bool) (c1 : Int) (c2 : ByteArray) : Bool :=
  if ty < 1 ∨ 3 < ty then false else if c0 = true then null && (c1 == 0) && c2.toList.isEmpty else if ty = 3 then (c1 == 0) && decide ((c2.size : Int) ≤ 40) else c2.toList.isEmpty && (ty == 1 || c1 == 0 || c1 == 1)
theorem may_is (ty : Int) (null : Bool) (c0 : Bool) (c1 : Int) (c2 : ByteArray) : cell_May.f ty null c0 c1 c2 = some (mayC ty null c0 c1 c2) := by
  unfold cell_May.f mayC
  by_cases h1 : ty = 1
  · subst h1; cases c0 <;> cases null <;> simp [Strs.nilB]
  by_cases h2 : ty = 2
  · subst h2; cases c0 <;> cases null <;> simp [Strs.nilB]
    all_goals (cases c2.toList <;> simp; split <;> simp_all)
  by_cases h3 : ty = 3
  · subst h3; cases c0 <;> cases null <;> simp [Strs.nilB]
    all_goals (split <;> simp_all)
  have h : ty < 1 ∨ 3 < ty := by omega
  rw [if_pos h]
  cases c0 <;> cases null <;> simp [h1, h2, h3]
  intro h4 h5
  omega
theorem rmay_is (ty : Int) (null : Bool) (c0 : Bool) (c1 : Int) (c2 : ByteArray) (k : Nat) : firkinref09_May.f (k + 1) ty null c0 c1 c2 = some (mayC ty null c0 c1 c2) := by
  unfold firkinref09_May.f mayC
  by_cases hl : ty < 1
  · rw [if_pos hl, firkinref09_May.j0, if_pos rfl, if_pos (.inl hl)]
  by_cases hg : ty > 3
  · rw [if_neg hl, decide_eq_true hg, firkinref09_May.j0, if_pos rfl, if_pos (.inr hg)]
  have hr : ¬ (ty < 1 ∨ 3 < ty) := by omega
  rw [if_neg hl, decide_eq_false hg, firkinref09_May.j0, if_neg hr]
  simp only [Bool.false_eq_true, if_false]
  by_cases h3 : ty = 3
  · subst h3; cases c0 <;> cases null <;> simp [Strs.nilB]
    all_goals (split <;> simp_all)
  · by_cases h1 : ty = 1
    · subst h1; cases c0 <;> cases null <;> simp [Strs.nilB]
      all_goals (cases c2.toList <;> simp)
      all_goals (split <;> simp_all)
    · have h2 : ty = 2 := by omega
      subst h2; cases c0 <;> cases null <;> simp [Strs.nilB]
      all_goals (cases c2.toList <;> simp)
      all_goals (split <;> simp_all)
end Go.Proofs.Ytkdlfejokahohaa.CellPlain
