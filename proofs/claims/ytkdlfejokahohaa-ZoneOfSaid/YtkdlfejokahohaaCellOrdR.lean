/- Cells' order, plain law: the document's is the code's. -/
import Derived.Test.YtkdlfejokahohaaX4
import Derived.Test.YtkdlfejokahohaaCellOrd0
namespace Go.Proofs.Ytkdlfejokahohaa.CellPlain
open Go Go.RowKit Go.Proofs.Ytkdlfejokahohaa.X Go.Proofs.Ytkdlfejokahohaa.Dec Go.Proofs.YtkdlfejokahohaaW.PrintWords Go.Proofs.YtkdlfejokahohaaW.PrintLast Go.Proofs.YtkdlfejokahohaaW.PrintMore
set_option linter.unusedVariables false
set_option linter.unusedSimpArgs false
theorem rorder_is (a0 : Bool) (a1 : Int) (a2 : ByteArray) (b0 : Bool) (b1 : Int) (b2 : ByteArray) (k : Nat) : firkinref09_Order.f (k + 1) a0 a1 a2 b0 b1 b2 = some (ordC a0 a1 a2 b0 b1 b2) := by
  unfold firkinref09_Order.f ordC
  by_cases h0 : a0 = b0
  · subst h0
    simp only [bne_self_eq_false, Bool.false_eq_true, if_false, ne_eq, not_true_eq_false]
    unfold ordI ordT
    by_cases h1 : a1 < b1
    · rw [if_pos h1, firkinref09_Order.j0, if_pos rfl]; simp [h1]
    · rw [if_neg h1]
      by_cases h2 : a1 = b1
      · subst h2
        rw [if_pos rfl, firkinref09_Order.j0]
        simp only [Int.lt_irrefl, if_false, ne_eq, not_true_eq_false]
        cases h3 : Op.bytesLess a2.toList b2.toList <;> simp
        cases h4 : Op.bytesLess b2.toList a2.toList <;> simp
      · rw [if_neg h2, firkinref09_Order.j0, if_neg (by decide), if_pos (by omega)]
        have : b1 < a1 := by omega
        simp [h1, this]
  · rw [if_pos (by simpa using h0), if_pos h0]
    cases a0 <;> rfl
end Go.Proofs.Ytkdlfejokahohaa.CellPlain
