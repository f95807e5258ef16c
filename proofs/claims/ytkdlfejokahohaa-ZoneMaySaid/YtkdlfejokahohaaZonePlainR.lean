/- Zones, plain law: the document's answers. -/
import Derived.Test.YtkdlfejokahohaaX8
import Derived.Test.YtkdlfejokahohaaX8
import Derived.Test.YtkdlfejokahohaaZonePlain
import Derived.Test.YtkdlfejokahohaaCellOrdR
namespace Go.Proofs.Ytkdlfejokahohaa.CellPlain
open Go Go.RowKit Go.Proofs.Ytkdlfejokahohaa.X Go.Proofs.Ytkdlfejokahohaa.Dec Go.Proofs.YtkdlfejokahohaaW.PrintWords Go.Proofs.YtkdlfejokahohaaW.PrintLast Go.Proofs.YtkdlfejokahohaaW.PrintMore
set_option linter.unusedVariables false
set_option linter.unusedSimpArgs false
theorem rzmay_is (ty z0 z1 : Int) (l0 : Bool) (l1 : Int) (l2 : ByteArray) (h0 : Bool) (h1 : Int) (h2 : ByteArray) (k : Nat) : firkinref11_May.f (k + 2) ty z0 z1 l0 l1 l2 h0 h1 h2 = some (mayZ ty z0 z1 l0 l1 l2 h0 h1 h2) := by
  have e0 : ∀ b, firkinref11_May.j0 (k + 2) ty b z0 z1 l0 l1 l2 h0 h1 h2 = some (if b = true then false else if z0 = z1 then noC l0 l1 l2 && noC h0 h1 h2 else mayC ty false l0 l1 l2 && mayC ty false h0 h1 h2 && decide (ordC l0 l1 l2 h0 h1 h2 ≤ 0)) := by
    intro b
    rw [firkinref11_May.j0]
    cases b
    · simp only [Bool.false_eq_true, if_false, rmay_is, rorder_is, Option.bind_some]
      by_cases g : z0 = z1
      · rw [if_pos g.symm, if_pos g]
        unfold noC
        cases (!l0 && (l1 == 0 && (l2.toList == ([] : List UInt8)))) <;> simp
      · rw [if_neg (fun h => g h.symm), if_neg g]
        cases mayC ty false l0 l1 l2 <;> cases mayC ty false h0 h1 h2 <;> simp
    · simp
  unfold firkinref11_May.f mayZ
  simp only [e0]
  by_cases g1 : ty < 1
  · simp [g1]
  by_cases g2 : 3 < ty
  · simp [g1, g2]
  by_cases g3 : z0 < 0
  · simp [g1, g2, g3]
  by_cases g4 : 4096 < z0
  · simp [g1, g2, g3, g4]
  by_cases g5 : z1 < 0
  · simp [g1, g2, g3, g4, g5]
  by_cases g6 : z0 < z1
  · simp [g1, g2, g3, g4, g5, g6]
  simp [g1, g2, g3, g4, g5, g6]
theorem rzhas_is (z0 z1 : Int) (l0 : Bool) (l1 : Int) (l2 : ByteArray) (h0 : Bool) (h1 : Int) (h2 : ByteArray) (c0 : Bool) (c1 : Int) (c2 : ByteArray) (k : Nat) : firkinref11_Has.f (k + 1) z0 z1 l0 l1 l2 h0 h1 h2 c0 c1 c2 = some (hasZ z0 z1 l0 l1 l2 h0 h1 h2 c0 c1 c2) := by
  unfold firkinref11_Has.f hasZ
  rw [rorder_is, rorder_is]
  simp only [Option.bind_some]
  cases c0
  · simp only [Bool.false_eq_true, if_false]
    by_cases g1 : z1 < z0
    · simp only [gt_iff_lt, g1, decide_true, if_true, Bool.true_and]
      by_cases g2 : ordC false c1 c2 l0 l1 l2 ≥ 0
      · rw [if_pos g2]; simp [g2]
      · rw [if_neg g2]; have : ¬ 0 ≤ ordC false c1 c2 l0 l1 l2 := g2; simp [this]
    · simp [g1]
  · simp
end Go.Proofs.Ytkdlfejokahohaa.CellPlain
