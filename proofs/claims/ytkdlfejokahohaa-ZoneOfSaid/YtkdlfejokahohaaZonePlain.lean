/- Zones, plain law: which zones there may be, which cells they have; the code's answer and the document's. -/
import Derived.Test.YtkdlfejokahohaaX5
import Derived.Test.YtkdlfejokahohaaX6
import Derived.Test.YtkdlfejokahohaaCellPlain
import Derived.Test.YtkdlfejokahohaaCellOrd0
namespace Go.Proofs.Ytkdlfejokahohaa.CellPlain
open Go Go.RowKit Go.Proofs.Ytkdlfejokahohaa.X Go.Proofs.Ytkdlfejokahohaa.Dec Go.Proofs.YtkdlfejokahohaaW.PrintWords Go.Proofs.YtkdlfejokahohaaW.PrintLast Go.Proofs.YtkdlfejokahohaaW.PrintMore
set_option linter.unusedVariables false
set_option linter.unusedSimpArgs false
/-- Is a cell the one without anything? -/
def noC (c0 : Bool) (c1 : Int) (c2 : ByteArray) : Bool := !c0 && (c1 == 0 && (c2.toList == ([] : List UInt8)))
/-- Which zones there may be. -/
def mayZ (ty z0 z1 : Int) (l0 : Bool) (l1 : Int) (l2 : ByteArray) (h0 : Bool) (h1 : Int) (h2 : ByteArray) : Bool :=
  if ty < 1 ∨ 3 < ty ∨ z0 < 0 ∨ 4096 < z0 ∨ z1 < 0 ∨ z0 < z1 then false
  else if z0 = z1 then noC l0 l1 l2 && noC h0 h1 h2
  else mayC ty false l0 l1 l2 && mayC ty false h0 h1 h2 && decide (ordC l0 l1 l2 h0 h1 h2 ≤ 0)
/-- Which cells may be a zone's. -/
def hasZ (z0 z1 : Int) (l0 : Bool) (l1 : Int) (l2 : ByteArray) (h0 : Bool) (h1 : Int) (h2 : ByteArray) (c0 : Bool) (c1 : Int) (c2 : ByteArray) : Bool :=
  if c0 = true then decide (0 < z1) else decide (z1 < z0) && decide (0 ≤ ordC c0 c1 c2 l0 l1 l2) && decide (ordC c0 c1 c2 h0 h1 h2 ≤ 0)
theorem zmay_is (ty z0 z1 : Int) (l0 : Bool) (l1 : Int) (l2 : ByteArray) (h0 : Bool) (h1 : Int) (h2 : ByteArray) (k : Nat) (hk : 6 < k) : zone_May.f k ty z0 z1 l0 l1 l2 h0 h1 h2 = some (mayZ ty z0 z1 l0 l1 l2 h0 h1 h2) := by
  obtain ⟨k, rfl⟩ : ∃ m, k = m + 2 := ⟨k - 2, by omega⟩
  have e1 : ∀ b, zone_May.j1 (k + 1) ty b z0 z1 l0 l1 l2 h0 h1 h2 = some (if b = true then false else if z1 < z0 then mayC ty false l0 l1 l2 && mayC ty false h0 h1 h2 && decide (ordC l0 l1 l2 h0 h1 h2 ≤ 0) else noC l0 l1 l2 && noC h0 h1 h2) := by
    intro b
    rw [zone_May.j1]
    cases b
    · simp only [Bool.false_eq_true, if_false, zone_some.f, Option.bind_some, may_is, order_is _ _ _ _ _ _ k (by omega)]
      by_cases h : z1 < z0
      · simp only [gt_iff_lt, h, decide_true, if_true]
        cases mayC ty false l0 l1 l2 <;> cases mayC ty false h0 h1 h2 <;> simp
      · simp only [gt_iff_lt, h, decide_false, if_false, Bool.false_eq_true]
        unfold noC
        cases (!l0 && (l1 == 0 && (l2.toList == ([] : List UInt8)))) <;> simp
    · simp
  have e0 : ∀ b, zone_May.j0 (k + 2) ty b z0 z1 l0 l1 l2 h0 h1 h2 = some (if b = true ∨ z0 < 0 ∨ 4096 < z0 ∨ z1 < 0 ∨ z0 < z1 then false else if z0 = z1 then noC l0 l1 l2 && noC h0 h1 h2 else mayC ty false l0 l1 l2 && mayC ty false h0 h1 h2 && decide (ordC l0 l1 l2 h0 h1 h2 ≤ 0)) := by
    intro b
    rw [zone_May.j0]
    cases b
    · simp only [Bool.false_eq_true, if_false, false_or, e1]
      by_cases g1 : z0 < 0
      · simp [g1]
      by_cases g2 : 4096 < z0
      · simp [g1, g2]
      by_cases g3 : z1 < 0
      · simp [g1, g2, g3]
      by_cases g4 : z0 < z1
      · simp [g1, g2, g3, g4]
      by_cases g5 : z0 = z1
      · subst g5; simp [g1, g2, g3, g4]
      · have g6 : z1 < z0 := by omega
        simp [g1, g2, g3, g4, g5, g6]
    · simp
  unfold zone_May.f mayZ
  by_cases g1 : ty < 1
  · rw [if_pos g1, e0]; simp [g1]
  by_cases g2 : 3 < ty
  · rw [if_neg g1, e0]; simp [g2]
  rw [if_neg g1, e0]
  simp [g1, g2]
theorem zhas_is (z0 z1 : Int) (l0 : Bool) (l1 : Int) (l2 : ByteArray) (h0 : Bool) (h1 : Int) (h2 : ByteArray) (c0 : Bool) (c1 : Int) (c2 : ByteArray) (k : Nat) (hk : 4 < k) : zone_Has.f k z0 z1 l0 l1 l2 h0 h1 h2 c0 c1 c2 = some (hasZ z0 z1 l0 l1 l2 h0 h1 h2 c0 c1 c2) := by
  unfold zone_Has.f hasZ zone_some.f
  rw [order_is _ _ _ _ _ _ k hk, order_is _ _ _ _ _ _ k hk]
  simp only [Option.bind_some]
  cases c0
  · simp only [Bool.false_eq_true, if_false]
    by_cases g1 : z1 < z0
    · simp only [gt_iff_lt, g1, decide_true, if_true, Bool.true_and]
      by_cases g2 : ordC false c1 c2 l0 l1 l2 ≥ 0
      · rw [if_pos g2]; simp [g2]
      · rw [if_neg g2]; have : ¬ 0 ≤ ordC false c1 c2 l0 l1 l2 := g2; simp [this]
    · simp [g1]
  · simp
end Go.Proofs.Ytkdlfejokahohaa.CellPlain
