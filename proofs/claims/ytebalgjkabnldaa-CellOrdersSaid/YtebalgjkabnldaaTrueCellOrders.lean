/- CellOrders: which cells there may be is the document's, and so is their order, which is one. No condition. -/
import Derived.Test.YtebalgjkabnldaaX22
import Derived.Test.YtebalgjkabnldaaCellOrd
import Derived.Test.YtebalgjkabnldaaWf
namespace Go.Proofs.Ytebalgjkabnldaa.True_
open Go Go.RowKit Go.Proofs.Ytebalgjkabnldaa.X Go.Proofs.Ytebalgjkabnldaa.CellPlain Go.Proofs.YtebalgjkabnldaaW.PrintWords Go.Proofs.YtebalgjkabnldaaW.PrintLast Go.Proofs.YtebalgjkabnldaaW.PrintMore
set_option linter.unusedVariables false
set_option linter.unusedSimpArgs false
section
variable (a0 : Bool) (a1 : Int) (a2 : ByteArray) (b0 : Bool) (b1 : Int) (b2 : ByteArray) (c0 : Bool) (c1 : Int) (c2 : ByteArray)
theorem co_j3 (k : Nat) (hk : 5 < k) (x85 : Bool) (h85 : x85 = false) : firkinlaw09_CellOrders.j3 (k + 1) (ordC a0 a1 a2 b0 b1 b2) (ordC b0 b1 b2 c0 c1 c2) x85 a0 a1 a2 c0 c1 c2 = some true := by
  subst h85
  rw [firkinlaw09_CellOrders.j3]
  simp only [Bool.false_eq_true, if_false, firkinlaw09_live.f, Option.bind_some]
  by_cases h1 : ordC a0 a1 a2 b0 b1 b2 > 0
  · rw [if_pos h1]
  rw [if_neg h1]
  by_cases h2 : ordC b0 b1 b2 c0 c1 c2 > 0
  · rw [if_pos h2]
  rw [if_neg h2, order_is _ _ _ _ _ _ k (by omega), Option.bind_some, if_pos (ordC_trans (b0 := b0) (b1 := b1) (b2 := b2) (by omega) (by omega))]
theorem same_iff : ((a0 == b0) && ((a1 == b1) && (a2.toList == b2.toList))) = decide (a0 = b0 ∧ a1 = b1 ∧ a2.toList = b2.toList) := by
  rw [Bool.eq_iff_iff]; simp
theorem zero_iff (ha : mayC 1 true a0 a1 a2 = true) (hb : mayC 1 true b0 b1 b2 = true) : (ordC a0 a1 a2 b0 b1 b2 == 0) = ((a0 == b0) && ((a1 == b1) && (a2.toList == b2.toList))) := by
  have ea : a2.toList = [] := by unfold mayC at ha; cases a0 <;> simp_all
  have eb : b2.toList = [] := by unfold mayC at hb; cases b0 <;> simp_all
  have na : a0 = true → a1 = 0 := by rintro rfl; unfold mayC at ha; simp at ha; exact ha.1
  have nb : b0 = true → b1 = 0 := by rintro rfl; unfold mayC at hb; simp at hb; exact hb.1
  rw [same_iff, ea, eb]
  unfold ordC ordI
  rw [ea, eb]
  have hz : ordT [] [] = 0 := by decide
  rw [hz, Bool.eq_iff_iff]
  cases a0 <;> cases b0 <;> simp
  · constructor
    · intro h; split at h <;> (try split at h) <;> (try split at h) <;> omega
    · rintro rfl; simp
  · constructor
    · intro h; split at h <;> (try split at h) <;> (try split at h) <;> omega
    · rintro rfl; simp
theorem co_j2 (k : Nat) (hk : 6 < k) (x71 : Bool) (h71 : x71 = false) : firkinlaw09_CellOrders.j2 (k + 1) (ordC a0 a1 a2 b0 b1 b2) (ordC b0 b1 b2 c0 c1 c2) x71 a0 a1 a2 b0 b1 b2 c0 c1 c2 = some true := by
  subst h71
  obtain ⟨k, rfl⟩ : ∃ m, k = m + 1 := ⟨k - 1, by omega⟩
  rw [firkinlaw09_CellOrders.j2]
  simp only [Bool.false_eq_true, if_false]
  rw [rmay_is, Option.bind_some]
  by_cases h1 : mayC 1 true a0 a1 a2 = true
  · rw [if_pos h1, rmay_is, Option.bind_some]
    by_cases h2 : mayC 1 true b0 b1 b2 = true
    · rw [if_pos h2, co_j3 _ _ _ _ _ _ _ _ _ k (by omega)]
      rw [zero_iff _ _ _ _ _ _ h1 h2]; simp
    · rw [if_neg h2, co_j3 _ _ _ _ _ _ _ _ _ k (by omega) false rfl]
  · rw [if_neg h1, co_j3 _ _ _ _ _ _ _ _ _ k (by omega) false rfl]
theorem co_l0 (d : Nat) : ∀ (k : Nat) (t : Int), t = 5 - (d : Int) → d ≤ 6 → d + 10 < k → firkinlaw09_CellOrders.l0 k t a0 a1 a2 b0 b1 b2 c0 c1 c2 = some true := by
  induction d with
  | zero =>
    intro k t ht _ hk
    obtain ⟨k, rfl⟩ : ∃ m, k = m + 2 := ⟨k - 2, by omega⟩
    rw [firkinlaw09_CellOrders.l0, if_neg (by omega), order_is _ _ _ _ _ _ (k + 1) (by omega), Option.bind_some, order_is _ _ _ _ _ _ (k + 1) (by omega), Option.bind_some, rorder_is, Option.bind_some, if_pos rfl, order_is _ _ _ _ _ _ (k + 1) (by omega), Option.bind_some]
    have hr := ordC_range a0 a1 a2 b0 b1 b2
    have hw : wrap64 (-ordC a0 a1 a2 b0 b1 b2) = -ordC a0 a1 a2 b0 b1 b2 := by unfold wrap64; omega
    rw [hw, if_pos (ordC_swap _ _ _ _ _ _)]
    unfold cell_Same.f
    rw [Option.bind_some]
    exact co_j2 _ _ _ _ _ _ _ _ _ k (by omega) _ (by simp)
  | succ d ih =>
    intro k t ht hd hk
    obtain ⟨k, rfl⟩ : ∃ m, k = m + 2 := ⟨k - 2, by omega⟩
    rw [firkinlaw09_CellOrders.l0, if_pos (by omega), may_is, Option.bind_some, rmay_is, Option.bind_some, if_neg (by simp), may_is, Option.bind_some, rmay_is, Option.bind_some, if_neg (by simp)]
    have hw : wrap64 (t + 1) = t + 1 := by unfold wrap64; omega
    rw [hw]
    exact ih (k + 1) (t + 1) (by omega) (by omega) (by omega)
end
theorem CellOrders : ∀ (x0 : S60) (x1 : S60) (x2 : S60), (True ∧ (Lit.int .i64 x0.f1).wf = true ∧ x0.f2.size ≤ maxLen) → (True ∧ (Lit.int .i64 x1.f1).wf = true ∧ x1.f2.size ≤ maxLen) → (True ∧ (Lit.int .i64 x2.f1).wf = true ∧ x2.f2.size ≤ maxLen) → ∃ k, firkinlaw09_CellOrders.f k x0.f0 x0.f1 x0.f2 x1.f0 x1.f1 x1.f2 x2.f0 x2.f1 x2.f2 = some true := by
  intro x0 x1 x2 _ _ _
  refine ⟨40, ?_⟩
  have hj : ∀ b, firkinlaw09_CellOrders.j0 40 b x0.f0 x0.f1 x0.f2 x1.f0 x1.f1 x1.f2 x2.f0 x2.f1 x2.f2 = some true := by
    intro b
    rw [firkinlaw09_CellOrders.j0]
    cases b
    · exact co_l0 _ _ _ _ _ _ _ _ _ 6 39 (-1) (by decide) (by decide) (by decide)
    · rfl
  unfold firkinlaw09_CellOrders.f firkinlaw09_small.f
  simp only [Option.bind_some]
  split
  · split
    · exact hj _
    · exact hj _
  · exact hj _
end Go.Proofs.Ytebalgjkabnldaa.True_
