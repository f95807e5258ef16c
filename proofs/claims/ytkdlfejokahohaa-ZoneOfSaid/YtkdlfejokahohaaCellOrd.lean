/- The order of cells is one: plain law. -/
import Derived.Test.YtkdlfejokahohaaCellOrd0
namespace Go.Proofs.Ytkdlfejokahohaa.CellPlain
open Go Go.RowKit Go.Proofs.Ytkdlfejokahohaa.X Go.Proofs.Ytkdlfejokahohaa.Strs
set_option linter.unusedVariables false
set_option linter.unusedSimpArgs false
theorem less_trans : ∀ x y z : List UInt8, Op.bytesLess x y = true → Op.bytesLess y z = true → Op.bytesLess x z = true
  | [], [], z => fun h => by simp [Op.bytesLess] at h
  | [], _ :: _, [] => fun _ h => by simp [Op.bytesLess] at h
  | [], _ :: _, _ :: _ => fun _ _ => rfl
  | _ :: _, [], _ => fun h => by simp [Op.bytesLess] at h
  | _ :: _, _ :: _, [] => fun _ h => by simp [Op.bytesLess] at h
  | a :: x, b :: y, c :: z => fun h1 h2 => by
    simp only [Op.bytesLess, Bool.or_eq_true, Bool.and_eq_true, decide_eq_true_eq, beq_iff_eq, UInt8.lt_iff_toNat_lt, ← UInt8.toNat_inj] at h1 h2 ⊢
    rcases h1 with h1 | ⟨h1, h1'⟩ <;> rcases h2 with h2 | ⟨h2, h2'⟩
    · exact .inl (by omega)
    · exact .inl (by omega)
    · exact .inl (by omega)
    · exact .inr ⟨by omega, less_trans x y z h1' h2'⟩
theorem less_asymm {x y : List UInt8} (h : Op.bytesLess x y = true) : Op.bytesLess y x = false := by rw [← less_swap x y, h]; rfl
theorem ordT_swap (a b : List UInt8) : ordT b a = -ordT a b := by
  unfold ordT
  cases h1 : Op.bytesLess a b
  · cases h2 : Op.bytesLess b a <;> simp
  · rw [less_asymm h1]; simp
theorem ordT_le {a b : List UInt8} : ordT a b ≤ 0 ↔ Op.bytesLess b a = false := by
  unfold ordT
  cases h1 : Op.bytesLess a b
  · cases h2 : Op.bytesLess b a <;> simp
  · rw [less_asymm h1]; simp
theorem ordT_zero {a b : List UInt8} : ordT a b = 0 ↔ a = b := by
  unfold ordT
  cases h1 : Op.bytesLess a b
  · have := less_swap a b
    rw [h1, Bool.false_or] at this
    by_cases e : a = b
    · subst e; simp [bytesLess_irrefl]
    · have e2 : (a == b) = false := beq_eq_false_iff_ne.mpr e
      rw [e2] at this
      rw [← this]; simp [e]
  · have : a ≠ b := by rintro rfl; rw [bytesLess_irrefl] at h1; cases h1
    simp [this]
theorem ordT_trans {a b c : List UInt8} (h1 : ordT a b ≤ 0) (h2 : ordT b c ≤ 0) : ordT a c ≤ 0 := by
  by_cases e1 : ordT a b = 0
  · rw [ordT_zero.mp e1]; exact h2
  by_cases e2 : ordT b c = 0
  · rw [← ordT_zero.mp e2]; exact h1
  have l1 : Op.bytesLess a b = true := by
    unfold ordT at h1 e1; cases h : Op.bytesLess a b
    · simp only [h, Bool.false_eq_true, if_false] at h1 e1; split at h1 <;> simp_all
    · rfl
  have l2 : Op.bytesLess b c = true := by
    unfold ordT at h2 e2; cases h : Op.bytesLess b c
    · simp only [h, Bool.false_eq_true, if_false] at h2 e2; split at h2 <;> simp_all
    · rfl
  rw [ordT_le]
  exact less_asymm (less_trans _ _ _ l1 l2)
theorem ordT_range (a b : List UInt8) : -1 ≤ ordT a b ∧ ordT a b ≤ 1 := by unfold ordT; split <;> (try split) <;> omega
theorem ordI_swap (a b : Int) : ordI b a = -ordI a b := by unfold ordI; split <;> split <;> (try split) <;> omega
theorem ordC_swap (a0 : Bool) (a1 : Int) (a2 : ByteArray) (b0 : Bool) (b1 : Int) (b2 : ByteArray) : ordC b0 b1 b2 a0 a1 a2 = -ordC a0 a1 a2 b0 b1 b2 := by
  unfold ordC
  rw [ordI_swap a1 b1, ordT_swap a2.toList b2.toList]
  by_cases h : a0 = b0
  · subst h
    simp only [ne_eq, not_true_eq_false, if_false]
    by_cases h2 : ordI a1 b1 = 0
    · rw [if_neg (by omega), if_neg (by omega)]
    · rw [if_pos (by omega), if_pos (by omega)]
  · have h' : ¬ b0 = a0 := fun e => h e.symm
    rw [if_pos h, if_pos h']
    cases a0 <;> cases b0 <;> simp_all
theorem ordC_range (a0 : Bool) (a1 : Int) (a2 : ByteArray) (b0 : Bool) (b1 : Int) (b2 : ByteArray) : -1 ≤ ordC a0 a1 a2 b0 b1 b2 ∧ ordC a0 a1 a2 b0 b1 b2 ≤ 1 := by
  have := ordT_range a2.toList b2.toList
  unfold ordC ordI
  repeat' split
  all_goals omega
theorem ordC_trans {a0 : Bool} {a1 : Int} {a2 : ByteArray} {b0 : Bool} {b1 : Int} {b2 : ByteArray} {c0 : Bool} {c1 : Int} {c2 : ByteArray} (h1 : ordC a0 a1 a2 b0 b1 b2 ≤ 0) (h2 : ordC b0 b1 b2 c0 c1 c2 ≤ 0) : ordC a0 a1 a2 c0 c1 c2 ≤ 0 := by
  have ht := @ordT_trans a2.toList b2.toList c2.toList
  unfold ordC ordI at *
  cases a0 <;> cases b0 <;> cases c0 <;> simp at h1 h2 ⊢
  all_goals
    generalize ordT a2.toList b2.toList = x at *
    generalize ordT b2.toList c2.toList = y at *
    generalize ordT a2.toList c2.toList = z at *
    repeat' split
    all_goals (try omega)
    all_goals (split at h1 <;> split at h2 <;> (try split at h1) <;> (try split at h2) <;> (try omega))
    all_goals (first | (exact ht (by omega) (by omega)) | skip)
theorem toList_inj {a b : ByteArray} : a.toList = b.toList ↔ a = b := by
  constructor
  · intro h
    rw [ByteArray.toList_eq, ByteArray.toList_eq] at h
    cases a; cases b
    simp only [ByteArray.mk.injEq]
    exact Array.toList_inj.mp h
  · rintro rfl; rfl
end Go.Proofs.Ytkdlfejokahohaa.CellPlain
