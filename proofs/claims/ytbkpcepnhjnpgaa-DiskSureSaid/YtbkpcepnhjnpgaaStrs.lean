/- The order of texts, as the walk tells '>' and '<=': by '<' alone. -/
import Derived.Laws.Strings
import Derived.WalkKit
namespace Go.Proofs.Ytbkpcepnhjnpgaa.Strs
open Go
theorem less_swap : ∀ x y : List UInt8, (!(Op.bytesLess x y || x == y)) = Op.bytesLess y x
  | [], [] => rfl
  | [], _ :: _ => rfl
  | _ :: _, [] => rfl
  | a :: x, b :: y => by
    have ih := less_swap x y
    simp only [Op.bytesLess]
    by_cases h1 : a < b
    · have h2 : ¬ b < a := by rw [UInt8.lt_iff_toNat_lt] at h1 ⊢; omega
      have h3 : ¬ b = a := by intro e; subst e; exact h2 h1
      have h4 : (b == a) = false := by simp [h3]
      simp [h1, h2, h4]
    · by_cases h3 : a = b
      · subst h3
        have h5 : (a :: x == a :: y) = (x == y) := by simp
        have h6 : decide (a < a) = false := by simp
        rw [h5, h6]
        simpa using ih
      · have h2 : b < a := by
          rw [UInt8.lt_iff_toNat_lt] at h1 ⊢
          have : a.toNat ≠ b.toNat := fun e => h3 (UInt8.toNat_inj.mp e)
          omega
        have h4 : (a == b) = false := by simp [h3]
        have h5 : (a :: x == b :: y) = false := by simp [h3]
        simp [h1, h2, h4, h5]
@[go_sem] theorem binOp_gtr (t : TypeId) (a b : ByteArray) : binOp .gtr t (.string a) (.string b) = pure (.bool (Op.bytesLess b.toList a.toList)) := by
  rw [← less_swap]; simp [binOp, Op.stringOp]
@[go_sem] theorem binOp_leq (t : TypeId) (a b : ByteArray) : binOp .leq t (.string a) (.string b) = pure (.bool !(Op.bytesLess b.toList a.toList)) := by
  rw [← less_swap]; simp [binOp, Op.stringOp]
@[go_sem] theorem binOp_geq (t : TypeId) (a b : ByteArray) : binOp .geq t (.string a) (.string b) = pure (.bool !(Op.bytesLess a.toList b.toList)) := by
  simp [binOp, Op.stringOp]
theorem nilB (l : List UInt8) : (l == ([] : List UInt8)) = l.isEmpty := by cases l <;> rfl
end Go.Proofs.Ytbkpcepnhjnpgaa.Strs
