/- Cells, plain law: their order; the code's. -/
import Derived.Test.YtkdlfejokahohaaX4
import Derived.Test.YtkdlfejokahohaaDec
import Derived.Test.YtkdlfejokahohaaStrs
namespace Go.Proofs.Ytkdlfejokahohaa.CellPlain
open Go Go.RowKit Go.Proofs.Ytkdlfejokahohaa.X Go.Proofs.Ytkdlfejokahohaa.Dec Go.Proofs.YtkdlfejokahohaaW.PrintWords Go.Proofs.YtkdlfejokahohaaW.PrintLast Go.Proofs.YtkdlfejokahohaaW.PrintMore
set_option linter.unusedVariables false
set_option linter.unusedSimpArgs false
/-- -1, 0 or 1: how two texts stand to each other. -/
def ordT (a b : List UInt8) : Int := if Op.bytesLess a b = true then -1 else if Op.bytesLess b a = true then 1 else 0
def ordI (a b : Int) : Int := if a < b then -1 else if b < a then 1 else 0
/-- The order of two cells. -/
def ordC (a0 : Bool) (a1 : Int) (a2 : ByteArray) (b0 : Bool) (b1 : Int) (b2 : ByteArray) : Int :=
  if a0 ≠ b0 then (if a0 = true then -1 else 1) else if ordI a1 b1 ≠ 0 then ordI a1 b1 else ordT a2.toList b2.toList
theorem bytesLess_irrefl : ∀ a : List UInt8, Op.bytesLess a a = false
  | [] => rfl
  | a :: x => by simp only [Op.bytesLess]; have := bytesLess_irrefl x; simp [this]
theorem or_three (x y z : Int) (k : Nat) (hk : 4 < k) : cmp_Or_int.f k [x, y, z] = some (if x ≠ 0 then x else if y ≠ 0 then y else z) := by
  obtain ⟨k, rfl⟩ : ∃ m, k = m + 4 := ⟨k - 4, by omega⟩
  unfold cmp_Or_int.f
  have e0 : rd [x, y, z] 0 = x := rfl
  have e1 : rd [x, y, z] 1 = y := rfl
  have e2 : rd [x, y, z] 2 = z := rfl
  have w0 : wrap64 (0 + 1) = 1 := by decide +kernel
  have w1 : wrap64 (1 + 1) = 2 := by decide +kernel
  have w2 : wrap64 (2 + 1) = 3 := by decide +kernel
  have hl : (([x, y, z] : List Int).length : Int) = 3 := rfl
  rw [cmp_Or_int.l0, hl, if_pos (by decide), if_pos (by decide), if_pos (by decide), e0]
  by_cases hx : x = 0
  · rw [if_pos hx, w0, cmp_Or_int.l0, hl, if_pos (by decide), if_pos (by decide), if_pos (by decide), e1]
    by_cases hy : y = 0
    · rw [if_pos hy, w1, cmp_Or_int.l0, hl, if_pos (by decide), if_pos (by decide), if_pos (by decide), e2]
      by_cases hz : z = 0
      · rw [if_pos hz, w2, cmp_Or_int.l0, if_neg (by decide)]
        simp [hx, hy, hz]
      · rw [if_neg hz]
        simp [hx, hy]
    · rw [if_neg hy]
      simp [hx, hy]
  · rw [if_neg hx]
    simp [hx]
theorem cmp_i (a b : Int) : cmp_Compare_int.f a b = some (ordI a b) := by
  unfold cmp_Compare_int.f cmp_isNaN_int.f ordI
  simp
  split
  · rfl
  · split <;> rfl
theorem cmp_i64 (a b : Int) : cmp_Compare_int64.f a b = some (ordI a b) := by
  unfold cmp_Compare_int64.f cmp_isNaN_int64.f ordI
  simp
  split
  · rfl
  · split <;> rfl
theorem cmp_s (a b : ByteArray) : cmp_Compare_string.f a b = some (ordT a.toList b.toList) := by
  unfold cmp_Compare_string.f cmp_isNaN_string.f ordT
  simp
  split
  · rfl
  · split <;> rfl
theorem order_is (a0 : Bool) (a1 : Int) (a2 : ByteArray) (b0 : Bool) (b1 : Int) (b2 : ByteArray) (k : Nat) (hk : 4 < k) : cell_Order.f k a0 a1 a2 b0 b1 b2 = some (ordC a0 a1 a2 b0 b1 b2) := by
  unfold cell_Order.f
  have hf : ∀ (x : Bool) (y : Int) (z : ByteArray), cell_flag.f x y z = some (if x = true then 0 else 1) := fun x y z => by unfold cell_flag.f; split <;> rfl
  rw [hf, Option.bind_some, hf, Option.bind_some, cmp_i, Option.bind_some, cmp_i64, Option.bind_some, cmp_s, Option.bind_some, or_three _ _ _ k hk, Option.bind_some]
  unfold ordC
  cases a0 <;> cases b0 <;> simp [ordI]
end Go.Proofs.Ytkdlfejokahohaa.CellPlain
