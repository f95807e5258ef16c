/- Columns in plain lists: which are few, which are the same. -/
import Derived.Test.YtebalgjkabnldaaX11
import Derived.Test.YtebalgjkabnldaaX14
import Derived.Test.YtebalgjkabnldaaX14
namespace Go.Proofs.Ytebalgjkabnldaa.Cols
open Go.RowKit Go.Proofs.Ytebalgjkabnldaa.X Go.Proofs.YtebalgjkabnldaaW.PrintWords Go.Proofs.YtebalgjkabnldaaW.PrintLast Go.Proofs.YtebalgjkabnldaaW.PrintMore
set_option linter.unusedVariables false
set_option linter.unusedSimpArgs false
theorem w64 {x : Int} (h0 : -9223372036854775808 ≤ x) (h1 : x < 9223372036854775808) : wrap64 x = x := by unfold wrap64; omega
theorem small_loop (l : List S90) (d : Nat) : ∀ (k i : Nat), i + d = 31 → 2 * d + 2 ≤ k → ∃ b, firkinlaw12_Small.l0 k l (i : Int) = some b ∧ (b = true → l.length ≤ 20) := by
  induction d with
  | zero =>
    intro k i hi hk
    obtain ⟨k, rfl⟩ : ∃ m, k = m + 2 := ⟨k - 2, by omega⟩
    rw [firkinlaw12_Small.l0]
    have h30 : decide ((i : Int) < 30) = false := decide_eq_false (by omega)
    rw [h30]
    simp only [ite_self]
    rw [firkinlaw12_Small.j1, if_neg (by decide)]
    exact ⟨_, rfl, fun h => by have := of_decide_eq_true h; omega⟩
  | succ d ih =>
    intro k i hi hk
    obtain ⟨k, rfl⟩ : ∃ m, k = m + 2 := ⟨k - 2, by omega⟩
    rw [firkinlaw12_Small.l0]
    by_cases hl : (i : Int) < (l.length : Int)
    · rw [if_pos hl]
      by_cases h30 : (i : Int) < 30
      · rw [decide_eq_true h30, firkinlaw12_Small.j1, if_pos rfl, if_pos (by omega), if_pos hl]
        by_cases h100 : (((rd_T90 l (i : Int)).f0).size : Int) > 100
        · rw [if_pos h100]; exact ⟨_, rfl, fun h => by cases h⟩
        · rw [if_neg h100, w64 (by omega) (by omega)]
          exact ih k (i + 1) (by omega) (by omega)
      · rw [decide_eq_false h30, firkinlaw12_Small.j1, if_neg (by decide)]
        exact ⟨_, rfl, fun h => by have := of_decide_eq_true h; omega⟩
    · rw [if_neg hl, firkinlaw12_Small.j1, if_neg (by decide)]
      exact ⟨_, rfl, fun h => by have := of_decide_eq_true h; omega⟩
theorem small_get (l : List S90) (k : Nat) (hk : 64 ≤ k) : ∃ b, firkinlaw12_Small.f k l = some b ∧ (b = true → l.length ≤ 20) := by
  unfold firkinlaw12_Small.f
  exact small_loop l 31 k 0 (by omega) (by omega)
/-- Are the columns at one place others? -/
def colNe (a b : S90) : Bool := !(a.f0.toList == b.f0.toList) || (!(a.f1 == b.f1) || !(a.f2 == b.f2))
def allEq (a b : List S90) : Nat → Nat → Bool
  | 0, _ => true
  | n + 1, i => if colNe (rd_T90 a (i : Int)) (rd_T90 b (i : Int)) = true then false else allEq a b n (i + 1)
def sameL (a b : List S90) : Bool := if a.length = b.length then allEq a b a.length 0 else false
theorem colNe_self (a : S90) : colNe a a = false := by simp [colNe]
theorem sameL_self (a : List S90) : sameL a a = true := by
  have h : ∀ n i, allEq a a n i = true := by
    intro n
    induction n with
    | zero => intro i; rfl
    | succ n ih => intro i; rw [allEq, colNe_self, if_neg (by decide)]; exact ih _
  rw [sameL, if_pos rfl, h]
theorem code_loop (a b : List S90) (hl : a.length = b.length) (hs : a.length ≤ 1000000) (d : Nat) : ∀ (k i : Nat), i + d = a.length → d < k → api_Col_72.l0 k a b (a.length : Int) (i : Int) = some (allEq a b d i) := by
  induction d with
  | zero =>
    intro k i hi hk
    obtain ⟨k, rfl⟩ : ∃ m, k = m + 1 := ⟨k - 1, by omega⟩
    rw [api_Col_72.l0, if_neg (by omega), allEq]
  | succ d ih =>
    intro k i hi hk
    obtain ⟨k, rfl⟩ : ∃ m, k = m + 1 := ⟨k - 1, by omega⟩
    rw [api_Col_72.l0, if_pos (by omega), if_pos (by omega), if_pos (by omega), if_pos (by omega), allEq, w64 (by omega) (by omega), show ((i : Int) + 1) = ((i + 1 : Nat) : Int) from rfl, ih k (i + 1) (by omega) (by omega)]
    show (if colNe _ _ = true then some false else _) = _
    split <;> rfl
theorem ref_loop (a b : List S90) (hl : a.length = b.length) (hs : a.length ≤ 1000000) (d : Nat) : ∀ (k i : Nat), i + d = a.length → d < k → firkinref12_Same.l0 k a b (i : Int) = some (allEq a b d i) := by
  induction d with
  | zero =>
    intro k i hi hk
    obtain ⟨k, rfl⟩ : ∃ m, k = m + 1 := ⟨k - 1, by omega⟩
    rw [firkinref12_Same.l0, if_neg (by omega), allEq]
  | succ d ih =>
    intro k i hi hk
    obtain ⟨k, rfl⟩ : ∃ m, k = m + 1 := ⟨k - 1, by omega⟩
    rw [firkinref12_Same.l0, if_pos (by omega), if_pos (by omega), if_pos (by omega), allEq, w64 (by omega) (by omega), show ((i : Int) + 1) = ((i + 1 : Nat) : Int) from rfl, ih k (i + 1) (by omega) (by omega)]
    show (if colNe _ _ = true then some false else _) = _
    split <;> rfl
theorem code_same (a b : List S90) (hs : a.length ≤ 1000000) (k : Nat) (hk : a.length < k) : schema_Same.f k a b = some (sameL a b) := by
  unfold schema_Same.f api_Col_72.f sameL
  by_cases h : a.length = b.length
  · rw [if_pos (by omega), if_pos h, show (0 : Int) = ((0 : Nat) : Int) from rfl, code_loop a b h hs a.length k 0 (by omega) hk]; rfl
  · rw [if_neg (by omega), if_neg h]; rfl
theorem ref_same (a b : List S90) (hs : a.length ≤ 1000000) (k : Nat) (hk : a.length < k) : firkinref12_Same.f k a b = some (sameL a b) := by
  unfold firkinref12_Same.f sameL
  by_cases h : a.length = b.length
  · rw [if_pos (by omega), if_pos h, show (0 : Int) = ((0 : Nat) : Int) from rfl, ref_loop a b h hs a.length k 0 (by omega) hk]
  · rw [if_neg (by omega), if_neg h]
end Go.Proofs.Ytebalgjkabnldaa.Cols
