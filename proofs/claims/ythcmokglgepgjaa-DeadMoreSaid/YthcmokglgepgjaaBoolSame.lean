/- Lists of truths are the same as themselves. -/
import Derived.Test.YthcmokglgepgjaaX9
namespace Go.Proofs.Ythcmokglgepgjaa.Bitv
open Go.RowKit Go.Proofs.Ythcmokglgepgjaa.X Go.Proofs.YthcmokglgepgjaaW.PrintWords Go.Proofs.YthcmokglgepgjaaW.PrintLast Go.Proofs.YthcmokglgepgjaaW.PrintMore
set_option linter.unusedVariables false

theorem w64 {x : Int} (h0 : -9223372036854775808 ≤ x) (h1 : x < 9223372036854775808) : wrap64 x = x := by unfold wrap64; omega
theorem rdOf_nat (l : List Bool) (i : Nat) : rdOf false l (i : Int) = l.getD i false := rfl

theorem same_bools (l : List Bool) (hl : l.length < 100000000) (d : Nat) : ∀ (k i : Nat), i + d = l.length → d < k → firkinref04_Same.l0 k l l (i : Int) = some true := by
  induction d with
  | zero =>
    intro k i hd hk
    obtain ⟨k, rfl⟩ : ∃ m, k = m + 1 := ⟨k - 1, by omega⟩
    simp only [firkinref04_Same.l0]; rw [if_neg (by omega)]
  | succ d ih =>
    intro k i hd hk
    obtain ⟨k, rfl⟩ : ∃ m, k = m + 1 := ⟨k - 1, by omega⟩
    simp only [firkinref04_Same.l0]
    rw [if_pos (by omega), if_pos (by omega), if_pos (by omega), if_neg (by simp), w64 (by omega) (by omega), show ((i : Int) + 1) = ((i + 1 : Nat) : Int) by omega]
    exact ih k (i + 1) (by omega) (by omega)
theorem same_refl (l : List Bool) (hl : l.length < 100000000) (k : Nat) (hk : l.length < k) : firkinref04_Same.f k l l = some true := by
  unfold firkinref04_Same.f; rw [if_pos rfl]; exact same_bools l hl l.length k 0 (by omega) hk
end Go.Proofs.Ythcmokglgepgjaa.Bitv
