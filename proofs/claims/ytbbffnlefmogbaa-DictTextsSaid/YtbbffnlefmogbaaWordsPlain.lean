/- firkinref08's words in plain words: each text is laid in behind those that are less. -/
import Derived.Test.YtbbffnlefmogbaaDictWords
import Derived.Sort.Walk0
namespace Go.Proofs.Ytbbffnlefmogbaa.X
open Go
set_option linter.unusedVariables false
set_option linter.unusedSimpArgs false
theorem ba_toList {x y : ByteArray} (h : x.toList = y.toList) : x = y := by
  rw [Lib.toList_data, Lib.toList_data] at h
  cases x; cases y; simp_all
/-- How many stand ahead of x. -/
def insPosW : List ByteArray → ByteArray → Nat
  | [], _ => 0
  | y :: t, x => if Op.bytesLess y.toList x.toList = true then insPosW t x + 1 else 0
def insW (out : List ByteArray) (x : ByteArray) : List ByteArray :=
  if insPosW out x = out.length ∨ out.getD (insPosW out x) ByteArray.empty ≠ x then (out.take (insPosW out x) ++ [x]) ++ out.drop (insPosW out x) else out
theorem insPosW_le : ∀ (l : List ByteArray) (x : ByteArray), insPosW l x ≤ l.length
  | [], _ => Nat.le_refl _
  | y :: t, x => by
    rw [insPosW, List.length_cons]
    have := insPosW_le t x
    split <;> omega
theorem insPosW_is : ∀ (l : List ByteArray) (x : ByteArray) (j : Nat), j ≤ l.length → (∀ m, m < j → Op.bytesLess (l.getD m ByteArray.empty).toList x.toList = true) → (j = l.length ∨ ¬ Op.bytesLess (l.getD j ByteArray.empty).toList x.toList = true) → insPosW l x = j
  | [], x, j, hj, _, _ => by simp at hj; subst hj; rfl
  | y :: t, x, 0, hj, _, h2 => by
    rw [insPosW, if_neg]
    rcases h2 with h2 | h2
    · simp at h2
    · simpa using h2
  | y :: t, x, j + 1, hj, h1, h2 => by
    have h0 : Op.bytesLess y.toList x.toList = true := by simpa using h1 0 (by omega)
    rw [insPosW, if_pos h0, insPosW_is t x j (by simpa using hj) (fun m hm => by simpa using h1 (m + 1) (by omega)) ?_]
    rcases h2 with h2 | h2
    · left; simpa using h2
    · right; simpa using h2
theorem insW_len (out : List ByteArray) (x : ByteArray) : (insW out x).length ≤ out.length + 1 := by
  unfold insW; split
  · simp only [List.length_append, List.length_take, List.length_drop, List.length_singleton]; omega
  · omega
theorem foldl_insW_len : ∀ (l out : List ByteArray), (l.foldl insW out).length ≤ out.length + l.length
  | [], out => by simp
  | x :: l, out => by
    rw [List.foldl_cons, List.length_cons]
    have := foldl_insW_len l (insW out x)
    have := insW_len out x
    omega
end Go.Proofs.Ytbbffnlefmogbaa.X
