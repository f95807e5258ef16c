/- span.Cut, plain law: the code's and the document's are one; what live answers. -/
import Derived.Test.YtbepdhndnhoelaaX14
import Derived.Test.YtbepdhndnhoelaaX14
import Derived.Test.YtbepdhndnhoelaaX11
import Derived.Test.YtbepdhndnhoelaaRLists
namespace Go.Proofs.Ytbepdhndnhoelaa.X
open Go.RowKit Go.Proofs.YtbepdhndnhoelaaW.PrintWords Go.Proofs.YtbepdhndnhoelaaW.PrintLast Go.Proofs.YtbepdhndnhoelaaW.PrintMore
structure S33 where
  f0 : Int
  f1 : Int
def z33 : S33 := ⟨(0 : Int), (0 : Int)⟩
def k33 : Kd S33 := Kd.iso (Kd.pair (Kd.int .i64) (Kd.int .i64)) (fun x : S33 => (x.f0, x.f1))
theorem k33_heap : Kd.Heap k33 := Kd.heap_iso _ (Kd.heap_pair (Kd.heap_int .i64) (Kd.heap_int .i64))
theorem k33_open {w : World} {x : S33} {cs : List Value} (h : k33.K w x cs) : cs = [.int .i64 x.f0, .int .i64 x.f1] := by
  obtain ⟨_, _, rfl, rfl, rfl⟩ := h
  exact rfl
theorem k33_openM {w : World} {base : Nat} {ok : Nat → Prop} {x : S33} {cs : List Value} (h : k33.M w base ok x cs) : cs = [.int .i64 x.f0, .int .i64 x.f1] := by
  obtain ⟨_, _, rfl, rfl, rfl⟩ := h
  exact rfl
end Go.Proofs.Ytbepdhndnhoelaa.X
namespace Go.Proofs.Ytbepdhndnhoelaa.SpanCut
open Go Go.RowKit Go.Proofs.Ytbepdhndnhoelaa.X Go.Proofs.YtbepdhndnhoelaaW.PrintWords Go.Proofs.YtbepdhndnhoelaaW.PrintLast Go.Proofs.YtbepdhndnhoelaaW.PrintMore
set_option linter.unusedVariables false
set_option linter.unusedSimpArgs false
theorem live_is : firkinlaw26_live.f 100 = some true := by
  have hs : slices_Sort_int.f [1, 2, 5] = some [1, 2, 5] := by
    unfold slices_Sort_int.f
    rw [if_pos (by decide)]
    congr 1
    exact List.mergeSort_of_pairwise (by decide)
  have hr : ∀ g, span_Runs.f 100 [1, 2, 5] g = span_Runs.l0 100 g [] [1, 2, 5] 3 0 := by
    intro g
    have h1 : slices_Clone_int.f [1, 2, 5] = some [1, 2, 5] := by decide +kernel
    have h2 : slices_DeleteFunc_neg.f [1, 2, 5] = some [1, 2, 5] := by decide +kernel
    have h4 : slices_Compact_int.f [1, 2, 5] = some [1, 2, 5] := by decide +kernel
    unfold span_Runs.f
    rw [h1, Option.bind_some, h2, Option.bind_some, hs, Option.bind_some, h4, Option.bind_some]; rfl
  unfold firkinlaw26_live.f
  rw [hr, hr]
  decide +kernel
theorem live_at (k : Nat) (h : 100 ≤ k) : firkinlaw26_live.f k = some true := by
  obtain ⟨d, rfl⟩ : ∃ d, k = 100 + d := ⟨k - 100, by omega⟩
  clear h
  induction d with
  | zero => exact live_is
  | succ d ih => exact firkinlaw26_live.mono _ _ ih
/-- n pieces of 192 numbers at most. -/
def cutL : Nat → List Int → List (List Int)
  | 0, _ => []
  | n + 1, l => l.take 192 :: cutL n (l.drop 192)
theorem cut_loop (d : Nat) : ∀ (k i n : Nat) (x : List Int) (acc : List (List Int)), i + d = n → n ≤ 100 → d < k → x.length ≤ 1000 → acc.length ≤ 100 + i → span_Cut.l0 k x acc (n : Int) (i : Int) = some (acc ++ cutL d x) := by
  induction d with
  | zero =>
    intro k i n x acc h hn hk hx ha
    obtain ⟨k, rfl⟩ : ∃ m, k = m + 1 := ⟨k - 1, by omega⟩
    rw [span_Cut.l0, if_neg (by omega)]; simp [cutL]
  | succ d ih =>
    intro k i n x acc h hn hk hx ha
    obtain ⟨k, rfl⟩ : ∃ m, k = m + 1 := ⟨k - 1, by omega⟩
    obtain ⟨m, hm⟩ : ∃ m : Nat, mn (x.length : Int) 192 = (m : Int) ∧ m ≤ x.length ∧ (m = 192 ∨ m = x.length ∧ m ≤ 192) := by
      by_cases h : x.length ≤ 192
      · exact ⟨x.length, by unfold mn; split <;> omega, by omega, by omega⟩
      · exact ⟨192, by unfold mn; split <;> omega, by omega, by omega⟩
    obtain ⟨e, h1, h2⟩ := hm
    have et : x.take m = x.take 192 := by
      rcases h2 with rfl | ⟨rfl, h2⟩
      · rfl
      · rw [List.take_of_length_le (Nat.le_refl _), List.take_of_length_le h2]
    have ed : x.drop m = x.drop 192 := by
      rcases h2 with rfl | ⟨rfl, h2⟩
      · rfl
      · rw [List.drop_eq_nil_of_le (Nat.le_refl _), List.drop_eq_nil_of_le h2]
    rw [span_Cut.l0, e, if_pos (by omega), if_pos (by omega), if_pos (by omega), Int.toNat_natCast, et, ed]
    unfold slices_Clone_byte.f
    rw [if_pos (by rw [List.length_take]; omega), Option.bind_some, if_pos (by omega), show wrap64 ((i : Int) + 1) = ((i + 1 : Nat) : Int) by unfold wrap64; omega,
      ih k (i + 1) n _ _ (by omega) hn (by omega) (by rw [List.length_drop]; omega) (by rw [List.length_append]; simp; omega), cutL, List.append_assoc]; rfl
theorem rcut_loop (d : Nat) : ∀ (k : Nat) (p : Int) (x : List Int) (acc : List (List Int)) (a0 a1 : Int), p + d = a1 + 1 → 0 ≤ p → a1 ≤ 5461 → acc.length + d ≤ 100 → 2 * d + 1 < k → x.length ≤ 1000 → firkinref26_Cut.l0 k x acc p a0 a1 = some (acc ++ cutL d x) := by
  induction d with
  | zero =>
    intro k p x acc a0 a1 h hp h1 ha hk hx
    obtain ⟨k, rfl⟩ : ∃ m, k = m + 2 := ⟨k - 2, by omega⟩
    rw [firkinref26_Cut.l0, if_neg (by omega), firkinref26_Cut.j2, if_neg (by decide)]; simp [cutL]
  | succ d ih =>
    intro k p x acc a0 a1 h hp h1 ha hk hx
    obtain ⟨k, rfl⟩ : ∃ m, k = m + 2 := ⟨k - 2, by omega⟩
    have ew : wrap64 (p + 1) = p + 1 := by unfold wrap64; omega
    rw [firkinref26_Cut.l0, if_pos (by omega), firkinref26_Cut.j2, if_pos (by simp; omega)]
    by_cases hl : (x.length : Int) > 192
    · rw [if_pos hl, if_pos (by omega), if_pos (by omega), ew, ih k (p + 1) _ _ a0 a1 (by omega) (by omega) h1 (by rw [List.length_append]; simp; omega) (by omega) (by rw [List.length_drop]; omega), cutL, List.append_assoc]; rfl
    · rw [if_neg hl, if_pos (by omega), if_pos (by omega), if_pos (by omega), ew, Int.toNat_natCast, ih k (p + 1) _ _ a0 a1 (by omega) (by omega) h1 (by rw [List.length_append]; simp; omega) (by omega) (by rw [List.length_drop]; omega), cutL, List.append_assoc,
        show x.take x.length = x.take 192 by rw [List.take_of_length_le (Nat.le_refl _), List.take_of_length_le (by omega)], show x.drop x.length = x.drop 192 by rw [List.drop_eq_nil_of_le (Nat.le_refl _), List.drop_eq_nil_of_le (by omega)]]; rfl
theorem rcut_none (k : Nat) (p : Int) (x : List Int) (acc : List (List Int)) (a0 a1 : Int) (h : a1 < p) : firkinref26_Cut.l0 (k + 2) x acc p a0 a1 = some acc := by
  rw [firkinref26_Cut.l0, if_neg (by omega), firkinref26_Cut.j2, if_neg (by decide)]
/-- The two are one where the law asks. -/
theorem cut_same (x : List Int) (a0 a1 : Int) (hx : x.length ≤ 1000) (b0 : -9223372036854775808 ≤ a0) (b1 : a0 < 9223372036854775808) (c0 : -9223372036854775808 ≤ a1) (c1 : a1 < 9223372036854775808) (h : ¬ (0 ≤ a0 ∧ a1 ≤ 5461 ∧ 0 ≤ a1 ∧ 20 < wrap64 (a1 - a0))) :
    ∃ l, span_Cut.f 999 a0 a1 x = some l ∧ firkinref26_Cut.f 999 a0 a1 x = some l := by
  have hj : ∀ b, b = true → span_Cut.j0 999 x b a0 a1 = some [] := by rintro b rfl; rw [span_Cut.j0, if_pos rfl]
  have hr : ∀ b, b = true → firkinref26_Cut.j0 999 x [] b a0 a1 = some [] := by rintro b rfl; rw [firkinref26_Cut.j0, if_pos rfl]
  unfold span_Cut.f firkinref26_Cut.f
  rw [Option.bind_some]
  by_cases h1 : a0 < 0
  · refine ⟨[], ?_, by rw [if_pos h1]; exact hr _ rfl⟩
    rw [if_pos h1, hj _ rfl]; simp
  rw [if_neg h1, if_neg h1]
  by_cases h2 : 5461 < a1
  · refine ⟨[], ?_, hr _ (by simpa using h2)⟩
    split
    · exact hj _ rfl
    · exact hj _ (by simpa using h2)
  by_cases h3 : a1 < a0
  · refine ⟨[], by rw [if_pos h3]; exact hj _ rfl, ?_⟩
    rw [firkinref26_Cut.j0, if_neg (by simpa using h2)]
    exact rcut_none 996 a0 x [] a0 a1 h3
  · have hw : wrap64 (a1 - a0) = a1 - a0 := by unfold wrap64; omega
    rw [hw] at h
    have hd : ((a1 - a0 + 1).toNat : Int) = a1 - a0 + 1 := by omega
    refine ⟨cutL (a1 - a0 + 1).toNat x, ?_, ?_⟩
    · rw [if_neg h3, span_Cut.j0, if_neg (by simpa using h2), hw, show wrap64 (a1 - a0 + 1) = (((a1 - a0 + 1).toNat : Nat) : Int) by unfold wrap64; omega]
      have := cut_loop (a1 - a0 + 1).toNat 998 0 (a1 - a0 + 1).toNat x [] (by omega) (by omega) (by omega) hx (by simp)
      simpa using this
    · rw [firkinref26_Cut.j0, if_neg (by simpa using h2)]
      have := rcut_loop (a1 - a0 + 1).toNat 998 a0 x [] a0 a1 (by omega) (by omega) (by omega) (by simp; omega) (by omega) hx
      simpa using this
theorem lists_self : ∀ a : List (List Int), listsGo a a = true
  | [] => rfl
  | x :: a => by rw [listsGo, if_pos rfl, lists_self a]
end Go.Proofs.Ytbepdhndnhoelaa.SpanCut
