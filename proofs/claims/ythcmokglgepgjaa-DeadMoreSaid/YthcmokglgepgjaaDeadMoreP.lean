/- More rows gone, and which are left, plain law. -/
import Derived.Test.YthcmokglgepgjaaDeadLv
import Derived.Test.YthcmokglgepgjaaBoolSame
import Derived.Test.YthcmokglgepgjaaDec
import Derived.Test.YthcmokglgepgjaaDeadLive
import Derived.Test.YthcmokglgepgjaaX10
import Derived.Test.YthcmokglgepgjaaX10
import Derived.Test.YthcmokglgepgjaaX11
import Derived.Test.YthcmokglgepgjaaX11
namespace Go.Proofs.Ythcmokglgepgjaa.Dead
open Go Go.RowKit Go.Proofs.Ythcmokglgepgjaa.X Go.Proofs.Ythcmokglgepgjaa.Dec Go.Proofs.YthcmokglgepgjaaW.PrintWords Go.Proofs.YthcmokglgepgjaaW.PrintLast Go.Proofs.YthcmokglgepgjaaW.PrintMore
set_option linter.unusedVariables false
set_option linter.unusedSimpArgs false
def moreGo (x : List Bool) : List Int → List Bool × Int
  | [] => (x, 0)
  | g :: gs => if g < 0 ∨ (x.length : Int) ≤ g then ([], 1) else moreGo (x.set g.toNat true) gs
theorem rdI (l : List Int) (i : Nat) (h : i < l.length) : rd l (i : Int) = l[i] := by
  show l.getD (i : Int).toNat 0 = _
  rw [Int.toNat_natCast, List.getD_eq_getElem?_getD, List.getElem?_eq_getElem h]; rfl
theorem more_loop (gone : List Int) (hg : gone.length ≤ 1000000) (d : Nat) : ∀ (k i : Nat) (x : List Bool), i + d = gone.length → d < k → dead_More.l0 k x gone (gone.length : Int) (i : Int) = some (moreGo x (gone.drop i)) := by
  induction d with
  | zero =>
    intro k i x hi hk
    obtain ⟨k, rfl⟩ : ∃ m, k = m + 1 := ⟨k - 1, by omega⟩
    rw [dead_More.l0, if_neg (by omega), List.drop_eq_nil_of_le (by omega), moreGo]
  | succ d ih =>
    intro k i x hi hk
    obtain ⟨k, rfl⟩ : ∃ m, k = m + 1 := ⟨k - 1, by omega⟩
    have hlt : i < gone.length := by omega
    rw [dead_More.l0, if_pos (by omega), if_pos (by omega), if_pos (by omega), rdI gone i hlt, List.drop_eq_getElem_cons hlt, moreGo]
    by_cases h1 : gone[i] < 0
    · rw [if_pos h1, if_pos (Or.inl h1)]
    · rw [if_neg h1]
      by_cases h2 : gone[i] ≥ (x.length : Int)
      · rw [if_pos h2, if_pos (Or.inr h2)]
      · rw [if_neg h2, if_pos (by omega), if_pos (by omega), if_neg (by omega), w64 (by omega) (by omega)]
        exact ih k (i + 1) _ (by omega) (by omega)
theorem rmore_loop (gone : List Int) (hg : gone.length ≤ 1000000) (d : Nat) : ∀ (k i : Nat) (x : List Bool), i + d = gone.length → d < k → firkinref14_More.l0 k gone x (i : Int) = some (moreGo x (gone.drop i)) := by
  induction d with
  | zero =>
    intro k i x hi hk
    obtain ⟨k, rfl⟩ : ∃ m, k = m + 1 := ⟨k - 1, by omega⟩
    rw [firkinref14_More.l0, if_neg (by omega), List.drop_eq_nil_of_le (by omega), moreGo]
  | succ d ih =>
    intro k i x hi hk
    obtain ⟨k, rfl⟩ : ∃ m, k = m + 1 := ⟨k - 1, by omega⟩
    have hlt : i < gone.length := by omega
    rw [firkinref14_More.l0, if_pos (by omega), if_pos (by omega), rdI gone i hlt, List.drop_eq_getElem_cons hlt, moreGo]
    by_cases h1 : gone[i] < 0
    · rw [if_pos h1, if_pos (Or.inl h1)]
    · rw [if_neg h1]
      by_cases h2 : gone[i] ≥ (x.length : Int)
      · rw [if_pos h2, if_pos (Or.inr h2)]
      · rw [if_neg h2, if_pos (by omega), if_pos (by omega), if_neg (by omega), w64 (by omega) (by omega)]
        exact ih k (i + 1) _ (by omega) (by omega)
def moreL (l : List Bool) (gone : List Int) : List Bool × Int := if (l.length : Int) > 200 then ([], 4) else moreGo l gone
theorem more_is (l : List Bool) (gone : List Int) (hg : gone.length ≤ 1000) (k : Nat) (hk : 2000 ≤ k) : dead_More.f k l gone = some (moreL l gone) ∧ firkinref14_More.f k l gone = some (moreL l gone) := by
  unfold dead_More.f firkinref14_More.f moreL
  by_cases hl : (l.length : Int) > 200
  · rw [if_pos hl, if_pos hl, if_pos hl]; exact ⟨rfl, rfl⟩
  · rw [if_neg hl, if_neg hl, if_neg hl]
    unfold slices_Clone_bool.f
    rw [if_pos (by omega), Option.bind_some, Option.bind_some, List.nil_append, if_pos (by simp; omega)]
    exact ⟨more_loop gone (by omega) gone.length k 0 l (by omega) (by omega), rmore_loop gone (by omega) gone.length k 0 l (by omega) (by omega)⟩
/-- All that was gone is gone. -/
def Over (l m : List Bool) : Prop := m.length = l.length ∧ ∀ i, l.getD i false = true → m.getD i false = true
theorem moreGo_over (l : List Bool) (gone : List Int) : ∀ x, Over l x → ((moreGo x gone).2 = 0 → Over l (moreGo x gone).1) ∧ (moreGo x gone).1.length ≤ l.length := by
  induction gone with
  | nil => intro x h; exact ⟨fun _ => h, Nat.le_of_eq h.1⟩
  | cons g gs ih =>
    intro x h
    rw [moreGo]
    by_cases hc : g < 0 ∨ (x.length : Int) ≤ g
    · rw [if_pos hc]; exact ⟨fun h9 => by simp at h9, by simp⟩
    · rw [if_neg hc]
      refine ih _ ⟨by rw [List.length_set]; exact h.1, fun i hi => ?_⟩
      have h2 := h.2 i hi
      rw [List.getD_eq_getElem?_getD, List.getElem?_set]
      split
      · rename_i he
        subst he
        rw [if_pos (by omega)]; rfl
      · rw [← List.getD_eq_getElem?_getD]; exact h2
theorem moreL_over (l : List Bool) (gone : List Int) : ((moreL l gone).2 = 0 → Over l (moreL l gone).1) ∧ (moreL l gone).1.length ≤ l.length := by
  unfold moreL
  split
  · exact ⟨fun h9 => by simp at h9, by simp⟩
  · exact moreGo_over l gone l ⟨rfl, fun _ h => h⟩
theorem left_over {l m : List Bool} (h : Over l m) (i : Nat) (hm : isLeft m i = true) : isLeft l i = true := by
  unfold isLeft at hm ⊢
  rw [h.1] at hm
  split
  · rename_i hlt
    rw [if_pos hlt] at hm
    cases hb : l.getD i false with
    | false => rfl
    | true => rw [h.2 i hb] at hm; cases hm
  · rfl
theorem live_le {l m : List Bool} (h : Over l m) (r : List (List S94)) : ∀ i, (liveGo m r i).length ≤ (liveGo l r i).length := by
  induction r with
  | nil => intro i; exact Nat.le_refl _
  | cons x r ih =>
    intro i
    have := ih (i + 1)
    rw [liveGo, liveGo]
    by_cases hm : isLeft m i = true
    · rw [if_pos hm, if_pos (left_over h i hm), List.length_cons, List.length_cons]; omega
    · rw [if_neg hm]
      split
      · rw [List.length_cons]; omega
      · exact this
theorem liveGo_len (l : List Bool) (r : List (List S94)) : ∀ i, (liveGo l r i).length ≤ r.length := by
  induction r with
  | nil => intro i; exact Nat.le_refl _
  | cons x r ih =>
    intro i
    have := ih (i + 1)
    rw [liveGo, List.length_cons]
    split
    · rw [List.length_cons]; omega
    · omega
theorem liveGo_mem (l : List Bool) (r : List (List S94)) : ∀ i, ∀ x ∈ liveGo l r i, x ∈ r := by
  induction r with
  | nil => intro i x hx; exact hx
  | cons y r ih =>
    intro i x hx
    rw [liveGo] at hx
    split at hx
    · rcases List.mem_cons.mp hx with rfl | hx
      · exact List.mem_cons_self
      · exact List.mem_cons_of_mem _ (ih _ x hx)
    · exact List.mem_cons_of_mem _ (ih _ x hx)
theorem rdL (r : List (List S94)) (i : Nat) (h : i < r.length) : rd_L9 r (i : Int) = r[i] := by
  rw [rd_L9, Int.toNat_natCast, List.getD_eq_getElem?_getD, List.getElem?_eq_getElem h]; rfl
theorem rlive_loop (r : List (List S94)) (l : List Bool) (hr : r.length ≤ 1000000) (d : Nat) : ∀ (k i : Nat) (xs : List (List S94)), i + d = r.length → d < k → xs.length ≤ i → firkinref14_Live.l0 k r l xs (i : Int) = some (xs ++ liveGo l (r.drop i) i) := by
  induction d with
  | zero =>
    intro k i xs hi hk _
    obtain ⟨k, rfl⟩ : ∃ m, k = m + 1 := ⟨k - 1, by omega⟩
    rw [firkinref14_Live.l0, if_neg (by omega), List.drop_eq_nil_of_le (by omega), liveGo, List.append_nil]
  | succ d ih =>
    intro k i xs hi hk hx
    obtain ⟨k, rfl⟩ : ∃ m, k = m + 1 := ⟨k - 1, by omega⟩
    have hlt : i < r.length := by omega
    have hrd := rdL r i hlt
    have hyes : isLeft l i = true → firkinref14_Live.l0 k r l (xs ++ [rd_L9 r (i : Int)]) (wrap64 ((i : Int) + 1)) = some (xs ++ liveGo l (r.drop i) i) := by
      intro hl
      rw [w64 (by omega) (by omega), hrd, liveGo_at l r i hlt, if_pos hl]
      have := ih k (i + 1) (xs ++ [r[i]]) (by omega) (by omega) (by rw [List.length_append]; show _ + 1 ≤ _; omega)
      rw [List.append_assoc] at this
      exact this
    rw [firkinref14_Live.l0, if_pos (by omega)]
    by_cases hge : (i : Int) ≥ (l.length : Int)
    · rw [if_pos hge, if_pos (by omega), if_pos (by omega)]
      exact hyes (by rw [isLeft, if_neg (by omega)])
    · rw [if_neg hge, if_pos (by omega), if_pos (by omega)]
      have hb : rdOf false l (i : Int) = l.getD i false := by rw [rdOf, Int.toNat_natCast]
      by_cases hg : rdOf false l (i : Int) = true
      · rw [if_pos hg, w64 (by omega) (by omega), liveGo_at l r i hlt, if_neg (by rw [isLeft, if_pos (by omega), ← hb, hg]; decide)]
        exact ih k (i + 1) xs (by omega) (by omega) (by omega)
      · rw [if_neg hg, if_pos (by omega)]
        exact hyes (by rw [isLeft, if_pos (by omega), ← hb]; cases h9 : rdOf false l (i : Int) with | true => exact absurd h9 hg | false => rfl)
theorem rlive_is (r : List (List S94)) (l : List Bool) (hr : r.length ≤ 1000) (k : Nat) (hk : 2000 ≤ k) : firkinref14_Live.f k r l = some (liveGo l r 0) := by
  have := rlive_loop r l (by omega) r.length k 0 [] (by omega) (by omega) (by simp)
  rw [List.nil_append, List.drop_zero] at this
  exact this
theorem live_of (r : List (List S94)) (l : List Bool) (hr : r.length ≤ 1000) : dead_Live.f r l = some (liveGo l r 0) := by
  unfold dead_Live.f; rw [if_pos (by omega)]
theorem all_loop (l : List S94) (M : Nat) (hM : M ≤ maxLen) (hl : l.length ≤ M) (d : Nat) : ∀ (k i : Nat), i + d = l.length → d < k → firkinref09_All.l0 k l l (i : Int) = some true := by
  induction d with
  | zero =>
    intro k i hi hk
    obtain ⟨k, rfl⟩ : ∃ m, k = m + 1 := ⟨k - 1, by omega⟩
    rw [firkinref09_All.l0, if_neg (by omega)]
  | succ d ih =>
    intro k i hi hk
    obtain ⟨k, rfl⟩ : ∃ m, k = m + 1 := ⟨k - 1, by omega⟩
    have hm : M ≤ maxLen := hM
    unfold maxLen at hm
    rw [firkinref09_All.l0, if_pos (by omega), if_pos (by omega), if_pos (by omega), if_neg (by simp), w64 (by omega) (by omega)]
    exact ih k (i + 1) (by omega) (by omega)
theorem all_self (l : List S94) (M : Nat) (hM : M ≤ maxLen) (hl : l.length ≤ M) (k : Nat) (hk : M < k) : firkinref09_All.f k l l = some true := by
  unfold firkinref09_All.f
  rw [if_pos rfl]; exact all_loop l M hM hl l.length k 0 (by omega) (by omega)
theorem rows_loop (r : List (List S94)) (hr : r.length ≤ 1000) (M : Nat) (hM : M ≤ maxLen) (hl : ∀ x ∈ r, x.length ≤ M) (d : Nat) : ∀ (k i : Nat), i + d = r.length → M + d + 1 < k → firkinref09_Rows.l0 k r r (i : Int) = some true := by
  induction d with
  | zero =>
    intro k i hi hk
    obtain ⟨k, rfl⟩ : ∃ m, k = m + 1 := ⟨k - 1, by omega⟩
    rw [firkinref09_Rows.l0, if_neg (by omega)]
  | succ d ih =>
    intro k i hi hk
    obtain ⟨k, rfl⟩ : ∃ m, k = m + 1 := ⟨k - 1, by omega⟩
    have hlt : i < r.length := by omega
    rw [firkinref09_Rows.l0, if_pos (by omega), if_pos (by omega), if_pos (by omega), rdL r i hlt, all_self _ M hM (hl _ (List.getElem_mem hlt)) k (by omega), Option.bind_some, if_pos rfl, w64 (by omega) (by omega)]
    exact ih k (i + 1) (by omega) (by omega)
theorem rows_self (r : List (List S94)) (hr : r.length ≤ 1000) (M : Nat) (hM : M ≤ maxLen) (hl : ∀ x ∈ r, x.length ≤ M) (k : Nat) (hk : M + 2000 < k) : firkinref09_Rows.f k r r = some true := by
  unfold firkinref09_Rows.f
  rw [if_pos rfl]; exact rows_loop r hr M hM hl r.length k 0 (by omega) (by omega)
end Go.Proofs.Ythcmokglgepgjaa.Dead
