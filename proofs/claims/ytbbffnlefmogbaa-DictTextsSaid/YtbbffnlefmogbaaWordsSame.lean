/- dict's words and firkinref08's are the same. -/
import Derived.Test.YtbbffnlefmogbaaWordsPlain
namespace Go.Proofs.Ytbbffnlefmogbaa.X
open Go
set_option linter.unusedVariables false
set_option linter.unusedSimpArgs false
theorem less_iff (x y : ByteArray) : Op.bytesLess x.toList y.toList = decide (x.data.toList < y.data.toList) := by
  rw [bytesLess_eq, Lib.toList_data, Lib.toList_data]
def insR : List ByteArray → ByteArray → List ByteArray
  | [], x => [x]
  | y :: t, x => if Op.bytesLess y.toList x.toList = true then y :: insR t x else if y = x then y :: t else x :: y :: t
theorem insW_R : ∀ (l : List ByteArray) (x : ByteArray), insW l x = insR l x
  | [], x => by simp [insW, insR, insPosW]
  | y :: t, x => by
    have ih := insW_R t x
    unfold insW at ih ⊢
    rw [insR, insPosW]
    by_cases h : Op.bytesLess y.toList x.toList = true
    · rw [if_pos h, if_pos h, ← ih]
      simp only [List.length_cons, Nat.add_right_cancel_iff, List.getD_cons_succ, List.take_succ_cons, List.drop_succ_cons]
      split <;> rfl
    · rw [if_neg h, if_neg h]
      by_cases e : y = x
      · rw [if_pos e, if_neg]
        simp [e]
      · rw [if_neg e, if_pos]
        · simp
        · right; simpa using e
theorem insR_mem : ∀ (l : List ByteArray) (x s : ByteArray), s ∈ insR l x ↔ s ∈ l ∨ s = x
  | [], x, s => by simp [insR]
  | y :: t, x, s => by
    rw [insR]
    split
    · rw [List.mem_cons, insR_mem t x s, List.mem_cons, or_assoc]
    · split
      · rename_i h1 h2
        subst h2
        simp only [List.mem_cons]
        constructor
        · intro h; exact Or.inl h
        · rintro (h | h)
          · exact h
          · exact Or.inl h
      · simp only [List.mem_cons]
        constructor
        · rintro (h | h | h)
          · exact Or.inr h
          · exact Or.inl (Or.inl h)
          · exact Or.inl (Or.inr h)
        · rintro ((h | h) | h)
          · exact Or.inr (Or.inl h)
          · exact Or.inr (Or.inr h)
          · exact Or.inl h
theorem insR_lt : ∀ (l : List ByteArray) (x : ByteArray), (l.Pairwise fun a b => a.data.toList < b.data.toList) → (insR l x).Pairwise fun a b => a.data.toList < b.data.toList
  | [], x, _ => by simp [insR]
  | y :: t, x, h => by
    obtain ⟨h1, h2⟩ := List.pairwise_cons.1 h
    rw [insR]
    split
    · rename_i h3
      rw [less_iff, decide_eq_true_eq] at h3
      refine List.pairwise_cons.2 ⟨fun s hs => ?_, insR_lt t x h2⟩
      rcases (insR_mem t x s).1 hs with h4 | h4
      · exact h1 s h4
      · subst h4; exact h3
    · rename_i h3
      rw [less_iff, decide_eq_true_eq] at h3
      split
      · exact h
      · rename_i h4
        have h5 : x.data.toList < y.data.toList := by
          rcases Classical.em (x.data.toList < y.data.toList) with h6 | h6
          · exact h6
          · exact absurd (ba_toList (by rw [Lib.toList_data, Lib.toList_data]; exact List.le_antisymm (List.not_lt.mp h6) (List.not_lt.mp h3))) h4
        refine List.pairwise_cons.2 ⟨fun s hs => ?_, h⟩
        rcases List.mem_cons.1 hs with h6 | h6
        · subst h6; exact h5
        · exact List.lt_trans h5 (h1 s h6)
theorem foldl_ins_mem : ∀ (l out : List ByteArray) (s : ByteArray), s ∈ l.foldl insW out ↔ s ∈ out ∨ s ∈ l
  | [], out, s => by simp
  | x :: l, out, s => by
    rw [List.foldl_cons, foldl_ins_mem l (insW out x) s, insW_R, insR_mem, List.mem_cons, or_assoc]
theorem foldl_ins_lt : ∀ (l out : List ByteArray), (out.Pairwise fun a b => a.data.toList < b.data.toList) → (l.foldl insW out).Pairwise fun a b => a.data.toList < b.data.toList
  | [], out, h => h
  | x :: l, out, h => by
    rw [List.foldl_cons]
    exact foldl_ins_lt l _ (by rw [insW_R]; exact insR_lt out x h)
theorem rising_eq {a b : List ByteArray} (ha : a.Pairwise fun a b => a.data.toList < b.data.toList) (hb : b.Pairwise fun a b => a.data.toList < b.data.toList) (h : ∀ s, s ∈ a ↔ s ∈ b) : a = b := by
  have na : a.Nodup := ha.imp fun {a b} h e => by rw [e] at h; exact List.lt_irrefl _ h
  have nb : b.Nodup := hb.imp fun {a b} h e => by rw [e] at h; exact List.lt_irrefl _ h
  refine List.Perm.eq_of_pairwise (le := fun a b => a.data.toList < b.data.toList) (fun x y _ _ h1 h2 => ?_) ha hb ((List.perm_ext_iff_of_nodup na nb).2 h)
  exact absurd (List.lt_trans h1 h2) (List.lt_irrefl _)
/-- The two words' lists are one. -/
theorem words_same (l : List ByteArray) : l.foldl insW [] = dpL l :=
  rising_eq (foldl_ins_lt l [] List.Pairwise.nil) (dpL_lt l) fun s => by rw [foldl_ins_mem, dpL_mem]; simp
end Go.Proofs.Ytbbffnlefmogbaa.X
