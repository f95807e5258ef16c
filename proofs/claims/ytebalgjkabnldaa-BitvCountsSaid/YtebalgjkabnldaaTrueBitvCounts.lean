/- BitvCounts, in plain numbers and lists: how many are true, where, and of two lists together. No condition. -/
import Derived.Test.YtebalgjkabnldaaBitv
import Derived.Test.YtebalgjkabnldaaX7
namespace Go.Proofs.Ytebalgjkabnldaa.True_
open Go.RowKit Go.Proofs.Ytebalgjkabnldaa.X Go.Proofs.Ytebalgjkabnldaa.Bitv Go.Proofs.YtebalgjkabnldaaW.PrintWords Go.Proofs.YtebalgjkabnldaaW.PrintLast Go.Proofs.YtebalgjkabnldaaW.PrintMore
set_option linter.unusedVariables false
/-- Where they are true, from place i on. -/
def plc : Nat → List Bool → List Int
  | _, [] => []
  | i, b :: l => if b = true then (i : Int) :: plc (i + 1) l else plc (i + 1) l
theorem plc_le (l : List Bool) : ∀ i, (plc i l).length ≤ l.length := by
  induction l with
  | nil => intro i; exact Nat.le_refl _
  | cons b l ih =>
    intro i
    have := ih (i + 1)
    rw [plc, List.length_cons]
    split
    · rw [List.length_cons]; omega
    · omega
theorem plc_or (a b : List Bool) : ∀ i, (plc i (orL a b)).length ≤ (plc i a).length + (plc i b).length ∧ (plc i a).length ≤ (plc i (orL a b)).length := by
  induction a generalizing b with
  | nil => intro i; simp [orL, plc]
  | cons x a ih =>
    intro i
    cases b with
    | nil => rw [orL_nil]; simp [plc]
    | cons y b =>
      have := ih b (i + 1)
      cases x <;> cases y <;> simp [orL, plc] <;> omega
theorem drop_get {l : List Bool} {i : Nat} (h : i < l.length) : l.drop i = l.getD i false :: l.drop (i + 1) := by
  rw [List.drop_eq_getElem_cons h, List.getD_eq_getElem?_getD, List.getElem?_eq_getElem h]; rfl
theorem places_loop (l : List Bool) (hl : l.length < 1000000) (d : Nat) : ∀ (k i : Nat) (acc : List Int), i + d = l.length → d < k → acc.length ≤ i →
    bitv_Places.l0 k acc l (l.length : Int) (i : Int) = some (acc ++ plc i (l.drop i)) := by
  induction d with
  | zero =>
    intro k i acc h1 h2 h3
    obtain ⟨k, rfl⟩ : ∃ m, k = m + 1 := ⟨k - 1, by omega⟩
    rw [bitv_Places.l0, if_neg (by omega), List.drop_eq_nil_of_le (by omega), plc, List.append_nil]
  | succ d ih =>
    intro k i acc h1 h2 h3
    obtain ⟨k, rfl⟩ : ∃ m, k = m + 1 := ⟨k - 1, by omega⟩
    have hw : wrap64 ((i : Int) + 1) = ((i + 1 : Nat) : Int) := by rw [w64 (by omega) (by omega)]; omega
    rw [bitv_Places.l0, if_pos (by omega), if_pos (by omega), if_pos (by omega), rdOf_nat, drop_get (by omega), plc, hw]
    by_cases hb : l.getD i false = true
    · rw [if_pos hb, if_pos hb, if_pos (by omega), ih k (i + 1) _ (by omega) (by omega) (by simp; omega), List.append_assoc]; rfl
    · rw [if_neg hb, if_neg hb, ih k (i + 1) _ (by omega) (by omega) (by omega)]
theorem places_is (l : List Bool) (hl : l.length < 1000000) (k : Nat) (hk : l.length < k) : bitv_Places.f k l = some (plc 0 l) :=
  places_loop l hl l.length k 0 [] (by omega) (by omega) (Nat.le_refl _)
theorem rplaces_loop (l : List Bool) (hl : l.length < 1000000) (d : Nat) : ∀ (k i : Nat) (acc : List Int), i + d = l.length → d < k → acc.length ≤ i →
    firkinref04_Places.l0 k l acc (i : Int) = some (acc ++ plc i (l.drop i)) := by
  induction d with
  | zero =>
    intro k i acc h1 h2 h3
    obtain ⟨k, rfl⟩ : ∃ m, k = m + 1 := ⟨k - 1, by omega⟩
    rw [firkinref04_Places.l0, if_neg (by omega), List.drop_eq_nil_of_le (by omega), plc, List.append_nil]
  | succ d ih =>
    intro k i acc h1 h2 h3
    obtain ⟨k, rfl⟩ : ∃ m, k = m + 1 := ⟨k - 1, by omega⟩
    have hw : wrap64 ((i : Int) + 1) = ((i + 1 : Nat) : Int) := by rw [w64 (by omega) (by omega)]; omega
    rw [firkinref04_Places.l0, if_pos (by omega), if_pos (by omega), rdOf_nat, drop_get (by omega), plc, hw]
    by_cases hb : l.getD i false = true
    · rw [if_pos hb, if_pos hb, if_pos (by omega), ih k (i + 1) _ (by omega) (by omega) (by simp; omega), List.append_assoc]; rfl
    · rw [if_neg hb, if_neg hb, ih k (i + 1) _ (by omega) (by omega) (by omega)]
theorem rplaces_is (l : List Bool) (hl : l.length < 1000000) (k : Nat) (hk : l.length < k) : firkinref04_Places.f k l = some (plc 0 l) :=
  rplaces_loop l hl l.length k 0 [] (by omega) (by omega) (Nat.le_refl _)
theorem ror_loop (a b : List Bool) (ha : a.length < 1000000) (hb : b.length < 1000000) (d : Nat) : ∀ (k i : Nat) (acc : List Bool), i + d = max a.length b.length → d < k → acc.length = i →
    firkinref04_Or.l0 k a b acc (i : Int) = some (acc ++ orL (a.drop i) (b.drop i)) := by
  induction d with
  | zero =>
    intro k i acc h1 h2 h3
    obtain ⟨k, rfl⟩ : ∃ m, k = m + 1 := ⟨k - 1, by omega⟩
    rw [firkinref04_Or.l0, if_neg (by omega), if_neg (by omega), List.drop_eq_nil_of_le (by omega), List.drop_eq_nil_of_le (by omega), orL, List.append_nil]
  | succ d ih =>
    intro k i acc h1 h2 h3
    obtain ⟨k, rfl⟩ : ∃ m, k = m + 1 := ⟨k - 1, by omega⟩
    have hw : wrap64 ((i : Int) + 1) = ((i + 1 : Nat) : Int) := by rw [w64 (by omega) (by omega)]; omega
    rw [firkinref04_Or.l0, hw]
    have hstep : ∀ z, firkinref04_Or.l0 k a b (acc ++ [z]) ((i + 1 : Nat) : Int) = some (acc ++ z :: orL (a.drop (i + 1)) (b.drop (i + 1))) := by
      intro z
      rw [ih k (i + 1) _ (by omega) (by omega) (by simp; omega), List.append_assoc]; rfl
    by_cases h4 : i < a.length
    · rw [if_pos (by omega), if_pos (by omega), rdOf_nat, drop_get h4]
      by_cases h5 : i < b.length
      · rw [drop_get h5, orL, rdOf_nat]
        by_cases hx : a.getD i false = true
        · rw [if_pos hx, if_pos (by omega), hstep, hx, Bool.true_or]
        · rw [if_neg hx, if_pos (by omega : (i : Int) < (b.length : Int)), if_pos (by omega), hstep, Bool.eq_false_iff.mpr hx, Bool.false_or]
      · have e : b.drop (i + 1) = [] := List.drop_eq_nil_of_le (by omega)
        have e2 : b.drop i = [] := List.drop_eq_nil_of_le (by omega)
        rw [e2, orL]
        rw [e] at hstep
        simp only [orL_nil] at hstep
        by_cases hx : a.getD i false = true
        · rw [if_pos hx, if_pos (by omega), hstep, hx]
        · rw [if_neg hx, if_neg (by omega : ¬ (i : Int) < (b.length : Int)), if_pos (by omega), hstep, Bool.eq_false_iff.mpr hx]
    · have h5 : i < b.length := by omega
      have e : a.drop (i + 1) = [] := List.drop_eq_nil_of_le (by omega)
      have e2 : a.drop i = [] := List.drop_eq_nil_of_le (by omega)
      rw [if_neg (by omega), if_pos (by omega), if_pos (by omega), if_pos (by omega), rdOf_nat, hstep, e, e2, drop_get h5]; rfl
theorem ror_is (a b : List Bool) (ha : a.length < 1000000) (hb : b.length < 1000000) (k : Nat) (hk : max a.length b.length < k) : firkinref04_Or.f k a b = some (orL a b) :=
  ror_loop a b ha hb (max a.length b.length) k 0 [] (by omega) (by omega) rfl
theorem ints_loop (l : List Int) (hl : l.length < 100000000) (d : Nat) : ∀ (k i : Nat), i + d = l.length → d < k → firkinref01_Ints.l0 k l l (i : Int) = some true := by
  induction d with
  | zero =>
    intro k i h1 h2
    obtain ⟨k, rfl⟩ : ∃ m, k = m + 1 := ⟨k - 1, by omega⟩
    rw [firkinref01_Ints.l0, if_neg (by omega)]
  | succ d ih =>
    intro k i h1 h2
    obtain ⟨k, rfl⟩ : ∃ m, k = m + 1 := ⟨k - 1, by omega⟩
    have hw : wrap64 ((i : Int) + 1) = ((i + 1 : Nat) : Int) := by rw [w64 (by omega) (by omega)]; omega
    rw [firkinref01_Ints.l0, if_pos (by omega), if_pos (by omega), if_pos (by omega), if_pos rfl, hw, ih k (i + 1) (by omega) (by omega)]
theorem ints_refl (l : List Int) (hl : l.length < 100000000) (k : Nat) (hk : l.length < k) : firkinref01_Ints.f k l l = some true := by
  unfold firkinref01_Ints.f; rw [if_pos rfl]; exact ints_loop l hl l.length k 0 (by omega) hk
theorem counts_is (l : List Bool) (hl : l.length < 1000000) (k : Nat) (hk : l.length < k) : bitv_Count.f k l = some ((plc 0 l).length : Int) := by
  unfold bitv_Count.f; rw [places_is l hl k hk, Option.bind_some]
theorem orL_le (a b : List Bool) : (orL a b).length ≤ max a.length b.length := by
  induction a generalizing b with
  | nil => simp [orL]
  | cons x a ih =>
    cases b with
    | nil => simp [orL]
    | cons y b => have := ih b; simp only [orL, List.length_cons]; omega
theorem BitvCounts : ∀ (x0 : List Bool) (x1 : List Bool), (x0.length ≤ maxLen ∧ ∀ z ∈ x0, True) → (x1.length ≤ maxLen ∧ ∀ z ∈ x1, True) → ∃ k, firkinlaw04_BitvCounts.f k x0 x1 = some true := by
  intro a b _ _
  refine ⟨5001, ?_⟩
  unfold firkinlaw04_BitvCounts.f
  by_cases h0 : a.length > 500
  · rw [if_pos (by omega), firkinlaw04_BitvCounts.j0, if_pos rfl, live_is _ (by omega), Option.bind_some]
  · rw [if_neg (by omega)]
    by_cases h1 : b.length > 500
    · rw [decide_eq_true (by omega), firkinlaw04_BitvCounts.j0, if_pos rfl, live_is _ (by omega), Option.bind_some]
    · have ho := orL_le a b
      have hp := plc_or a b 0
      have hpa := plc_le a 0
      have hpb := plc_le b 0
      rw [decide_eq_false (by omega), firkinlaw04_BitvCounts.j0, if_neg (by decide), places_is a (by omega) _ (by omega), Option.bind_some, bitv_Or.f, if_pos (by omega), Option.bind_some,
        rplaces_is a (by omega) _ (by omega), Option.bind_some, ints_refl _ (by omega) _ (by omega), Option.bind_some, if_pos rfl, counts_is a (by omega) _ (by omega), Option.bind_some, if_pos rfl,
        ror_is a b (by omega) (by omega) _ (by omega), Option.bind_some, same_refl _ (by omega) _ (by omega), Option.bind_some, if_pos rfl, counts_is _ (by omega) _ (by omega), Option.bind_some, Option.bind_some,
        counts_is b (by omega) _ (by omega), Option.bind_some, w64 (by omega) (by omega), if_pos (by omega), Option.bind_some, Option.bind_some, if_pos (by omega), live_is _ (by omega), Option.bind_some]
end Go.Proofs.Ytebalgjkabnldaa.True_
