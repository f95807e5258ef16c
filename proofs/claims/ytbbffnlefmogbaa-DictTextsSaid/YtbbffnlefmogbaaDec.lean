/- Numbers as bytes, read: plain functions on lists, without the program. -/
import Derived.RowKit
namespace Go.Proofs.Ytbbffnlefmogbaa.Dec
open Go.RowKit
set_option linter.unusedVariables false
def IsBytes (b : List Int) : Prop := ∀ x ∈ b, 0 ≤ x ∧ x < 256
instance (b : List Int) : Decidable (IsBytes b) := by unfold IsBytes; infer_instance
theorem byte_bounds {x : Int} (h : (Lit.int .u8 x).wf = true) : 0 ≤ x ∧ x < 256 := by
  have h' : (decide ((0 : Int) ≤ x) && decide (x ≤ 255)) = true := h
  rw [Bool.and_eq_true, decide_eq_true_eq, decide_eq_true_eq] at h'
  omega
theorem IsBytes.drop {b : List Int} (h : IsBytes b) (k : Nat) : IsBytes (b.drop k) := fun x hx => h x (List.mem_of_mem_drop hx)
theorem IsBytes.take {b : List Int} (h : IsBytes b) (k : Nat) : IsBytes (b.take k) := fun x hx => h x (List.mem_of_mem_take hx)
theorem IsBytes.get {b : List Int} (h : IsBytes b) (q : Nat) : 0 ≤ b.getD q 0 ∧ b.getD q 0 < 256 := by
  by_cases hq : q < b.length
  · have : b.getD q 0 = b[q] := by simp [List.getD, hq]
    rw [this]; exact h _ (List.getElem_mem hq)
  · have : b.getD q 0 = 0 := by simp [List.getD, List.getElem?_eq_none (by omega : b.length ≤ q)]
    rw [this]; omega
theorem w64 {x : Int} (h0 : -9223372036854775808 ≤ x) (h1 : x < 9223372036854775808) : wrap64 x = x := by unfold wrap64; omega
theorem drop_get {l : List Int} {i : Nat} (h : i < l.length) : l.drop i = l.getD i 0 :: l.drop (i + 1) := by
  rw [List.drop_eq_getElem_cons h]; simp [List.getD, h]
/-- How many bytes the number has that bytes begin with; 0: there is none. -/
def szS (i : Nat) : List Int → Nat
  | [] => 0
  | c :: l => if (i = 9 ∧ 1 < c) ∨ (0 < i ∧ c = 0) then 0 else if c < 128 then i + 1 else if i = 9 then 0 else szS (i + 1) l
/-- Bytes' lowest seven bits, put together. -/
def valS (i : Nat) : List Int → Nat
  | [] => 0
  | c :: l => (c.toNat % 128) * 2 ^ (7 * i) + valS (i + 1) l
theorem szS_le (l : List Int) : ∀ i, i ≤ 9 → szS i l ≤ i + l.length ∧ szS i l ≤ 10 := by
  induction l with
  | nil => intro i hi; simp [szS]
  | cons c l ih =>
    intro i hi
    simp only [szS, List.length_cons]
    split
    · omega
    · split
      · omega
      · split
        · omega
        · have := ih (i + 1) (by omega); omega
/-- What is read of a source: the number, what is left, whether it failed. -/
def numS (l : List Int) (bad : Bool) : Int × List Int × Bool :=
  if bad then (0, l, true) else if szS 0 l = 0 then (0, [], true) else (((valS 0 (l.take (szS 0 l)) : Nat) : Int), l.drop (szS 0 l), false)
/-- The numbers that a source may be read of. -/
def Fit (l : List Int) : Prop := IsBytes l ∧ l.length < 1000000000000
instance (l : List Int) : Decidable (Fit l) := by unfold Fit; infer_instance
theorem Fit.drop {l : List Int} (h : Fit l) (k : Nat) : Fit (l.drop k) := ⟨h.1.drop k, by rw [List.length_drop]; have := h.2; omega⟩
theorem Fit.nil : Fit [] := ⟨fun x hx => by simp at hx, by simp⟩
theorem numS_fit {l : List Int} (h : Fit l) (bad : Bool) : Fit (numS l bad).2.1 := by
  unfold numS
  split
  · exact h
  · split
    · exact Fit.nil
    · exact h.drop _
theorem mul_key (P q x : Nat) (h : x < P) : x + P * q < P * (q + 1) := by rw [Nat.mul_succ]; omega
/-- A value of bytes one behind the other, from place i on, bounded by its place. -/
theorem valS_lt (l : List Int) : ∀ i, valS i l < 2 ^ (7 * (i + l.length)) := by
  induction l with
  | nil => intro i; simp [valS]; exact Nat.two_pow_pos _
  | cons c l ih =>
    intro i
    have h := ih (i + 1)
    simp only [valS, List.length_cons]
    have e : 7 * (i + (l.length + 1)) = 7 * (i + 1 + l.length) := by omega
    rw [e]
    have hd : valS (i + 1) l % 2 ^ (7 * (i + 1)) = 0 := by
      clear h ih e
      generalize i + 1 = j
      induction l generalizing j with
      | nil => simp [valS]
      | cons c l ih =>
        simp only [valS]
        have h1 := ih (j + 1)
        have h2 : 2 ^ (7 * (j + 1)) = 2 ^ (7 * j) * 128 := by rw [show 7 * (j + 1) = 7 * j + 7 by omega, Nat.pow_add]
        have h3 : valS (j + 1) l % 2 ^ (7 * j) = 0 := by
          rw [h2] at h1
          exact Nat.mod_eq_zero_of_dvd (Nat.dvd_trans (Nat.dvd_mul_right _ _) (Nat.dvd_of_mod_eq_zero h1))
        rw [Nat.add_mod, Nat.mul_mod_left, h3]; simp
    have hs : 2 ^ (7 * (i + 1)) = 2 ^ (7 * i) * 128 := by rw [show 7 * (i + 1) = 7 * i + 7 by omega, Nat.pow_add]
    obtain ⟨q, hq⟩ := Nat.dvd_of_mod_eq_zero hd
    have hb : (c.toNat % 128) * 2 ^ (7 * i) < 2 ^ (7 * (i + 1)) := by
      rw [hs, Nat.mul_comm (2 ^ (7 * i))]
      exact Nat.mul_lt_mul_of_pos_right (Nat.mod_lt _ (by decide)) (Nat.two_pow_pos _)
    have hp : 2 ^ (7 * (i + 1 + l.length)) = 2 ^ (7 * (i + 1)) * 2 ^ (7 * l.length) := by rw [← Nat.pow_add]; congr 1; omega
    rw [hq, hp] at h
    rw [hq, hp]
    clear hq hp hd ih
    have hqlt : q < 2 ^ (7 * l.length) := Nat.lt_of_mul_lt_mul_left (a := 2 ^ (7 * (i + 1))) h
    exact Nat.lt_of_lt_of_le (mul_key _ _ _ hb) (Nat.mul_le_mul_left _ hqlt)
theorem valS_snoc (l : List Int) (c : Int) : ∀ i, valS i (l ++ [c]) = valS i l + (c.toNat % 128) * 2 ^ (7 * (i + l.length)) := by
  induction l with
  | nil => intro i; simp [valS]
  | cons d l ih =>
    intro i
    simp only [List.cons_append, valS, ih (i + 1), List.length_cons]
    rw [show i + 1 + l.length = i + (l.length + 1) by omega]
    omega
theorem take_snoc {l : List Int} {j : Nat} (h : j < l.length) : l.take (j + 1) = l.take j ++ [l.getD j 0] := by
  rw [List.take_succ_eq_append_getElem h]; simp [List.getD, h]
theorem valS_take {l : List Int} {j : Nat} (h : j < l.length) : valS 0 (l.take (j + 1)) = valS 0 (l.take j) + ((l.getD j 0).toNat % 128) * 2 ^ (7 * j) := by
  rw [take_snoc h, valS_snoc, List.length_take, Nat.min_eq_left (Nat.le_of_lt h), Nat.zero_add]
/-- The tenth byte of a number is 1 at the most. -/
theorem szS_ten (l : List Int) : ∀ i, i ≤ 9 → 10 ≤ szS i l → l.getD (9 - i) 0 ≤ 1 := by
  induction l with
  | nil => intro i hi h; simp [szS] at h
  | cons c l ih =>
    intro i hi h
    by_cases h9 : i = 9
    · subst h9
      rw [Nat.sub_self]
      show c ≤ 1
      apply Classical.byContradiction
      intro hc
      rw [szS, if_pos (Or.inl ⟨rfl, by omega⟩)] at h
      omega
    · have h2 : 10 ≤ szS (i + 1) l := by
        rw [szS] at h
        by_cases c1 : (i = 9 ∧ 1 < c) ∨ (0 < i ∧ c = 0)
        · rw [if_pos c1] at h; omega
        · rw [if_neg c1] at h
          by_cases c2 : c < 128
          · rw [if_pos c2] at h; omega
          · rw [if_neg c2, if_neg h9] at h; exact h
      have := ih (i + 1) (by omega) h2
      rw [show 9 - i = (9 - (i + 1)) + 1 by omega]
      exact this
theorem part_lt {l : List Int} (hb : IsBytes l) {j : Nat} (hj : j < szS 0 l) : ((l.getD j 0).toNat % 128) * 2 ^ (7 * j) < 18446744073709551616 := by
  have h10 := (szS_le l 0 (by decide)).2
  by_cases h9 : j = 9
  · subst h9
    have := szS_ten l 0 (by decide) (by omega)
    have h0 := hb.get 9
    have h1 : (l.getD 9 0).toNat % 128 ≤ 1 := by have : l.getD 9 0 ≤ 1 := this; omega
    calc ((l.getD 9 0).toNat % 128) * 2 ^ (7 * 9) ≤ 1 * 2 ^ (7 * 9) := Nat.mul_le_mul_right _ h1
      _ < _ := by decide
  · have h1 : (l.getD j 0).toNat % 128 < 128 := Nat.mod_lt _ (by decide)
    have h2 : 2 ^ (7 * j) ≤ 2 ^ (7 * 8) := Nat.pow_le_pow_right (by decide) (by omega)
    calc ((l.getD j 0).toNat % 128) * 2 ^ (7 * j) ≤ 127 * 2 ^ (7 * 8) := Nat.mul_le_mul (by omega) h2
      _ < _ := by decide
theorem val_lt {l : List Int} (hb : IsBytes l) {j : Nat} (hj : j ≤ szS 0 l) : valS 0 (l.take j) < 18446744073709551616 := by
  match j, hj with
  | 0, _ => simp [valS]
  | j + 1, hj =>
    have hle := szS_le l 0 (by decide)
    rw [valS_take (by omega)]
    have h1 := valS_lt (l.take j) 0
    rw [List.length_take, Nat.min_eq_left (by omega), Nat.zero_add] at h1
    by_cases h9 : j = 9
    · subst h9
      have := szS_ten l 0 (by decide) (by omega)
      have h0 := hb.get 9
      have h2 : (l.getD 9 0).toNat % 128 ≤ 1 := by have : l.getD 9 0 ≤ 1 := this; omega
      have h3 : ((l.getD 9 0).toNat % 128) * 2 ^ (7 * 9) ≤ 1 * 2 ^ (7 * 9) := Nat.mul_le_mul_right _ h2
      have h4 : (2 : Nat) ^ (7 * 9) = 9223372036854775808 := by decide
      rw [h4] at h1 h3
      omega
    · have h2 : (2 : Nat) ^ (7 * j) ≤ 2 ^ (7 * 8) := Nat.pow_le_pow_right (by decide) (by omega)
      have h3 : ((l.getD j 0).toNat % 128) * 2 ^ (7 * j) ≤ 127 * 2 ^ (7 * 8) := Nat.mul_le_mul (by omega) h2
      have h4 : (2 : Nat) ^ (7 * 8) = 72057594037927936 := by decide
      rw [h4] at h2 h3
      omega
end Go.Proofs.Ytbbffnlefmogbaa.Dec
