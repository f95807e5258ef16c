/- Numbers as bytes: plain lists. -/
import Derived.Test.YtbbffnlefmogbaaDec
import Derived.Test.YtbbffnlefmogbaaWMore
import Derived.Lib.BitFns
import Derived.Laws.BitsAllLaws
namespace Go.Proofs.Ytbbffnlefmogbaa.Enc
open Go.RowKit Go.Proofs.Ytbbffnlefmogbaa.Dec Go.Proofs.YtbbffnlefmogbaaW.PrintWords Go.Proofs.YtbbffnlefmogbaaW.PrintLast Go.Proofs.YtbbffnlefmogbaaW.PrintMore
set_option linter.unusedVariables false
theorem len_bounds : ∀ (m n : Nat), n ≤ m → n < 2 ^ 64 → n < 2 ^ Lib.bitLen n ∧ (n ≠ 0 → 2 ^ (Lib.bitLen n - 1) ≤ n) := by
  intro m
  induction m with
  | zero =>
    intro n h _
    obtain rfl : n = 0 := by omega
    exact ⟨by decide, fun h => absurd rfl h⟩
  | succ m ih =>
    intro n h hl
    by_cases h0 : n = 0
    · subst h0; exact ⟨by decide, fun h => absurd rfl h⟩
    · rw [Lib.bitLen_half n h0 hl]
      obtain ⟨h1, h2⟩ := ih (n / 2) (by omega) (by omega)
      refine ⟨by rw [Nat.add_comm, Nat.pow_succ]; omega, fun _ => ?_⟩
      rw [Nat.add_sub_cancel_left]
      by_cases h3 : n / 2 = 0
      · rw [h3]
        have : Lib.bitLen 0 = 0 := by decide
        rw [this]; simp; omega
      · have h4 := h2 h3
        have h5 : Lib.bitLen (n / 2) ≠ 0 := by intro e; rw [e] at h1; simp at h1; omega
        obtain ⟨q, hq⟩ : ∃ q, Lib.bitLen (n / 2) = q + 1 := ⟨_, (Nat.succ_pred h5).symm⟩
        rw [hq] at h4 ⊢
        rw [Nat.add_sub_cancel] at h4
        rw [Nat.pow_succ]; omega
/-- How many bytes a number has. -/
def grp (n : Nat) : Nat := max 1 ((Lib.bitLen n + 6) / 7)
/-- n has just G groups of seven bits. -/
def Has (n G : Nat) : Prop := 1 ≤ G ∧ n < 2 ^ (7 * G) ∧ (1 < G → 2 ^ (7 * (G - 1)) ≤ n)
theorem grp_has {n : Nat} (h : n < 2 ^ 64) : Has n (grp n) := by
  by_cases h0 : n = 0
  · subst h0; exact ⟨by decide, by decide, by decide⟩
  obtain ⟨h1, h2⟩ := len_bounds n n (Nat.le_refl _) h
  unfold grp
  generalize Lib.bitLen n = L at *
  exact ⟨by omega, Nat.lt_of_lt_of_le h1 (Nat.pow_le_pow_right (by decide) (by omega)), fun hg => Nat.le_trans (Nat.pow_le_pow_right (by decide) (by omega)) (h2 h0)⟩
theorem len_le (n : Nat) (h : n < 2 ^ 64) : Lib.bitLen n ≤ 64 := by
  obtain ⟨h1, h2⟩ := len_bounds n n (Nat.le_refl _) h
  by_cases h0 : n = 0
  · subst h0; decide
  · apply Classical.byContradiction
    intro hc
    have := h2 h0
    have h3 : (2 : Nat) ^ 64 ≤ 2 ^ (Lib.bitLen n - 1) := Nat.pow_le_pow_right (by decide) (by omega)
    omega
theorem grp_le {n : Nat} (h : n < 2 ^ 64) : grp n ≤ 10 := by
  have := len_le n h
  unfold grp; omega
theorem Has.uniq {n G G' : Nat} (h : Has n G) (h' : Has n G') : G = G' := by
  rcases Nat.lt_trichotomy G G' with hl | he | hl
  · exfalso
    have h1 := h'.2.2 (by have := h.1; omega)
    have h2 : 2 ^ (7 * G) ≤ 2 ^ (7 * (G' - 1)) := Nat.pow_le_pow_right (by decide) (by omega)
    have := h.2.1
    omega
  · exact he
  · exfalso
    have h1 := h.2.2 (by have := h'.1; omega)
    have h2 : 2 ^ (7 * G') ≤ 2 ^ (7 * (G - 1)) := Nat.pow_le_pow_right (by decide) (by omega)
    have := h'.2.1
    omega
def encByte (n G i : Nat) : Nat := n / 2 ^ (7 * i) % 128 + (if i + 1 < G then 128 else 0)
def encL (n G : Nat) : List Int := (List.range G).map fun i => ((encByte n G i : Nat) : Int)
/-- A number's bytes. -/
def enc (n : Nat) : List Int := encL n (grp n)
theorem encL_length (n G : Nat) : (encL n G).length = G := by simp [encL]
theorem encL_get (n G i : Nat) (h : i < G) : (encL n G).getD i 0 = ((encByte n G i : Nat) : Int) := by
  simp [encL, List.getD, h]
theorem encByte_lt (n G i : Nat) : encByte n G i < 256 := by
  unfold encByte
  have : n / 2 ^ (7 * i) % 128 < 128 := Nat.mod_lt _ (by decide)
  split <;> omega
theorem encL_bytes (n G : Nat) : IsBytes (encL n G) := by
  intro x hx
  simp only [encL, List.mem_map, List.mem_range] at hx
  obtain ⟨i, _, rfl⟩ := hx
  have := encByte_lt n G i
  omega
theorem enc_bytes (n : Nat) : IsBytes (enc n) := encL_bytes n _
/-- What the loop of vint.Num has laid after i rounds. -/
def laid (n G i : Nat) : List Int := (List.range G).map fun q => if q < i then ((n / 2 ^ (7 * q) % 128 + 128 : Nat) : Int) else 0
theorem laid_length (n G i : Nat) : (laid n G i).length = G := by simp [laid]
theorem laid_zero (n G : Nat) : laid n G 0 = List.replicate G 0 := by
  apply List.ext_getElem (by simp [laid]); intro j h1 h2; simp [laid]
theorem laid_set (n G i : Nat) (h : i < G) : (laid n G i).set i ((n / 2 ^ (7 * i) % 128 + 128 : Nat) : Int) = laid n G (i + 1) := by
  apply List.ext_getElem (by simp [laid]); intro j h1 h2
  simp only [laid, List.getElem_set, List.getElem_map, List.getElem_range]
  by_cases e : i = j
  · subst e; simp
  · by_cases hj : j < i
    · rw [if_neg e, if_pos hj, if_pos (by omega)]
    · rw [if_neg e, if_neg hj, if_neg (by omega)]
theorem laid_end (n G : Nat) (h : 1 ≤ G) : (laid n G G).set (G - 1) ((n / 2 ^ (7 * (G - 1)) % 128 : Nat) : Int) = encL n G := by
  apply List.ext_getElem (by simp [laid, encL]); intro j h1 h2
  have hj : j < G := by simpa [laid] using h1
  simp only [laid, encL, List.getElem_set, List.getElem_map, List.getElem_range, encByte]
  by_cases e : G - 1 = j
  · rw [if_pos e, if_neg (by omega), ← e, Nat.add_zero]
  · rw [if_neg e, if_pos hj, if_pos (by omega)]
theorem shr_nat (n i : Nat) (hi : 7 * i ≤ 64) : shr .u64 (n : Int) ((7 * i : Nat) : Int) = ((n / 2 ^ (7 * i) : Nat) : Int) := by
  unfold shr
  rw [show min ((7 * i : Nat) : Int).toNat (IntKind.u64).bits = 7 * i from by simp [IntKind.bits]; omega]
  simp
theorem seven (y : Nat) : Go.bits .or .u8 (Go.bits .andNot .u8 ((y : Int) % 256) 128) 128 = ((y % 128 + 128 : Nat) : Int) := by
  have e : ((y : Int) % 256) = ((y % 256 : Nat) : Int) := by omega
  have hm : y % 256 < 256 := Nat.mod_lt _ (by decide)
  rw [e, u8_andNot _ _ (by omega) (by omega) (by omega) (by omega), show 255 - (128 : Int).toNat = 2 ^ 7 - 1 by decide, Nat.and_two_pow_sub_one_eq_mod, Int.toNat_natCast]
  rw [u8_or128_right _ (by omega) (by omega)]
  omega
theorem last_seven (m : Nat) (h : m < 128) : Go.bits .andNot .u8 ((m + 128 : Nat) : Int) 128 = ((m : Nat) : Int) := by
  rw [u8_andNot _ _ (by omega) (by omega) (by omega) (by omega), show 255 - (128 : Int).toNat = 2 ^ 7 - 1 by decide, Nat.and_two_pow_sub_one_eq_mod, Int.toNat_natCast]
  omega
theorem rd_nat (xs : List Int) (q : Nat) : rd xs (q : Int) = xs.getD q 0 := rfl
/-- A signed number's bytes. -/
def zig (n : Int) : Nat := if n < 0 then (-2 * n - 1).toNat else (2 * n).toNat
theorem zig_lt {n : Int} (h0 : -9223372036854775808 ≤ n) (h1 : n < 9223372036854775808) : zig n < 18446744073709551616 := by unfold zig; split <;> omega
theorem xor_all (a : Nat) (h : a < 18446744073709551616) : a ^^^ 18446744073709551615 = 18446744073709551615 - a := by
  have h1 : (2 ^ 64 - 1 - a) = a ^^^ (2 ^ 64 - 1) := by
    apply Nat.eq_of_testBit_eq
    intro i
    rw [Nat.testBit_xor, Nat.testBit_two_pow_sub_one]
    have h2 := Nat.testBit_two_pow_sub_succ (n := 64) (x := a) h i
    rw [show 2 ^ 64 - 1 - a = 2 ^ 64 - (a + 1) by omega, h2]
    by_cases hi : i < 64
    · simp [hi]
    · have h64 : (2 : Nat) ^ 64 = 18446744073709551616 := by decide
      have hp : (2 : Nat) ^ 64 ≤ 2 ^ i := Nat.pow_le_pow_right (by decide) (by omega)
      have : a.testBit i = false := Nat.testBit_lt_two_pow (by omega)
      simp [hi, this]
  have h3 : (2 : Nat) ^ 64 - 1 = 18446744073709551615 := by decide
  rw [h3] at h1
  exact h1.symm
end Go.Proofs.Ytbbffnlefmogbaa.Enc
