/- What is written is read again, and bytes that are read as a number are just its own: plain laws on lists. -/
import Derived.Test.YtbbffnlefmogbaaEnc0
namespace Go.Proofs.Ytbbffnlefmogbaa.Round
open Go.RowKit Go.Proofs.Ytbbffnlefmogbaa.Dec Go.Proofs.Ytbbffnlefmogbaa.Enc Go.Proofs.YtbbffnlefmogbaaW.PrintWords Go.Proofs.YtbbffnlefmogbaaW.PrintLast Go.Proofs.YtbbffnlefmogbaaW.PrintMore
set_option linter.unusedVariables false
theorem valS_shift (l : List Int) : ∀ i, valS i l = 2 ^ (7 * i) * valS 0 l := by
  induction l with
  | nil => intro i; simp [valS]
  | cons c l ih =>
    intro i
    simp only [valS]
    have hp : 2 ^ (7 * (i + 1)) = 2 ^ (7 * i) * 128 := by rw [show 7 * (i + 1) = 7 * i + 7 by omega, Nat.pow_add]
    have h1 : 2 ^ (7 * (0 + 1)) = 128 := by decide
    rw [ih (i + 1), ih (0 + 1), hp, h1, Nat.mul_zero, Nat.pow_zero, Nat.mul_one, Nat.mul_add, Nat.mul_comm (c.toNat % 128), Nat.mul_assoc]
theorem valS_append (l m : List Int) : ∀ i, valS i (l ++ m) = valS i l + valS (i + l.length) m := by
  induction l with
  | nil => intro i; simp [valS]
  | cons c l ih =>
    intro i
    simp only [List.cons_append, valS, ih (i + 1), List.length_cons]
    rw [show i + 1 + l.length = i + (l.length + 1) by omega]
    omega
theorem digit (l : List Int) (j : Nat) (h : j < l.length) : valS 0 l / 2 ^ (7 * j) % 128 = (l.getD j 0).toNat % 128 := by
  have e : valS 0 l = valS 0 (l.take j) + 2 ^ (7 * j) * valS 0 (l.drop j) := by
    conv => lhs; rw [← List.take_append_drop j l]
    rw [valS_append, valS_shift _ (0 + _), List.length_take, Nat.min_eq_left (Nat.le_of_lt h), Nat.zero_add]
  have hlt := valS_lt (l.take j) 0
  rw [List.length_take, Nat.min_eq_left (Nat.le_of_lt h), Nat.zero_add] at hlt
  rw [e, Nat.add_mul_div_left _ _ (Nat.two_pow_pos _), Nat.div_eq_of_lt hlt, Nat.zero_add, drop_get h]
  simp only [valS]
  rw [valS_shift _ (0 + 1)]
  have : (2 : Nat) ^ (7 * (0 + 1)) = 128 := by decide
  rw [this]
  omega
/-- What is known of the bytes of a number that is read. -/
theorem szS_spec (l : List Int) : ∀ i, i ≤ 9 → szS i l ≠ 0 → i < szS i l ∧ (∀ j, i + j + 1 < szS i l → 128 ≤ l.getD j 0) ∧ l.getD (szS i l - 1 - i) 0 < 128 ∧ (1 < szS i l → l.getD (szS i l - 1 - i) 0 ≠ 0) := by
  induction l with
  | nil => intro i hi h; exact absurd rfl h
  | cons c l ih =>
    intro i hi h
    by_cases c1 : (i = 9 ∧ 1 < c) ∨ (0 < i ∧ c = 0)
    · rw [szS, if_pos c1] at h; exact absurd rfl h
    · by_cases c2 : c < 128
      · have e : szS i (c :: l) = i + 1 := by rw [szS, if_neg c1, if_pos c2]
        rw [e]
        refine ⟨by omega, fun j hj => by omega, ?_, fun h1 => ?_⟩
        · rw [show i + 1 - 1 - i = 0 by omega]; exact c2
        · rw [show i + 1 - 1 - i = 0 by omega]
          show c ≠ 0
          intro hc; exact c1 (Or.inr ⟨by omega, hc⟩)
      · by_cases h9 : i = 9
        · rw [szS, if_neg c1, if_neg c2, if_pos h9] at h; exact absurd rfl h
        · have e : szS i (c :: l) = szS (i + 1) l := by rw [szS, if_neg c1, if_neg c2, if_neg h9]
          rw [e] at h ⊢
          obtain ⟨h1, h2, h3, h4⟩ := ih (i + 1) (by omega) h
          refine ⟨by omega, fun j hj => ?_, ?_, fun hk => ?_⟩
          · match j with
            | 0 => show 128 ≤ c; omega
            | j + 1 => exact h2 j (by omega)
          · rw [show szS (i + 1) l - 1 - i = (szS (i + 1) l - 1 - (i + 1)) + 1 by omega]; exact h3
          · rw [show szS (i + 1) l - 1 - i = (szS (i + 1) l - 1 - (i + 1)) + 1 by omega]; exact h4 hk
theorem has_val {l : List Int} (hb : IsBytes l) (h : szS 0 l ≠ 0) : Has (valS 0 (l.take (szS 0 l))) (szS 0 l) := by
  obtain ⟨h1, h2, h3, h4⟩ := szS_spec l 0 (by decide) h
  have hle := szS_le l 0 (by decide)
  have hlt := valS_lt (l.take (szS 0 l)) 0
  rw [List.length_take, Nat.min_eq_left (by omega), Nat.zero_add] at hlt
  refine ⟨by omega, hlt, fun hk => ?_⟩
  have h6 := h4 hk
  clear h2 h4 hlt h
  generalize szS 0 l = K at *
  obtain ⟨k, rfl⟩ : ∃ k, K = k + 1 := ⟨K - 1, by omega⟩
  rw [valS_take (by omega), Nat.add_sub_cancel]
  simp only [Nat.add_sub_cancel, Nat.sub_zero] at h3 h6
  have h5 := hb.get k
  have h7 : 1 ≤ (l.getD k 0).toNat % 128 := by omega
  have := Nat.mul_le_mul_right (2 ^ (7 * k)) h7
  omega
theorem enc_val {l : List Int} (hb : IsBytes l) (h : szS 0 l ≠ 0) : encL (valS 0 (l.take (szS 0 l))) (szS 0 l) = l.take (szS 0 l) := by
  obtain ⟨h1, h2, h3, h4⟩ := szS_spec l 0 (by decide) h
  have hle := szS_le l 0 (by decide)
  apply List.ext_getElem (by rw [encL_length, List.length_take]; omega)
  intro j hj1 hj2
  have hj : j < szS 0 l := by rw [encL_length] at hj1; exact hj1
  have e1 : (encL (valS 0 (l.take (szS 0 l))) (szS 0 l))[j] = ((encByte (valS 0 (l.take (szS 0 l))) (szS 0 l) j : Nat) : Int) := by simp [encL]
  have hget : (l.take (szS 0 l)).getD j 0 = l.getD j 0 := by simp [List.getD, hj]
  have e2 : (l.take (szS 0 l))[j] = l.getD j 0 := by simp [List.getD, show j < l.length by omega]
  rw [e1, e2]
  unfold encByte
  rw [digit _ j (by rw [List.length_take]; omega), hget]
  have hb2 := hb.get j
  by_cases hl : j + 1 < szS 0 l
  · rw [if_pos hl]
    have := h2 j (by omega)
    omega
  · rw [if_neg hl]
    rw [show szS 0 l - 1 - 0 = j by omega] at h3
    omega
theorem val_enc (n : Nat) : ∀ j, j ≤ grp n → valS 0 ((enc n).take j) = n % 2 ^ (7 * j) := by
  intro j
  induction j with
  | zero => intro _; simp [valS, Nat.mod_one]
  | succ j ih =>
    intro hj
    rw [valS_take (by unfold enc; rw [encL_length]; omega), ih (by omega)]
    unfold enc
    rw [encL_get _ _ _ (by omega), Int.toNat_natCast]
    have hm : encByte n (grp n) j % 128 = n / 2 ^ (7 * j) % 128 := by unfold encByte; split <;> omega
    rw [hm, show 7 * (j + 1) = 7 * j + 7 by omega, Nat.pow_add, Nat.mod_mul, Nat.mul_comm (2 ^ (7 * j))]
theorem val_all {n : Nat} (h : n < 18446744073709551616) : valS 0 (enc n) = n := by
  have := val_enc n (grp n) (Nat.le_refl _)
  rw [List.take_of_length_le (by unfold enc; rw [encL_length]; omega), Nat.mod_eq_of_lt (grp_has h).2.1] at this
  exact this
theorem size_enc {n : Nat} (h : n < 18446744073709551616) (rest : List Int) : szS 0 (enc n ++ rest) = grp n := by
  have hh := grp_has h
  have hg := grp_le h
  have key : ∀ d i, i + d = grp n → 1 ≤ d → szS i ((enc n).drop i ++ rest) = grp n := by
    intro d
    induction d with
    | zero => intro i _ h0; omega
    | succ d ih =>
      intro i hi _
      have hlt : i < (enc n).length := by unfold enc; rw [encL_length]; omega
      have hget : (enc n).getD i 0 = ((encByte n (grp n) i : Nat) : Int) := by unfold enc; exact encL_get _ _ _ (by omega)
      rw [drop_get hlt, hget, List.cons_append, szS]
      have hb := encByte_lt n (grp n) i
      by_cases hd : d = 0
      · have he : encByte n (grp n) i = n / 2 ^ (7 * i) % 128 := by unfold encByte; rw [if_neg (by omega), Nat.add_zero]
        have hig : grp n = i + 1 := by omega
        have hsm : n / 2 ^ (7 * i) < 128 := by
          have h2 := hh.2.1
          rw [hig, show 7 * (i + 1) = 7 * i + 7 by omega, Nat.pow_add] at h2
          exact Nat.div_lt_of_lt_mul h2
        have hpos : 0 < i → 1 ≤ n / 2 ^ (7 * i) := by
          intro hi0
          have h2 := hh.2.2 (by omega)
          rw [hig, Nat.add_sub_cancel] at h2
          rw [Nat.le_div_iff_mul_le (Nat.two_pow_pos _)]; omega
        have h9 : i = 9 → n / 2 ^ (7 * i) ≤ 1 := by
          intro hi9
          subst hi9
          have h4 : (2 : Nat) ^ (7 * 9) = 9223372036854775808 := by decide
          rw [h4]; omega
        rw [he, Nat.mod_eq_of_lt hsm]
        rw [if_neg (by rintro (⟨a, b⟩ | ⟨a, b⟩)
                       · have := h9 a; omega
                       · have := hpos a; omega), if_pos (by omega), hig]
      · have he : encByte n (grp n) i = n / 2 ^ (7 * i) % 128 + 128 := by unfold encByte; rw [if_pos (by omega)]
        rw [if_neg (by omega), if_neg (by omega), if_neg (by omega)]
        exact ih (i + 1) (by omega) (by omega)
  have := key (grp n) 0 (by omega) hh.1
  rwa [List.drop_zero] at this
/-- What is written is read again. -/
theorem num_enc {n : Nat} (h : n < 18446744073709551616) (rest : List Int) : numS (enc n ++ rest) false = ((n : Int), rest, false) := by
  have hl : (enc n).length = grp n := by unfold enc; rw [encL_length]
  unfold numS
  rw [if_neg (by decide), size_enc h, if_neg (by have := (grp_has h).1; omega), ← hl, List.take_left, List.drop_left, val_all h]
/-- Bytes that are read as a number begin with just its own. -/
theorem enc_num {l : List Int} (hb : IsBytes l) (h : szS 0 l ≠ 0) : enc (valS 0 (l.take (szS 0 l))) = l.take (szS 0 l) := by
  have hv := val_lt hb (Nat.le_refl (szS 0 l))
  have e := Has.uniq (grp_has hv) (has_val hb h)
  unfold enc
  rw [e]
  exact enc_val hb h
/-- The signed number that an unsigned one stands for. -/
def zag (n : Nat) : Int := if n % 2 = 1 then -((n / 2 : Nat) : Int) - 1 else ((n / 2 : Nat) : Int)
theorem zig_zag (n : Nat) : zig (zag n) = n := by unfold zig zag; split <;> split <;> omega
theorem zag_zig (n : Int) : zag (zig n) = n := by unfold zig zag; split <;> split <;> omega
theorem zag_range {n : Nat} (h : n < 18446744073709551616) : -9223372036854775808 ≤ zag n ∧ zag n < 9223372036854775808 := by unfold zag; split <;> omega
theorem xor_neg (a : Int) (h0 : 0 ≤ a) (h1 : a < 9223372036854775808) : Go.bits .xor .i64 a (-1) = -a - 1 := by
  have e : BitVec.ofInt 64 (-1) = BitVec.allOnes 64 := by decide
  have e2 : (BitVec.ofInt 64 a).toNat = a.toNat := by
    rw [BitVec.toNat_ofInt]
    have : a % ((2 ^ 64 : Nat) : Int) = a := Int.emod_eq_of_lt h0 (by have : ((2 ^ 64 : Nat) : Int) = 18446744073709551616 := by decide
                                                                      omega)
    rw [this]
  show IntKind.i64.wrap (((BitVec.ofInt 64 a) ^^^ (BitVec.ofInt 64 (-1))).toNat : Int) = _
  rw [e, BitVec.xor_allOnes, BitVec.toNat_not, e2]
  have h64 : (2 : Nat) ^ 64 = 18446744073709551616 := by decide
  rw [h64, i64_w]
  unfold wrap64
  omega
theorem xor_nil (a : Int) (h0 : 0 ≤ a) (h1 : a < 9223372036854775808) : Go.bits .xor .i64 a 0 = a := by
  have e : BitVec.ofInt 64 0 = 0#64 := by decide
  have e2 : (BitVec.ofInt 64 a).toNat = a.toNat := by
    rw [BitVec.toNat_ofInt]
    have : a % ((2 ^ 64 : Nat) : Int) = a := Int.emod_eq_of_lt h0 (by have : ((2 ^ 64 : Nat) : Int) = 18446744073709551616 := by decide
                                                                      omega)
    rw [this]
  show IntKind.i64.wrap (((BitVec.ofInt 64 a) ^^^ (BitVec.ofInt 64 0)).toNat : Int) = _
  rw [e, BitVec.xor_zero, e2, i64_w]
  unfold wrap64
  omega
/-- How an unsigned number becomes the signed one. -/
theorem int_val (n : Nat) (h : n < 18446744073709551616) : Go.bits .xor .i64 (wrap64 ((n : Int) / 2)) (wrap64 (-(wrap64 (Go.bits .and .u64 (n : Int) 1)))) = zag n := by
  have e : Go.bits .and .u64 (n : Int) 1 = ((n % 2 : Nat) : Int) := by
    rw [u64_and _ _ (by omega) (by omega) (by omega) (by omega), show (1 : Int).toNat = 1 from rfl, Nat.and_one_is_mod, Int.toNat_natCast]
  rw [e, w64 (x := ((n % 2 : Nat) : Int)) (by omega) (by omega), w64 (by omega) (by omega), w64 (by omega) (by omega)]
  unfold zag
  by_cases h1 : n % 2 = 1
  · rw [if_pos h1, h1, show (-((1 : Nat) : Int)) = -1 from rfl, xor_neg _ (by omega) (by omega)]; omega
  · rw [if_neg h1, show n % 2 = 0 by omega, show (-((0 : Nat) : Int)) = 0 from rfl, xor_nil _ (by omega) (by omega)]; omega
end Go.Proofs.Ytbbffnlefmogbaa.Round
