/- CrcTells: bytes of which up to four neighbours are others have another sum. No condition. -/
import Derived.Test.YtebalgjkabnldaaLawCrcTells
import Derived.Test.YtebalgjkabnldaaTurned
import Derived.Test.YtebalgjkabnldaaWf
namespace Go.Proofs.Ytebalgjkabnldaa.True_
open Go Go.RowKit Go.Proofs.Ytebalgjkabnldaa.X Go.Proofs.Ytebalgjkabnldaa.Crc Go.Proofs.Ytebalgjkabnldaa.Turned
set_option linter.unusedVariables false
set_option linter.unusedSimpArgs false
theorem turnN_is (l : List Int) (a : Nat) (t : Nat → Int) (n : Nat) : turnN l a t n = turnX l a t n := by
  induction n with
  | zero => rfl
  | succ n ih => rw [turnN, turnX, ih]
theorem anyN_iff (t : Nat → Int) (n : Nat) : anyN t n = true ↔ ∃ i, i < n ∧ t i ≠ 0 := by
  induction n with
  | zero => simp [anyN]
  | succ n ih =>
    rw [anyN, Bool.or_eq_true, ih, bne_iff_ne]
    constructor
    · rintro (⟨i, h1, h2⟩ | h)
      · exact ⟨i, by omega, h2⟩
      · exact ⟨n, by omega, h⟩
    · rintro ⟨i, h1, h2⟩
      by_cases hi : i = n
      · subst hi; exact Or.inr h2
      · exact Or.inl ⟨i, by omega, h2⟩
theorem CrcTells : ∀ (x0 : List Int) (x1 t0 t1 t2 t3 : Int), (x0.length ≤ maxLen ∧ ∀ z ∈ x0, (Lit.int .u8 z).wf = true) → (Lit.int .u8 t0).wf = true → (Lit.int .u8 t1).wf = true → (Lit.int .u8 t2).wf = true → (Lit.int .u8 t3).wf = true → ∃ k, firkinlaw02_CrcTells.f k x0 x1 t0 t1 t2 t3 = some true := by
  intro l a1 t0 t1 t2 t3 hl h0 h1 h2 h3
  have hb : IsBytes l := fun x hx => byte_bounds (hl.2 x hx)
  refine ⟨2000, ?_⟩
  unfold firkinlaw02_CrcTells.f
  by_cases hc : 1000 < l.length ∨ a1 < 0 ∨ (l.length : Int) ≤ a1
  · rw [if_pos hc]
  rw [if_neg hc]
  obtain ⟨q, rfl⟩ := Int.eq_ofNat_of_zero_le (a := a1) (by omega)
  rw [Int.toNat_natCast]
  have ht : ∀ i, 0 ≤ byT t0 t1 t2 t3 i ∧ byT t0 t1 t2 t3 i < 256 := by
    intro i
    match i with
    | 0 => exact Wf.u8 h0
    | 1 => exact Wf.u8 h1
    | 2 => exact Wf.u8 h2
    | _ + 3 => exact Wf.u8 h3
  generalize byT t0 t1 t2 t3 = t at ht ⊢
  have hn4 : few l q ≤ 4 := by unfold few; omega
  have hnl : q + few l q ≤ l.length := by unfold few; omega
  generalize few l q = n at hn4 hnl ⊢
  rw [turnN_is]
  have hone : ∀ m : List Int, IsBytes m → m.length ≤ 1000 → crc_Of.f 2000 [m] = some ((more 0 m : Nat) : Int) := by
    intro m hm hl
    have := Crc.of_is [m] (by intro x hx; obtain rfl := List.mem_singleton.mp hx; exact ⟨hm, by omega⟩) (by simp) (m.length + 1) (by intro x hx; obtain rfl := List.mem_singleton.mp hx; omega) 2000 (by simp; omega)
    simpa using this
  have hbb := turnX_bytes hb q ht n hnl
  rw [hone l hb (by omega), Option.bind_some, hone _ hbb (by rw [turnX_len]; omega), Option.bind_some]
  by_cases ha : anyN t n = true
  · rw [ha, if_pos]
    have := turnX_tells hb q ht n hn4 hnl 0 (by omega) ((anyN_iff t n).mp ha)
    rw [bne_iff_ne]
    intro he
    exact this (by omega)
  · have hz : ∀ i, i < n → t i = 0 := by
      intro i hi
      apply Classical.byContradiction
      intro hne
      exact ha ((anyN_iff t n).mpr ⟨i, hi, hne⟩)
    rw [turnX_same hb q n hnl hz, if_pos]
    cases hb : anyN t n with
    | true => exact absurd hb ha
    | false => simp
end Go.Proofs.Ytebalgjkabnldaa.True_
