/- The contract of (*vint.Source).Take: the first bytes, in memory of their own; or it failed. -/
import Derived.Test.YthcmokglgepgjaaSrcOk
import Derived.Test.YthcmokglgepgjaaSrcFail
import Derived.Test.YthcmokglgepgjaaClone
import Derived.Lib.Hide
namespace Go.Proofs.Ythcmokglgepgjaa.X
open Go.RowKit Go.Proofs.YthcmokglgepgjaaW.PrintWords Go.Proofs.YthcmokglgepgjaaW.PrintLast Go.Proofs.YthcmokglgepgjaaW.PrintMore
set_option linter.unusedVariables false
set_option linter.unusedSimpArgs false
def takeS (l : List Int) (bad : Bool) (n : Int) : List Int × List Int × Bool :=
  if bad = true ∨ n < 0 ∨ (l.length : Int) < n then ([], [], true) else (l.take n.toNat, l.drop n.toNat, false)
def vint_Source_Take.f (l : List Int) (bad : Bool) (n : Int) : Option (List Int × List Int × Bool) := if l.length < 1000000000000 then some (takeS l bad n) else none
set_option maxHeartbeats 8000000 in
set_option maxRecDepth 100000 in
theorem vint_Source_Take.calls (g : Nat) (s0_0 : List Int) (s0_1 : Bool) (a1 : Int) (r1 : List Int) (r2 : List Int) (r3 : Bool) (w0 w : World) (hI : IsS90 w0 w g s0_0 s0_1) (hB : Below w0.heap.size w0 w) (h : vint_Source_Take.f s0_0 s0_1 a1 = some (r1, r2, r3)) :
    Calls Try.prog 45 #[.pointer (some ⟨g, 0, none⟩), .int .i64 a1] w fun e w' => ∃ v0_ : Value, e = .returned v0_ ∧ Kd.R (Kd.int .u8) 5 w' w.heap.size (fun _ => True) v0_ r1 ∧ IsS90 w0 w' g r2 r3 ∧ Below w0.heap.size w0 w' ∧ KeepBut w w' g none := by
  unfold vint_Source_Take.f at h
  by_cases hf : s0_0.length < 1000000000000
  case neg => rw [if_neg hf] at h; cases h
  rw [if_pos hf] at h
  have h := Option.some.inj h
  unfold takeS at h
  have HF := Aside0.mk hf
  clear hf
  by_cases ht : s0_1 = true ∨ a1 < 0 ∨ (s0_0.length : Int) < a1
  · rw [if_pos ht] at h
    simp only [Prod.mk.injEq] at h
    obtain ⟨rfl, rfl, rfl⟩ := h
    obtain ⟨bn, hbn⟩ : ∃ b_ : Bool, decide (a1 < 0) = b_ := ⟨_, rfl⟩
    obtain ⟨bl, hbl⟩ : ∃ b_ : Bool, decide ((s0_0.length : Int) < a1) = b_ := ⟨_, rfl⟩
    have hx : (s0_1 || bn || bl) = true := by rw [← hbn, ← hbl]; simp only [Bool.or_eq_true, decide_eq_true_eq]; exact (or_assoc).mpr ht
    clear ht
    have hu := Try.underlying90
    cases s0_1 <;> cases bn <;> cases bl <;> first
      | (exact absurd hx (by decide))
      | (clear hx
         go_enter Try.func45, Try.ntmps45
         go_wp2_with fail
         refine (vint_Source_Ok.calls g s0_0 _ _ s0_0 _ w0 _ hI hB rfl).mono ?_
         rintro e w1 ⟨rfl, hI1, hB1, hK1⟩
         have HI1 := Aside0.mk hI1
         obtain ⟨A1, c1, hb1, hg1, hr1, hc1⟩ := hI1
         have h0 : w1.cell? ⟨g, 0, none⟩ = some (.slice A1 s0_0.length c1) := (blk_cell hb1 0).trans rfl
         clear hb1 hr1
         go_wp2_with fail
         refine (vint_Source_Fail.calls g s0_0 _ [] true w0 _ HI1.out hB1 rfl).mono ?_
         rintro e w2 ⟨rfl, hI2, hB2, hK2⟩
         go_wp2_with fail
         go_ret
         exact ⟨_, rfl, Kd.R_nil _ _ _ _ _, hI2, hB2, hK1.trans hK2 (.inl rfl)⟩)
  · rw [if_neg ht] at h
    simp only [Prod.mk.injEq] at h
    obtain ⟨rfl, rfl, rfl⟩ := h
    have hbad : s0_1 = false := by cases s0_1 <;> simp_all
    subst hbad
    obtain ⟨m, rfl⟩ : ∃ m : Nat, a1 = (m : Int) := ⟨a1.toNat, by omega⟩
    rw [Int.toNat_natCast]
    have hm : m ≤ s0_0.length := by omega
    have hbn : decide ((m : Int) < 0) = false := decide_eq_false (by omega)
    have hbl : decide ((s0_0.length : Int) < (m : Int)) = false := decide_eq_false (by omega)
    have hbl2 : decide (s0_0.length < m) = false := decide_eq_false (by omega)
    have hu := Try.underlying90
    clear ht
    go_enter Try.func45, Try.ntmps45
    go_wp2_with fail
    refine (vint_Source_Ok.calls g s0_0 _ _ s0_0 _ w0 _ hI hB rfl).mono ?_
    rintro e w1 ⟨rfl, hI1, hB1, hK1⟩
    have HI1 := Aside0.mk hI1
    obtain ⟨A1, c1, hb1, hg1, hr1, hc1⟩ := hI1
    have h0 : w1.cell? ⟨g, 0, none⟩ = some (.slice A1 s0_0.length c1) := (blk_cell hb1 0).trans rfl
    have HB1 := Aside0.mk hb1
    clear hb1
    go_wp2_with fail
    have hlm : (s0_0.take m).length = m := by rw [List.length_take]; omega
    have HCl := bytes_Clone.calls A1 c1 (s0_0.take m) (s0_0.take m) w1 (Kd.C_take (Kd.C_below hr1 hB1) hm) (by omega) (by unfold bytes_Clone.f; have := HF.out; rw [if_pos (by omega)])
    rw [hlm] at HCl
    refine HCl.mono ?_
    rintro e w2 ⟨v2, rfl, R2, b2⟩
    have HR2 := Aside0.mk R2
    have HG2 := Aside0.mk (blk_below HB1.out b2)
    have B2 := below_step hB1 b2
    have HI2 := Aside0.mk (IsS90.below HI1.out b2)
    have HKB := Aside0.mk hK1
    have K2 := hK1.trans (KeepBut.of_below b2 g none) (.inl rfl)
    have hlt1 : g < w1.heap.size := blk_lt HB1.out
    have HL1 := Aside0.mk hlt1
    have h0 : w2.cell? ⟨g, 0, none⟩ = some (.slice A1 s0_0.length c1) := (blk_cell HG2.out 0).trans rfl
    have f0 := blk_frozen HG2.out 0
    have HD := Lib.hid (Kd.C_drop (m := m) hr1 (by omega) hc1)
    have HL := Lib.hid (show (s0_0.drop m).length = s0_0.length - m from List.length_drop)
    have HR3 : Aside0 (∀ u, Kd.R (Kd.int .u8) 5 (w2.setCell ⟨g, 0, none⟩ u) w.heap.size (fun _ => True) v2 (s0_0.take m)) := ⟨fun u => Kd.R_mono (Kd.R_far (p := ⟨g, 0, none⟩) (Kd.R_lower (Kd.R_bound HR2.out) HKB.out.1) (fun k hk => by have := HL1.out; have := hk.2.1; show k ≠ g; omega) u) (fun _ _ => trivial)⟩
    clear R2 b2 hlt1 hlm HB1 HI1 hB1 hK1 HCl
    by_cases hcj : c1 = m
    · subst hcj
      have hl0 : s0_0.length - c1 = 0 := by omega
      have HL0 := Lib.hid hl0
      clear hl0
      go_wp2_with fail
      go_ret
      refine ⟨_, rfl, HR3.out _, ⟨A1, 0, ?_, hg1, ?_, ?_⟩, below_set B2 hg1, KeepBut.set_ K2 0 _⟩
      · have h2 := blk_set HG2.out 0 (.slice A1 0 0)
        have e : (s0_0.drop c1).length = 0 := by rw [HL.out]; exact HL0.out
        rw [e]
        simpa using h2
      · have := HD.out
        simp only [if_true] at this
        exact this
      · rw [HL.out]; omega
    · go_wp2_with fail
      go_ret
      refine ⟨_, rfl, HR3.out _, ⟨A1.map (·.add m), c1 - m, ?_, hg1, ?_, ?_⟩, below_set B2 hg1, KeepBut.set_ K2 0 _⟩
      · have h2 := blk_set HG2.out 0 (.slice (A1.map (·.add m)) (s0_0.length - m) (c1 - m))
        rw [← HL.out] at h2
        rw [← HL.out]
        simpa using h2
      · have := HD.out
        rw [if_neg hcj] at this
        have e : (Kd.int .u8).sz = 1 := rfl
        rw [e, Nat.mul_one] at this
        exact this
      · rw [HL.out]; omega
end Go.Proofs.Ythcmokglgepgjaa.X
