/- FrameAll: for every input the call returns true, and each argument reads behind the call as it read before it. No condition. (Part 3 of 3: this session's texts, laid together by wip/merge.py.) -/
import Derived.Test.YthcmokglgepgjaaDec
import Derived.Laws.BitsAllLaws
import Derived.Lib.Hide
import Derived.Test.YthcmokglgepgjaaX0
import Derived.Test.YthcmokglgepgjaaMem2
import Derived.Test.YthcmokglgepgjaaEnc0
import Derived.Test.YthcmokglgepgjaaRound
import Derived.Lib.Bytes
import Derived.Test.YthcmokglgepgjaaWf
import Derived.Test.YthcmokglgepgjaaRows
import Derived.Test.YthcmokglgepgjaaOpens
import Derived.WalkKit
import Derived.ProofKit
import Derived.OpenShut
import Derived.ShutString
import Derived.ChangeOld
import Derived.Below
import Derived.SizedLaws
import Derived.Test.YthcmokglgepgjaaMFrameAll0
import Derived.Test.YthcmokglgepgjaaMFrameAll1
/- The contract of (*firkinref01.S).Num: the number that the bytes begin with, and what is left behind it; or it failed. -/
namespace Go.Proofs.Ythcmokglgepgjaa.X
open Go.RowKit Go.Proofs.YthcmokglgepgjaaW.PrintWords Go.Proofs.YthcmokglgepgjaaW.PrintLast Go.Proofs.YthcmokglgepgjaaW.PrintMore
set_option linter.unusedVariables false
set_option linter.unusedSimpArgs false
open Go.Proofs.Ythcmokglgepgjaa.Dec
def rnumS (l : List Int) (bad : Bool) : Int × List Int × Bool :=
  if szS 0 l = 0 then (0, [], true) else (((valS 0 (l.take (szS 0 l)) : Nat) : Int), l.drop (szS 0 l), bad)
def firkinref01_S_Num.f (l : List Int) (bad : Bool) : Option (Int × List Int × Bool) := if Fit l then some (rnumS l bad) else none
/-- One more byte is put to the number. -/
theorem radd_step {l : List Int} (hb : IsBytes l) {j : Nat} (hj : j < l.length) (hv : valS 0 (l.take (j + 1)) < 18446744073709551616) {c : Int} (hc : l.getD j 0 = c) :
    IntKind.u64.wrap (((valS 0 (l.take j) : Nat) : Int) + IntKind.u64.wrap (c % 128 * 2 ^ (7 * j))) = ((valS 0 (l.take (j + 1)) : Nat) : Int) := by
  have hcb := hb.get j
  rw [valS_take hj] at hv ⊢
  rw [hc] at hcb hv ⊢
  have e : c % 128 = ((c.toNat % 128 : Nat) : Int) := by omega
  rw [e]
  generalize c.toNat % 128 = m at hv ⊢
  generalize valS 0 (l.take j) = v at hv ⊢
  have hcast : (m : Int) * 2 ^ (7 * j) = ((m * 2 ^ (7 * j) : Nat) : Int) := by simp
  rw [hcast, IntKind.wrap_u64, IntKind.wrap_u64]
  generalize m * 2 ^ (7 * j) = x at hv ⊢
  omega
theorem val_small (l : List Int) {j : Nat} (hj : j ≤ 8) : valS 0 (l.take (j + 1)) < 18446744073709551616 := by
  have h := valS_lt (l.take (j + 1)) 0
  have hl : (l.take (j + 1)).length ≤ 9 := by rw [List.length_take]; omega
  have h2 : 2 ^ (7 * (0 + (l.take (j + 1)).length)) ≤ 2 ^ 63 := Nat.pow_le_pow_right (by decide) (by omega)
  exact Nat.lt_of_lt_of_le h (Nat.le_trans h2 (by decide))
set_option maxHeartbeats 8000000 in
set_option maxRecDepth 100000 in
theorem firkinref01_S_Num.calls (g : Nat) (s0_0 : List Int) (s0_1 : Bool) (r1 : Int) (r2 : List Int) (r3 : Bool) (w0 w : World) (hI : IsS74 w0 w g s0_0 s0_1) (hB : Below w0.heap.size w0 w) (h : firkinref01_S_Num.f s0_0 s0_1 = some (r1, r2, r3)) :
    Calls Try.prog 71 #[.pointer (some ⟨g, 0, none⟩)] w fun e w' => e = .returned (.int .u64 r1) ∧ IsS74 w0 w' g r2 r3 ∧ Below w0.heap.size w0 w' ∧ KeepBut w w' g none := by
  unfold firkinref01_S_Num.f at h
  by_cases hf : Fit s0_0
  case neg => rw [if_neg hf] at h; cases h
  rw [if_pos hf] at h
  have h := Option.some.inj h
  unfold rnumS at h
  have hu := Try.underlying74
  have HSTEP := Lib.hid (fun (j : Nat) (c : Int) => radd_step hf.1 (j := j) (c := c))
  have hle := szS_le s0_0 0 (by decide)
  have hlen := hf.2
  have HI := Aside0.mk hI
  have HH := Aside0.mk h
  have HF := Aside0.mk hf.1
  clear h
  obtain ⟨A1, c1, hb1, hg1, hr1, hc1⟩ := hI
  have h0 : w.cell? ⟨g, 0, none⟩ = some (.slice A1 s0_0.length c1) := (blk_cell hb1 0).trans rfl
  have HB1 := Aside0.mk hb1
  clear hb1
  go_enter Try.func71, Try.ntmps71
  go_wp2_with fail
  go_loop [3, 4] (fun n i => ∃ j : Nat, j ≤ 9 ∧ j ≤ s0_0.length ∧ Aside0 (szS 0 s0_0 = szS j (s0_0.drop j)) ∧ i = .int .i64 (j : Int) ∧ n = .int .u64 ((valS 0 (s0_0.take j) : Nat) : Int)) (fun _ i => 10 - (intOf i).toNat)
  case atStart => exact ⟨0, Nat.zero_le _, Nat.zero_le _, ⟨by rw [List.drop_zero]⟩, rfl, rfl⟩
  case round =>
    obtain ⟨j, hj9, hjl, HINV, rfl, rfl⟩ := hrel
    have hb10 : decide ((j : Int) < 10) = true := decide_eq_true (by omega)
    by_cases hlt : j < s0_0.length
    · have hrw := Kd.C_below hr1 hB
      obtain ⟨ad, ead, hcell⟩ := Kd.at_int hrw (j : Int) (by omega) (by omega)
      subst ead
      have hcb := hf.1.get j
      have hinv := HINV.out
      rw [drop_get hlt] at hinv
      have hcell2 : w.cell? (ad.add j) = some (.int .u8 (s0_0.getD j 0)) := hcell
      clear hcell hrw
      obtain ⟨c, hcd⟩ : ∃ c, s0_0.getD j 0 = c := ⟨_, rfl⟩
      rw [hcd] at hcb hinv hcell2
      have HCD := Lib.hid hcd
      clear hcd
      have hcw : IntKind.u64.wrap c = c := by rw [IntKind.wrap_u64]; omega
      have hbl : decide ((j : Int) < (s0_0.length : Int)) = true := decide_eq_true (by omega)
      have hbl2 : decide (j < s0_0.length) = true := decide_eq_true hlt
      rw [szS] at hinv
      obtain ⟨b9, b1, b0, bz, h9, h1, h0', hz, hbrk⟩ : ∃ b9 b1 b0 bz : Bool, ((j : Int) == 9) = b9 ∧ decide (1 < c) = b1 ∧ decide (0 < (j : Int)) = b0 ∧ (c == 0) = bz ∧ (((b9 && b1) || (b0 && bz)) = true ↔ ((j = 9 ∧ 1 < c) ∨ (0 < j ∧ c = 0))) :=
        ⟨_, _, _, _, rfl, rfl, rfl, rfl, by
          simp only [Bool.or_eq_true, Bool.and_eq_true, beq_iff_eq, decide_eq_true_eq]; omega⟩
      have h0n : decide (0 < j) = b0 := by rw [← h0']; simp
      have h9n : (j == 9) = b9 := by rw [← h9]; rw [Bool.eq_iff_iff]; simp only [beq_iff_eq]; omega
      by_cases hA : (j = 9 ∧ 1 < c) ∨ (0 < j ∧ c = 0)
      · rw [if_pos hA] at hinv
        have hbrk := hbrk.mpr hA
        have HV := Lib.hid hinv
        clear hinv hA
        cases b9 <;> cases b1 <;> cases b0 <;> cases bz <;> first
          | (exact absurd hbrk (by decide))
          | (clear hbrk
             go_wp2_with fail
             refine (firkinref01_S_Fail.calls g s0_0 s0_1 [] true w0 _ HI.out hB rfl).mono ?_
             rintro e w2 ⟨rfl, hI2, hB2, hK2⟩
             have h := HH.out
             rw [HV.out, if_pos rfl] at h
             simp only [Prod.mk.injEq] at h
             obtain ⟨rfl, rfl, rfl⟩ := h
             go_wp2_with fail
             go_ret
             exact ⟨rfl, hI2, hB2, hK2⟩)
      · rw [if_neg hA] at hinv
        have hbrk := Bool.eq_false_iff.mpr (fun hh => hA (hbrk.mp hh))
        by_cases hc : c < 128
        · rw [if_pos hc] at hinv
          have hcb2 : decide (c < 128) = true := decide_eq_true hc
          have hst := HSTEP.out j c hlt (by rw [← hinv]; exact val_lt hf.1 (Nat.le_refl _)) HCD.out
          have HST := Lib.hid hst
          have f0 := blk_frozen HB1.out 0
          have HD := Lib.hid (Kd.C_drop (m := j + 1) hr1 (by omega) hc1)
          have HL := Lib.hid (show (s0_0.drop (j + 1)).length = s0_0.length - (j + 1) from List.length_drop)
          have HV := Lib.hid hinv
          clear hst hinv hA
          by_cases hcj : c1 = j + 1
          · subst hcj
            have hl0 : s0_0.length - (j + 1) = 0 := by omega
            have HL0 := Lib.hid hl0
            clear hl0
            cases b9 <;> cases b1 <;> cases b0 <;> cases bz <;> first
              | (exact absurd hbrk (by decide))
              | (clear hbrk
                 go_wp2_with fail
                 go_ret
                 have h := HH.out
                 rw [HV.out, if_neg (by omega)] at h
                 simp only [Prod.mk.injEq] at h
                 obtain ⟨rfl, rfl, rfl⟩ := h
                 refine ⟨by rw [HST.out]; rfl, ⟨some ad, 0, ?_, hg1, ?_, ?_⟩, below_set hB hg1, KeepBut.set_ (KeepBut.refl _ _ _) 0 _⟩
                 · have h2 := blk_set HB1.out 0 (.slice (some ad) 0 0)
                   have e : (s0_0.drop (j + 1)).length = 0 := by rw [HL.out]; exact HL0.out
                   first | rw [e, HL0.out] | rw [e]
                   simpa using h2
                 · have := HD.out
                   simp only [if_true] at this
                   exact this
                 · rw [HL.out]; omega)
          · cases b9 <;> cases b1 <;> cases b0 <;> cases bz <;> first
              | (exact absurd hbrk (by decide))
              | (clear hbrk
                 go_wp2_with fail
                 go_ret
                 have h := HH.out
                 rw [HV.out, if_neg (by omega)] at h
                 simp only [Prod.mk.injEq] at h
                 obtain ⟨rfl, rfl, rfl⟩ := h
                 refine ⟨by rw [HST.out]; rfl, ⟨some (ad.add (j + 1)), c1 - (j + 1), ?_, hg1, ?_, ?_⟩, below_set hB hg1, KeepBut.set_ (KeepBut.refl _ _ _) 0 _⟩
                 · have h2 := blk_set HB1.out 0 (.slice (some (ad.add (j + 1))) (s0_0.length - (j + 1)) (c1 - (j + 1)))
                   rw [← HL.out] at h2
                   rw [← HL.out]
                   simp at h2
                   first | exact h2 | (simp; exact h2)
                 · have := HD.out
                   rw [if_neg hcj] at this
                   have e : (Kd.int .u8).sz = 1 := rfl
                   rw [e, Nat.mul_one] at this
                   exact this
                 · rw [HL.out]; omega)
        · have hj9' : j ≠ 9 := by rintro rfl; omega
          have hcb2 : decide (c < 128) = false := decide_eq_false hc
          rw [if_neg hc, if_neg hj9'] at hinv
          have HV := Lib.hid hinv
          clear hinv hA
          have HST := Lib.hid (HSTEP.out j c hlt (val_small _ (by omega)) HCD.out)
          cases b9 <;> cases b1 <;> cases b0 <;> cases bz <;> first
            | (exact absurd hbrk (by decide))
            | (clear hbrk
               go_wp2_with fail
               go_round
               case rel => exact ⟨j + 1, by omega, by omega, ⟨HV.out⟩, by go_num, by rw [HST.out]⟩
               case measure => simp [intOf]; omega)
    · have hbl : decide ((j : Int) < (s0_0.length : Int)) = false := decide_eq_false (by omega)
      have hbl2 : decide (j < s0_0.length) = false := decide_eq_false hlt
      have hinv := HINV.out
      rw [List.drop_eq_nil_of_le (by omega), szS] at hinv
      have HV := Lib.hid hinv
      clear hinv
      go_wp2_with fail
      refine (firkinref01_S_Fail.calls g s0_0 s0_1 [] true w0 _ HI.out hB rfl).mono ?_
      rintro e w2 ⟨rfl, hI2, hB2, hK2⟩
      have h := HH.out
      rw [HV.out, if_pos rfl] at h
      simp only [Prod.mk.injEq] at h
      obtain ⟨rfl, rfl, rfl⟩ := h
      go_wp2_with fail
      go_ret
      exact ⟨rfl, hI2, hB2, hK2⟩
end Go.Proofs.Ythcmokglgepgjaa.X
-- Printed for this claim by a program of this session (wip/xprint.py) over the kit's printer; Lean checks it.
namespace Go.Proofs.Ythcmokglgepgjaa.X
open Go.RowKit Go.Proofs.YthcmokglgepgjaaW.PrintWords Go.Proofs.YthcmokglgepgjaaW.PrintLast Go.Proofs.YthcmokglgepgjaaW.PrintMore
attribute [local go_sem] max2_int min2_int max_two min_two max_three min_three max_four min_four   -- for this text's walks alone
set_option linter.unusedVariables false
set_option linter.unusedSimpArgs false

/-! ### firkinref01_S_Below: function 50 -/
def firkinref01_S_Below.f (s0_0 : List Int) (s0_1 : Bool) (a1 : Int) : Option (Int × List Int × Bool) := (firkinref01_S_Num.f s0_0 s0_1).bind fun bt197 => (if bt197.2.2 = true then ((firkinref01_S_Fail.f bt197.2.1 bt197.2.2).bind fun bt200 => (some (0, bt200.1, bt200.2))) else (if a1 < 1 then ((firkinref01_S_Fail.f bt197.2.1 bt197.2.2).bind fun bt202 => (some (0, bt202.1, bt202.2))) else (if bt197.1 ≥ (IntKind.u64.wrap (a1)) then ((firkinref01_S_Fail.f bt197.2.1 bt197.2.2).bind fun bt204 => (some (0, bt204.1, bt204.2))) else (some (wrap64 (bt197.1), bt197.2.1, bt197.2.2)))))
set_option maxHeartbeats 8000000 in
set_option maxRecDepth 100000 in
theorem firkinref01_S_Below.calls (g : Nat) (s0_0 : List Int) (s0_1 : Bool) (a1 : Int) (r1 : Int) (r2 : List Int) (r3 : Bool) (w0 w : World) (hI : IsS74 w0 w g s0_0 s0_1) (hB : Below w0.heap.size w0 w) (h : firkinref01_S_Below.f s0_0 s0_1 a1 = some (r1, r2, r3)) :
    Calls Try.prog 50 #[.pointer (some ⟨g, 0, none⟩), .int .i64 a1] w fun e w' => e = .returned (.int .i64 r1) ∧ IsS74 w0 w' g r2 r3 ∧ Below w0.heap.size w0 w' ∧ KeepBut w w' g none := by
  have HI0 := Aside0.mk hI
  have HK := Aside0.mk (KeepBut.refl w g none)
  have HL := Aside0.mk hB.size
  clear hI
  have HW0 := Aside0.mk hB.size
  have HB := Aside0.mk hB
  clear hB
  have H : ((firkinref01_S_Num.f s0_0 s0_1).bind fun bt197 => (if bt197.2.2 = true then ((firkinref01_S_Fail.f bt197.2.1 bt197.2.2).bind fun bt200 => (some (0, bt200.1, bt200.2))) else (if a1 < 1 then ((firkinref01_S_Fail.f bt197.2.1 bt197.2.2).bind fun bt202 => (some (0, bt202.1, bt202.2))) else (if bt197.1 ≥ (IntKind.u64.wrap (a1)) then ((firkinref01_S_Fail.f bt197.2.1 bt197.2.2).bind fun bt204 => (some (0, bt204.1, bt204.2))) else (some (wrap64 (bt197.1), bt197.2.1, bt197.2.2)))))) = some (r1, r2, r3) := h
  clear h
  replace H := Option.bind_eq_some_iff.mp H
  obtain ⟨⟨t197, t198, t199⟩, A30, H⟩ := H
  replace H : (if t199 = true then ((firkinref01_S_Fail.f t198 t199).bind fun bt200 => (some (0, bt200.1, bt200.2))) else (if a1 < 1 then ((firkinref01_S_Fail.f t198 t199).bind fun bt202 => (some (0, bt202.1, bt202.2))) else (if t197 ≥ (IntKind.u64.wrap (a1)) then ((firkinref01_S_Fail.f t198 t199).bind fun bt204 => (some (0, bt204.1, bt204.2))) else (some (wrap64 (t197), t198, t199))))) = some (r1, r2, r3) := H
  have A3 := Aside0.mk A30
  clear A30
  by_cases c4 : t199 = true
  · subst c4
    have H1 : ((firkinref01_S_Fail.f t198 true).bind fun bt200 => (some (0, bt200.1, bt200.2))) = some (r1, r2, r3) := by rw [if_pos rfl] at H; exact H
    clear H
    have H := H1
    clear H1
    replace H := Option.bind_eq_some_iff.mp H
    obtain ⟨⟨t200, t201⟩, A50, H⟩ := H
    replace H : (some (0, t200, t201)) = some (r1, r2, r3) := H
    have A5 := Aside0.mk A50
    clear A50
    simp only [Option.some.injEq, Prod.mk.injEq] at H
    obtain ⟨rfl, rfl, rfl⟩ := H
    go_enter Try.func50, Try.ntmps50
    go_wp2_with (first | ((with_reducible refine gate_callee (f := 71) rfl ?_); refine goesL_ (some 7) rfl rfl Try.func71 (by kernel_rfl) rfl #[.pointer (some ⟨g, 0, none⟩)] rfl (by (try simp only [List.map_toArray, List.map_cons, List.map_nil]); first | done | rfl | (simp only [List.length_drop, List.length_take]; rfl)) ?_; (with_reducible refine (firkinref01_S_Num.calls g s0_0 s0_1 t197 t198 true w0 _ ?side1 ?side2 A3.out).mono ?_); (case side1 => repeat (first | (with_reducible first | exact HI0.out | apply IsS74.alloc | apply IsS74.drewN | apply IsS74.drew | apply IsS74.set_0 | apply IsS74.set_1) | exact HI0.out)); (case side2 => repeat (first | (with_reducible first | exact HB.out | apply below_alloc | apply pw_below_drewN | apply below_drew1 | refine below_set ?_ (IsS74.ge HI0.out)) | exact HB.out)); rintro e w6 ⟨rfl, hi, hb, hk⟩; refine ⟨_, rfl, ?_⟩; have n0_ := Aside0.mk (KeepBut.trans (by repeat (first | (with_reducible first | exact HK.out | apply KeepBut.set_ | apply keep_drewN | apply keep_drew | apply keep_alloc) | exact HK.out)) hk (.inl rfl)); have n1_ := Aside0.mk (hb); have n2_ := Aside0.mk (hi); clear HK; clear HB; clear HI0; have HK := n0_; have HB := n1_; have HI0 := n2_; clear n0_ n1_ n2_; (try clear hb); (try clear hb2); (try clear hk); (try clear hi); obtain ⟨ASz7_0, cSz7_0, HGz7, hgz7, ⟨HSz7_0, _⟩⟩ := HI0.out; have hcz7_0 := cellS74_0 HGz7; have hcz7_1 := cellS74_1 HGz7; have hfz7_0 := blk_frozen HGz7 0; have hfz7_1 := blk_frozen HGz7 1; clear HGz7 hgz7) | ((with_reducible refine gate_callee (f := 72) rfl ?_); refine goesL_ (some 23) rfl rfl Try.func72 (by kernel_rfl) rfl #[.pointer (some ⟨g, 0, none⟩)] rfl (by (try simp only [List.map_toArray, List.map_cons, List.map_nil]); first | done | rfl | (simp only [List.length_drop, List.length_take]; rfl)) ?_; (with_reducible refine (firkinref01_S_Fail.calls g t198 true t200 t201 w0 _ ?side1 ?side2 A5.out).mono ?_); (case side1 => repeat (first | (with_reducible first | exact HI0.out | apply IsS74.alloc | apply IsS74.drewN | apply IsS74.drew | apply IsS74.set_0 | apply IsS74.set_1) | exact HI0.out)); (case side2 => repeat (first | (with_reducible first | exact HB.out | apply below_alloc | apply pw_below_drewN | apply below_drew1 | refine below_set ?_ (IsS74.ge HI0.out)) | exact HB.out)); rintro e w8 ⟨rfl, hi, hb, hk⟩; refine ⟨_, rfl, ?_⟩; have n0_ := Aside0.mk (KeepBut.trans (by repeat (first | (with_reducible first | exact HK.out | apply KeepBut.set_ | apply keep_drewN | apply keep_drew | apply keep_alloc) | exact HK.out)) hk (.inl rfl)); have n1_ := Aside0.mk (hb); have n2_ := Aside0.mk (hi); clear HK; clear HB; clear HI0; have HK := n0_; have HB := n1_; have HI0 := n2_; clear n0_ n1_ n2_; (try clear hb); (try clear hb2); (try clear hk); (try clear hi)))
    go_ret
    exact ⟨by first | rfl | (simp [errW_none, errW_some] <;> rfl) | (simp [*, errW_none, errW_some] <;> rfl), by repeat (first | (with_reducible first | exact HI0.out | apply IsS74.alloc | apply IsS74.drewN | apply IsS74.drew | apply IsS74.set_0 | apply IsS74.set_1) | exact HI0.out), by repeat (first | (with_reducible first | exact HB.out | apply below_alloc | apply pw_below_drewN | apply below_drew1 | refine below_set ?_ (IsS74.ge HI0.out)) | exact HB.out), by repeat (first | (with_reducible first | exact HK.out | apply KeepBut.set_ | apply keep_drewN | apply keep_drew | apply keep_alloc) | exact HK.out)⟩
  · replace c4 := Bool.eq_false_iff.mpr c4
    subst c4
    have H1 : (if a1 < 1 then ((firkinref01_S_Fail.f t198 false).bind fun bt202 => (some (0, bt202.1, bt202.2))) else (if t197 ≥ (IntKind.u64.wrap (a1)) then ((firkinref01_S_Fail.f t198 false).bind fun bt204 => (some (0, bt204.1, bt204.2))) else (some (wrap64 (t197), t198, false)))) = some (r1, r2, r3) := by rw [if_neg (show ¬ (false = true) by decide)] at H; exact H
    clear H
    have H := H1
    clear H1
    by_cases c9 : a1 < 1
    · rw [if_pos c9] at H
      have c9b0 : decide (a1 < 1) = true := decide_eq_true c9
      clear c9
      replace H := Option.bind_eq_some_iff.mp H
      obtain ⟨⟨t202, t203⟩, A100, H⟩ := H
      replace H : (some (0, t202, t203)) = some (r1, r2, r3) := H
      have A10 := Aside0.mk A100
      clear A100
      simp only [Option.some.injEq, Prod.mk.injEq] at H
      obtain ⟨rfl, rfl, rfl⟩ := H
      go_enter Try.func50, Try.ntmps50
      go_wp2_with (first | ((with_reducible refine gate_callee (f := 71) rfl ?_); refine goesL_ (some 7) rfl rfl Try.func71 (by kernel_rfl) rfl #[.pointer (some ⟨g, 0, none⟩)] rfl (by (try simp only [List.map_toArray, List.map_cons, List.map_nil]); first | done | rfl | (simp only [List.length_drop, List.length_take]; rfl)) ?_; (with_reducible refine (firkinref01_S_Num.calls g s0_0 s0_1 t197 t198 false w0 _ ?side1 ?side2 A3.out).mono ?_); (case side1 => repeat (first | (with_reducible first | exact HI0.out | apply IsS74.alloc | apply IsS74.drewN | apply IsS74.drew | apply IsS74.set_0 | apply IsS74.set_1) | exact HI0.out)); (case side2 => repeat (first | (with_reducible first | exact HB.out | apply below_alloc | apply pw_below_drewN | apply below_drew1 | refine below_set ?_ (IsS74.ge HI0.out)) | exact HB.out)); rintro e w11 ⟨rfl, hi, hb, hk⟩; refine ⟨_, rfl, ?_⟩; have n0_ := Aside0.mk (KeepBut.trans (by repeat (first | (with_reducible first | exact HK.out | apply KeepBut.set_ | apply keep_drewN | apply keep_drew | apply keep_alloc) | exact HK.out)) hk (.inl rfl)); have n1_ := Aside0.mk (hb); have n2_ := Aside0.mk (hi); clear HK; clear HB; clear HI0; have HK := n0_; have HB := n1_; have HI0 := n2_; clear n0_ n1_ n2_; (try clear hb); (try clear hb2); (try clear hk); (try clear hi); obtain ⟨ASz12_0, cSz12_0, HGz12, hgz12, ⟨HSz12_0, _⟩⟩ := HI0.out; have hcz12_0 := cellS74_0 HGz12; have hcz12_1 := cellS74_1 HGz12; have hfz12_0 := blk_frozen HGz12 0; have hfz12_1 := blk_frozen HGz12 1; clear HGz12 hgz12) | ((with_reducible refine gate_callee (f := 72) rfl ?_); refine goesL_ (some 23) rfl rfl Try.func72 (by kernel_rfl) rfl #[.pointer (some ⟨g, 0, none⟩)] rfl (by (try simp only [List.map_toArray, List.map_cons, List.map_nil]); first | done | rfl | (simp only [List.length_drop, List.length_take]; rfl)) ?_; (with_reducible refine (firkinref01_S_Fail.calls g t198 false t202 t203 w0 _ ?side1 ?side2 A10.out).mono ?_); (case side1 => repeat (first | (with_reducible first | exact HI0.out | apply IsS74.alloc | apply IsS74.drewN | apply IsS74.drew | apply IsS74.set_0 | apply IsS74.set_1) | exact HI0.out)); (case side2 => repeat (first | (with_reducible first | exact HB.out | apply below_alloc | apply pw_below_drewN | apply below_drew1 | refine below_set ?_ (IsS74.ge HI0.out)) | exact HB.out)); rintro e w13 ⟨rfl, hi, hb, hk⟩; refine ⟨_, rfl, ?_⟩; have n0_ := Aside0.mk (KeepBut.trans (by repeat (first | (with_reducible first | exact HK.out | apply KeepBut.set_ | apply keep_drewN | apply keep_drew | apply keep_alloc) | exact HK.out)) hk (.inl rfl)); have n1_ := Aside0.mk (hb); have n2_ := Aside0.mk (hi); clear HK; clear HB; clear HI0; have HK := n0_; have HB := n1_; have HI0 := n2_; clear n0_ n1_ n2_; (try clear hb); (try clear hb2); (try clear hk); (try clear hi)))
      go_ret
      exact ⟨by first | rfl | (simp [errW_none, errW_some] <;> rfl) | (simp [*, errW_none, errW_some] <;> rfl), by repeat (first | (with_reducible first | exact HI0.out | apply IsS74.alloc | apply IsS74.drewN | apply IsS74.drew | apply IsS74.set_0 | apply IsS74.set_1) | exact HI0.out), by repeat (first | (with_reducible first | exact HB.out | apply below_alloc | apply pw_below_drewN | apply below_drew1 | refine below_set ?_ (IsS74.ge HI0.out)) | exact HB.out), by repeat (first | (with_reducible first | exact HK.out | apply KeepBut.set_ | apply keep_drewN | apply keep_drew | apply keep_alloc) | exact HK.out)⟩
    · rw [if_neg c9] at H
      have c9b0 : decide (a1 < 1) = false := decide_eq_false c9
      clear c9
      by_cases c14 : t197 ≥ (IntKind.u64.wrap (a1))
      · rw [if_pos c14] at H
        have c14b0 : decide ((IntKind.u64.wrap (a1)) ≤ t197) = true := decide_eq_true c14
        clear c14
        replace H := Option.bind_eq_some_iff.mp H
        obtain ⟨⟨t204, t205⟩, A150, H⟩ := H
        replace H : (some (0, t204, t205)) = some (r1, r2, r3) := H
        have A15 := Aside0.mk A150
        clear A150
        simp only [Option.some.injEq, Prod.mk.injEq] at H
        obtain ⟨rfl, rfl, rfl⟩ := H
        go_enter Try.func50, Try.ntmps50
        go_wp2_with (first | ((with_reducible refine gate_callee (f := 71) rfl ?_); refine goesL_ (some 7) rfl rfl Try.func71 (by kernel_rfl) rfl #[.pointer (some ⟨g, 0, none⟩)] rfl (by (try simp only [List.map_toArray, List.map_cons, List.map_nil]); first | done | rfl | (simp only [List.length_drop, List.length_take]; rfl)) ?_; (with_reducible refine (firkinref01_S_Num.calls g s0_0 s0_1 t197 t198 false w0 _ ?side1 ?side2 A3.out).mono ?_); (case side1 => repeat (first | (with_reducible first | exact HI0.out | apply IsS74.alloc | apply IsS74.drewN | apply IsS74.drew | apply IsS74.set_0 | apply IsS74.set_1) | exact HI0.out)); (case side2 => repeat (first | (with_reducible first | exact HB.out | apply below_alloc | apply pw_below_drewN | apply below_drew1 | refine below_set ?_ (IsS74.ge HI0.out)) | exact HB.out)); rintro e w16 ⟨rfl, hi, hb, hk⟩; refine ⟨_, rfl, ?_⟩; have n0_ := Aside0.mk (KeepBut.trans (by repeat (first | (with_reducible first | exact HK.out | apply KeepBut.set_ | apply keep_drewN | apply keep_drew | apply keep_alloc) | exact HK.out)) hk (.inl rfl)); have n1_ := Aside0.mk (hb); have n2_ := Aside0.mk (hi); clear HK; clear HB; clear HI0; have HK := n0_; have HB := n1_; have HI0 := n2_; clear n0_ n1_ n2_; (try clear hb); (try clear hb2); (try clear hk); (try clear hi); obtain ⟨ASz17_0, cSz17_0, HGz17, hgz17, ⟨HSz17_0, _⟩⟩ := HI0.out; have hcz17_0 := cellS74_0 HGz17; have hcz17_1 := cellS74_1 HGz17; have hfz17_0 := blk_frozen HGz17 0; have hfz17_1 := blk_frozen HGz17 1; clear HGz17 hgz17) | ((with_reducible refine gate_callee (f := 72) rfl ?_); refine goesL_ (some 23) rfl rfl Try.func72 (by kernel_rfl) rfl #[.pointer (some ⟨g, 0, none⟩)] rfl (by (try simp only [List.map_toArray, List.map_cons, List.map_nil]); first | done | rfl | (simp only [List.length_drop, List.length_take]; rfl)) ?_; (with_reducible refine (firkinref01_S_Fail.calls g t198 false t204 t205 w0 _ ?side1 ?side2 A15.out).mono ?_); (case side1 => repeat (first | (with_reducible first | exact HI0.out | apply IsS74.alloc | apply IsS74.drewN | apply IsS74.drew | apply IsS74.set_0 | apply IsS74.set_1) | exact HI0.out)); (case side2 => repeat (first | (with_reducible first | exact HB.out | apply below_alloc | apply pw_below_drewN | apply below_drew1 | refine below_set ?_ (IsS74.ge HI0.out)) | exact HB.out)); rintro e w18 ⟨rfl, hi, hb, hk⟩; refine ⟨_, rfl, ?_⟩; have n0_ := Aside0.mk (KeepBut.trans (by repeat (first | (with_reducible first | exact HK.out | apply KeepBut.set_ | apply keep_drewN | apply keep_drew | apply keep_alloc) | exact HK.out)) hk (.inl rfl)); have n1_ := Aside0.mk (hb); have n2_ := Aside0.mk (hi); clear HK; clear HB; clear HI0; have HK := n0_; have HB := n1_; have HI0 := n2_; clear n0_ n1_ n2_; (try clear hb); (try clear hb2); (try clear hk); (try clear hi)))
        go_ret
        exact ⟨by first | rfl | (simp [errW_none, errW_some] <;> rfl) | (simp [*, errW_none, errW_some] <;> rfl), by repeat (first | (with_reducible first | exact HI0.out | apply IsS74.alloc | apply IsS74.drewN | apply IsS74.drew | apply IsS74.set_0 | apply IsS74.set_1) | exact HI0.out), by repeat (first | (with_reducible first | exact HB.out | apply below_alloc | apply pw_below_drewN | apply below_drew1 | refine below_set ?_ (IsS74.ge HI0.out)) | exact HB.out), by repeat (first | (with_reducible first | exact HK.out | apply KeepBut.set_ | apply keep_drewN | apply keep_drew | apply keep_alloc) | exact HK.out)⟩
      · rw [if_neg c14] at H
        have c14b0 : decide ((IntKind.u64.wrap (a1)) ≤ t197) = false := decide_eq_false c14
        clear c14
        simp only [Option.some.injEq, Prod.mk.injEq] at H
        obtain ⟨rfl, rfl, rfl⟩ := H
        go_enter Try.func50, Try.ntmps50
        go_wp2_with (first | ((with_reducible refine gate_callee (f := 71) rfl ?_); refine goesL_ (some 7) rfl rfl Try.func71 (by kernel_rfl) rfl #[.pointer (some ⟨g, 0, none⟩)] rfl (by (try simp only [List.map_toArray, List.map_cons, List.map_nil]); first | done | rfl | (simp only [List.length_drop, List.length_take]; rfl)) ?_; (with_reducible refine (firkinref01_S_Num.calls g s0_0 s0_1 t197 t198 false w0 _ ?side1 ?side2 A3.out).mono ?_); (case side1 => repeat (first | (with_reducible first | exact HI0.out | apply IsS74.alloc | apply IsS74.drewN | apply IsS74.drew | apply IsS74.set_0 | apply IsS74.set_1) | exact HI0.out)); (case side2 => repeat (first | (with_reducible first | exact HB.out | apply below_alloc | apply pw_below_drewN | apply below_drew1 | refine below_set ?_ (IsS74.ge HI0.out)) | exact HB.out)); rintro e w19 ⟨rfl, hi, hb, hk⟩; refine ⟨_, rfl, ?_⟩; have n0_ := Aside0.mk (KeepBut.trans (by repeat (first | (with_reducible first | exact HK.out | apply KeepBut.set_ | apply keep_drewN | apply keep_drew | apply keep_alloc) | exact HK.out)) hk (.inl rfl)); have n1_ := Aside0.mk (hb); have n2_ := Aside0.mk (hi); clear HK; clear HB; clear HI0; have HK := n0_; have HB := n1_; have HI0 := n2_; clear n0_ n1_ n2_; (try clear hb); (try clear hb2); (try clear hk); (try clear hi); obtain ⟨ASz20_0, cSz20_0, HGz20, hgz20, ⟨HSz20_0, _⟩⟩ := HI0.out; have hcz20_0 := cellS74_0 HGz20; have hcz20_1 := cellS74_1 HGz20; have hfz20_0 := blk_frozen HGz20 0; have hfz20_1 := blk_frozen HGz20 1; clear HGz20 hgz20))
        go_ret
        exact ⟨by first | rfl | (simp [errW_none, errW_some] <;> rfl) | (simp [*, errW_none, errW_some] <;> rfl), by repeat (first | (with_reducible first | exact HI0.out | apply IsS74.alloc | apply IsS74.drewN | apply IsS74.drew | apply IsS74.set_0 | apply IsS74.set_1) | exact HI0.out), by repeat (first | (with_reducible first | exact HB.out | apply below_alloc | apply pw_below_drewN | apply below_drew1 | refine below_set ?_ (IsS74.ge HI0.out)) | exact HB.out), by repeat (first | (with_reducible first | exact HK.out | apply KeepBut.set_ | apply keep_drewN | apply keep_drew | apply keep_alloc) | exact HK.out)⟩

end Go.Proofs.Ythcmokglgepgjaa.X
/- The contract of (*firkinref01.S).Take: the first bytes, in memory of their own; or it failed. -/
namespace Go.Proofs.Ythcmokglgepgjaa.X
open Go.RowKit Go.Proofs.YthcmokglgepgjaaW.PrintWords Go.Proofs.YthcmokglgepgjaaW.PrintLast Go.Proofs.YthcmokglgepgjaaW.PrintMore
set_option linter.unusedVariables false
set_option linter.unusedSimpArgs false
def rtakeS (l : List Int) (bad : Bool) (n : Int) : List Int × List Int × Bool :=
  if bad = true ∨ n < 0 ∨ (l.length : Int) < n then ([], [], true) else (l.take n.toNat, l.drop n.toNat, false)
def firkinref01_S_Take.f (l : List Int) (bad : Bool) (n : Int) : Option (List Int × List Int × Bool) := if l.length < 1000000000000 then some (rtakeS l bad n) else none
set_option maxHeartbeats 8000000 in
set_option maxRecDepth 100000 in
theorem firkinref01_S_Take.calls (g : Nat) (s0_0 : List Int) (s0_1 : Bool) (a1 : Int) (r1 : List Int) (r2 : List Int) (r3 : Bool) (w0 w : World) (hI : IsS74 w0 w g s0_0 s0_1) (hB : Below w0.heap.size w0 w) (h : firkinref01_S_Take.f s0_0 s0_1 a1 = some (r1, r2, r3)) :
    Calls Try.prog 51 #[.pointer (some ⟨g, 0, none⟩), .int .i64 a1] w fun e w' => ∃ v0_ : Value, e = .returned v0_ ∧ Kd.R (Kd.int .u8) 5 w' w.heap.size (fun _ => True) v0_ r1 ∧ IsS74 w0 w' g r2 r3 ∧ Below w0.heap.size w0 w' ∧ KeepBut w w' g none := by
  unfold firkinref01_S_Take.f at h
  by_cases hf : s0_0.length < 1000000000000
  case neg => rw [if_neg hf] at h; cases h
  rw [if_pos hf] at h
  have h := Option.some.inj h
  unfold rtakeS at h
  have HF := Aside0.mk hf
  have HI := Aside0.mk hI
  obtain ⟨A1, c1, hb1, hg1, hr1, hc1⟩ := hI
  have h0 : w.cell? ⟨g, 0, none⟩ = some (.slice A1 s0_0.length c1) := (blk_cell hb1 0).trans rfl
  have h1 : w.cell? ⟨g, 1, none⟩ = some (.bool s0_1) := (blk_cell hb1 1).trans rfl
  have HB1 := Aside0.mk hb1
  clear hf hb1
  have hu := Try.underlying74
  by_cases ht : s0_1 = true ∨ a1 < 0 ∨ (s0_0.length : Int) < a1
  · rw [if_pos ht] at h
    simp only [Prod.mk.injEq] at h
    obtain ⟨rfl, rfl, rfl⟩ := h
    obtain ⟨bn, hbn⟩ : ∃ b_ : Bool, decide (a1 < 0) = b_ := ⟨_, rfl⟩
    obtain ⟨bl, hbl⟩ : ∃ b_ : Bool, decide ((s0_0.length : Int) < a1) = b_ := ⟨_, rfl⟩
    have hx : (s0_1 || bn || bl) = true := by rw [← hbn, ← hbl]; simp only [Bool.or_eq_true, decide_eq_true_eq]; exact (or_assoc).mpr ht
    clear ht
    cases s0_1 <;> cases bn <;> cases bl <;> first
      | (exact absurd hx (by decide))
      | (clear hx
         go_enter Try.func51, Try.ntmps51
         go_wp2_with fail
         refine (firkinref01_S_Fail.calls g s0_0 _ [] true w0 _ HI.out hB rfl).mono ?_
         rintro e w2 ⟨rfl, hI2, hB2, hK2⟩
         go_wp2_with fail
         go_ret
         exact ⟨_, rfl, Kd.R_nil _ _ _ _ _, hI2, hB2, hK2⟩)
  · rw [if_neg ht] at h
    simp only [Prod.mk.injEq] at h
    obtain ⟨rfl, rfl, rfl⟩ := h
    have hbad : s0_1 = false := by cases s0_1 <;> simp_all
    subst hbad
    obtain ⟨m, rfl⟩ : ∃ m : Nat, a1 = (m : Int) := ⟨a1.toNat, by omega⟩
    rw [Int.toNat_natCast]
    have hm : m ≤ s0_0.length := by omega
    have hbn : decide ((m : Int) < 0) = false := decide_eq_false (by omega)
    have hbl : decide ((s0_0.length : Int) < (m : Int)) = false := decide_eq_false (by omega)
    have hbl2 : decide (s0_0.length < m) = false := decide_eq_false (by omega)
    have hlm : (s0_0.take m).length = m := by rw [List.length_take]; omega
    have HCT : Aside0 (Kd.C (Kd.int .u8) w A1 m (s0_0.take m)) := ⟨by have := Kd.C_take (Kd.C_below hr1 hB) hm; rwa [hlm] at this⟩
    have HLM := Aside0.mk hlm
    clear ht hlm
    obtain ⟨i5, hi5, hsz5⟩ : ∃ i, Try.prog.info? 5 = some i ∧ i.size = (Kd.int .u8).sz := by
      obtain ⟨i, hi, hz⟩ := Option.map_eq_some_iff.1 info5
      simp only [Prod.mk.injEq] at hz
      exact ⟨i, hi, hz.2.1⟩
    obtain ⟨A', hcut, hCd, hld, hcd⟩ := Mem.cut_from' (P := Try.prog) (d := Kd.int .u8) 22 5 .i64 Try.underlying22 hi5 hsz5 (m := m) hr1 hm hc1
    have HD := Aside0.mk hCd
    have HLD := Aside0.mk hld
    clear hCd hld hi5
    go_enter Try.func51, Try.ntmps51
    go_wp2_with (first | ((with_reducible refine gate_dst (N := 25) rfl ?_); refine Kd.R_lit (Kd.int .u8) _ 5 ?hg (N := 25) ?hd (xs := ([] : List Int)) (inner := []) (ok := fun _ => True) (okp := fun _ => True) ?hr ?hp (fun _ hk => hk) trivial (Below.refl _ _) (Nat.le_refl _) (by simp) ?_; (case hd => rfl); (case hg => rfl); (case hr => first | (go_simp; done) | (go_simp; rfl)); (case hp => exact (Reps.none _ _)); intro v205 w2 ho3 hb hg_ hnew_; clear hg_ hnew_; have HO := Aside0.mk ho3; have HB := Aside0.mk hb; have h0b : w2.cell? ⟨g, 0, none⟩ = some (.slice A1 s0_0.length c1) := (blk_cell (blk_below HB1.out hb) 0).trans rfl; clear ho3 hb) | ((with_reducible refine gate_builtin (b := .append) (xs := #[.tmp 25, .tmp 31]) rfl ?_); at_builtin; refine Kd.R_append_rows (Kd.int .u8) (w0 := w) w.heap.size rfl (.tmp 25) (.tmp 31) 22 5 (.int .u8 0) 1 rfl Try.underlying22 info5 rfl (by decide) (by omega) v205 [] (s0_0.take m) _ _ _ (fun _ => True) (fun _ => False) rfl rfl HO.out (Kd.C_below HCT.out HB.out) (fun _ _ h => h) (fun _ h => h.elim) (fun _ _ => trivial) HB.out (below_size HB.out) (by have := HF.out; rw [List.length_nil]; omega) ?_; intro v4 w4 ho hb hg hat; have HO4 := Aside0.mk ho; have HB4 := Aside0.mk hb; have h0c : w4.cell? ⟨g, 0, none⟩ = some (.slice A1 s0_0.length c1) := (blk_cell (blk_below HB1.out hb) 0).trans rfl; have f0c := blk_frozen (blk_below HB1.out hb) 0; clear HO HB ho hb hg hat))
    go_ret
    have h2 := blk_set (blk_below HB1.out HB4.out) 0 (.slice A' (s0_0.length - m) (c1 - m))
    have HG : Aside0 (g < w.heap.size) := ⟨blk_lt HB1.out⟩
    refine ⟨_, rfl, ?_, ⟨A', c1 - m, ?_, hg1, ?_, ?_⟩, below_set (below_step hB HB4.out) hg1, KeepBut.set_ (KeepBut.of_below HB4.out g none) 0 _⟩
    · have h5 := Kd.R_far (p := ⟨g, 0, none⟩) (Kd.R_bound HO4.out) (fun k hk => by have := HG.out; have := hk.2.1; show k ≠ g; omega) (.slice A' (s0_0.length - m) (c1 - m))
      rw [List.nil_append] at h5
      exact Kd.R_mono h5 (fun _ _ => trivial)
    · rw [HLD.out]; simpa using h2
    · rw [HLD.out]; exact HD.out
    · rw [HLD.out]; exact hcd
end Go.Proofs.Ythcmokglgepgjaa.X
/- The contract of firkinref03.Get: the bytes of the frame that bytes begin with, how many bytes that has, and an error's number. -/
namespace Go.Proofs.Ythcmokglgepgjaa.X
open Go.RowKit Go.Proofs.YthcmokglgepgjaaW.PrintWords Go.Proofs.YthcmokglgepgjaaW.PrintLast Go.Proofs.YthcmokglgepgjaaW.PrintMore
set_option linter.unusedVariables false
set_option linter.unusedSimpArgs false
/-- The number that four bytes are, the lowest first. -/
def four4 : List Int → Int
  | [a, b, c, d] => (a + b * 256 + c * 65536 + d * 16777216)
  | _ => 0
def IsByte (x : Int) : Prop := 0 ≤ x ∧ x < 256
instance (x : Int) : Decidable (IsByte x) := by unfold IsByte; infer_instance
def firkinref03_Get.f (k : Nat) (l0 : List Int) : Option (List Int × Int × Int) := (firkinref01_S_Below.f l0 false 1048577).bind fun a => (firkinref01_S_Take.f a.2.1 a.2.2 4).bind fun s => (firkinref01_S_Take.f s.2.1 s.2.2 a.1).bind fun x => if x.2.2 = true then some ([], 0, 2) else if s.1.length = 4 ∧ ∀ z ∈ s.1, IsByte z then (firkinref02_Of.f k x.1).bind fun t => if four4 s.1 = t then some (x.1, (l0.length : Int) - (x.2.1.length : Int), 0) else some ([], 0, 13) else none
theorem firkinref03_Get.mono : ∀ a0 k, LeO (firkinref03_Get.f k a0) (firkinref03_Get.f (k + 1) a0) := by
  intro a0 k
  unfold firkinref03_Get.f
  repeat' first
      | (with_reducible exact firkinref02_Of.mono _ _)
      | (with_reducible exact LeO.refl _)
      | (with_reducible exact LeO.none _)
      | (with_reducible refine LeO.ite ?_ ?_)
      | (with_reducible refine LeO.bind ?_ (fun _ => ?_))
      | exact firkinref02_Of.mono _ _
set_option maxHeartbeats 8000000 in
set_option maxRecDepth 100000 in
theorem firkinref03_Get.calls (k : Nat) (A0 : Option Addr) (c0 : Nat) (l0 : List Int) (r1 : List Int) (r2 : Int) (r3 : Int) (w : World) (hr0 : Kd.C (Kd.int .u8) w A0 l0.length l0) (hc0 : l0.length ≤ c0) (h : firkinref03_Get.f k l0 = some (r1, r2, r3)) :
    Calls Try.prog 19 #[.slice A0 l0.length c0] w fun e w' => ∃ v0_ : Value, e = .returned (.tuple #[v0_, .int .i64 r2, .int .i64 r3]) ∧ Kd.R (Kd.int .u8) 5 w' w.heap.size (fun _ => True) v0_ r1 ∧ Below w.heap.size w w' := by
  unfold firkinref03_Get.f at h
  obtain ⟨⟨n, l1, b1⟩, e1, h⟩ := Option.bind_eq_some_iff.mp h
  obtain ⟨⟨s, l2, b2⟩, e2, h⟩ := Option.bind_eq_some_iff.mp h
  obtain ⟨⟨x, l3, b3⟩, e3, h⟩ := Option.bind_eq_some_iff.mp h
  have HH := Aside0.mk h
  have E1 := Aside0.mk e1
  have E2 := Aside0.mk e2
  have E3 := Aside0.mk e3
  have HR0 := Aside0.mk hr0
  have hm0 := Kd.C_max hr0
  have hu := Try.underlying74
  clear h e1 e2 e3 hr0
  go_enter Try.func19, Try.ntmps19
  go_wp2_with fail
  have s1 := IsS74.new w w A0 c0 l0 false (Below.refl _ _) ⟨HR0.out, hc0⟩
  have B1 := below_alloc (Below.refl w.heap.size w) (.cells #[.slice A0 l0.length c0, .bool false] 74)
  refine (firkinref01_S_Below.calls w.heap.size l0 false 1048577 n l1 b1 w _ s1 B1 E1.out).mono ?_
  rintro e w2 ⟨rfl, s2, B2, K2⟩
  clear s1 B1 K2
  go_wp2_with fail
  refine (firkinref01_S_Take.calls w.heap.size l1 b1 4 s l2 b2 w _ s2 B2 E2.out).mono ?_
  rintro e w3 ⟨v3, rfl, R3, s3, B3, K3⟩
  have hg2 := IsS74.lt s2
  have R3' := Kd.R_bound R3
  clear s2 K3
  go_wp2_with fail
  refine (firkinref01_S_Take.calls w.heap.size l2 b2 n x l3 b3 w _ s3 B3 E3.out).mono ?_
  rintro e w4 ⟨v4, rfl, R4, s4, B4, K4⟩
  have hg3 := IsS74.lt s3
  have R3'' := Kd.R_keep R3' K4 (fun k hk => by have := hk.2.1; omega)
  have HR4 := Aside0.mk (Kd.R_lower (Kd.R_mono (ok' := fun _ => True) (Kd.R_bound R4) (fun k hk => trivial)) (below_size B3))
  have HB4 := Aside0.mk B4
  obtain ⟨A3, c3, rfl, hc3, C3⟩ := Kd.R_reads R3''
  have HC3 := Aside0.mk C3
  obtain ⟨A5, c5, hb5, hg5, hr5, hc5⟩ := s4
  have h0 : w4.cell? ⟨w.heap.size, 0, none⟩ = some (.slice A5 l3.length c5) := (blk_cell hb5 0).trans rfl
  have h1 : w4.cell? ⟨w.heap.size, 1, none⟩ = some (.bool b3) := (blk_cell hb5 1).trans rfl
  have hm3 := Kd.C_max hr5
  clear s3 B3 K4 R3 R3' R3'' R4 B2 hg2 hg3 C3 B4 hb5 hr5
  cases b3 with
  | true =>
    have h := HH.out
    simp only [if_true, Option.some.injEq, Prod.mk.injEq] at h
    obtain ⟨rfl, rfl, rfl⟩ := h
    go_wp2_with fail
    go_ret3
    exact ⟨_, rfl, Kd.R_nil _ _ _ _ _, HB4.out⟩
  | false =>
    have h := HH.out
    rw [if_neg (by decide)] at h
    by_cases hs : s.length = 4 ∧ ∀ z ∈ s, IsByte z
    case neg => rw [if_neg hs] at h; cases h
    rw [if_pos hs] at h
    obtain ⟨a, b, c, d, rfl⟩ : ∃ a b c d, s = [a, b, c, d] := by
      match s, hs.1 with
      | [a, b, c, d], _ => exact ⟨a, b, c, d, rfl⟩
    obtain ⟨ha0, ha1⟩ := hs.2 a (by simp)
    obtain ⟨hb0, hb1⟩ := hs.2 b (by simp)
    obtain ⟨hcc0, hcc1⟩ := hs.2 c (by simp)
    obtain ⟨hd0, hd1⟩ := hs.2 d (by simp)
    obtain ⟨t, e5, h⟩ := Option.bind_eq_some_iff.mp h
    have E5 := Aside0.mk e5
    have HH2 := Aside0.mk h
    obtain ⟨ad, rfl, hx0⟩ := Kd.at_int HC3.out 0 (by omega) (by simp)
    obtain ⟨ad', e', hx1⟩ := Kd.at_int HC3.out 1 (by omega) (by simp)
    cases e'
    obtain ⟨ad', e', hx2⟩ := Kd.at_int HC3.out 2 (by omega) (by simp)
    cases e'
    obtain ⟨ad', e', hx3⟩ := Kd.at_int HC3.out 3 (by omega) (by simp)
    cases e'
    have hx0 : w4.cell? ad = some (.int .u8 a) := by have h9 : w4.cell? (ad.add 0) = some (.int .u8 a) := hx0; simpa [Addr.add] using h9
    have hx1 : w4.cell? ⟨ad.block, ad.off + 1, none⟩ = some (.int .u8 b) := hx1
    have hx2 : w4.cell? ⟨ad.block, ad.off + 2, none⟩ = some (.int .u8 c) := hx2
    have hx3 : w4.cell? ⟨ad.block, ad.off + 3, none⟩ = some (.int .u8 d) := hx3
    clear h e5 hs HH
    go_upto_region 7 with (fail)
    go_cut [9] (fun v9 wx => v9 = .int .u32 (four4 [a, b, c, d]) ∧ ∃ nd, wx = w4.drewN nd)
    case first =>
      go_quiet (fail)
      go_wp2_with fail
      go_meet
      case rel =>
        refine ⟨congrArg (Value.int .u32) ?_, _, rfl⟩
        show _ = a + b * 256 + c * 65536 + d * 16777216
        omega
    case rest =>
      obtain ⟨rfl, nd, rfl⟩ := hcut
      obtain ⟨A4, c4, rfl, hc4, C4⟩ := Kd.R_reads HR4.out
      have C4' := Kd.C_drewN C4 nd
      have g0 : (w4.drewN nd).cell? ⟨w.heap.size, 0, none⟩ = some (.slice A5 l3.length c5) := h0
      generalize hf4 : four4 [a, b, c, d] = f at *
      have HF4 := Aside0.mk hf4
      clear hf4 hx0 hx1 hx2 hx3 C4 h0 h1
      go_wp2_with fail
      refine (firkinref02_Of.calls k A4 c4 x t _ C4' hc4 E5.out).mono ?_
      rintro e w6 ⟨rfl, ⟨nd2, rfl⟩⟩
      have g1 : (w4.drewN (nd + nd2)).cell? ⟨w.heap.size, 0, none⟩ = some (.slice A5 l3.length c5) := g0
      have HR6 : Aside0 (∀ q, Kd.R (Kd.int .u8) 5 (w4.drewN q) w.heap.size (fun _ => True) (.slice A4 x.length c4) x) := ⟨fun q => Kd.R_drewN HR4.out q⟩
      have HB6 : Aside0 (∀ q, Below w.heap.size w (w4.drewN q)) := ⟨fun q => pw_below_drewN HB4.out q⟩
      clear C4' g0
      by_cases he : f = t
      · have h := HH2.out
        rw [if_pos he] at h
        simp only [Option.some.injEq, Prod.mk.injEq] at h
        obtain ⟨rfl, rfl, rfl⟩ := h
        have hb1 : (f == t) = true := beq_iff_eq.mpr he
        have hb2 : (f != t) = false := by rw [he]; simp
        clear he
        go_upto_region 10 with (fail)
        have HR7 := Aside0.mk (HR6.out (nd + nd2))
        have HB7 := Aside0.mk (HB6.out (nd + nd2))
        clear HR6 HB6
        generalize w4.drewN (nd + nd2) = w7 at g1 HR7 HB7 ⊢
        go_quiet (fail)
        go_wp2_with fail
        go_ret3
        exact ⟨_, rfl, Kd.R_drewN HR7.out _, pw_below_drewN HB7.out _⟩
      · have h := HH2.out
        rw [if_neg he] at h
        simp only [Option.some.injEq, Prod.mk.injEq] at h
        obtain ⟨rfl, rfl, rfl⟩ := h
        have hb1 : (f == t) = false := beq_eq_false_iff_ne.mpr he
        have hb2 : (f != t) = true := by rw [bne_iff_ne]; exact he
        clear he
        go_wp2_with fail
        go_ret3
        exact ⟨_, rfl, Kd.R_nil _ _ _ _ _, HB6.out _⟩
end Go.Proofs.Ythcmokglgepgjaa.X
/- Plain facts on layer 2 (crc): the sum, bit by bit, and that four bits at once by the table are the same. -/
namespace Go.Proofs.Ythcmokglgepgjaa.Crc
open Go.RowKit Go.Proofs.Ythcmokglgepgjaa.X Go.Proofs.YthcmokglgepgjaaW.PrintWords Go.Proofs.YthcmokglgepgjaaW.PrintLast Go.Proofs.YthcmokglgepgjaaW.PrintMore
set_option linter.unusedVariables false
theorem w64 {x : Int} (h0 : -9223372036854775808 ≤ x) (h1 : x < 9223372036854775808) : wrap64 x = x := by unfold wrap64; omega
/-- One bit's step. -/
def st (s : Nat) : Nat := (s / 2) ^^^ (if s % 2 = 1 then 2197175160 else 0)
def st4 (s : Nat) : Nat := st (st (st (st s)))
def st8 (s : Nat) : Nat := st4 (st4 s)
theorem st_lt {s : Nat} (h : s < 4294967296) : st s < 4294967296 := by
  unfold st
  have : s / 2 ^^^ (if s % 2 = 1 then 2197175160 else 0) < 2 ^ 32 := Nat.xor_lt_two_pow (by omega) (by split <;> omega)
  simpa using this
theorem st4_lt {s : Nat} (h : s < 4294967296) : st4 s < 4294967296 := st_lt (st_lt (st_lt (st_lt h)))
theorem st_xor (a b : Nat) : st (a ^^^ b) = st a ^^^ st b := by
  unfold st
  rw [Nat.xor_div_two]
  have h := @Nat.xor_mod_two_eq_one a b
  by_cases ha : a % 2 = 1 <;> by_cases hb : b % 2 = 1
  · have : ¬ (a ^^^ b) % 2 = 1 := by rw [h]; simp [ha, hb]
    rw [if_neg this, if_pos ha, if_pos hb, Nat.xor_zero, Nat.xor_assoc, Nat.xor_comm 2197175160 _, Nat.xor_assoc, Nat.xor_self, Nat.xor_zero]
  · have : (a ^^^ b) % 2 = 1 := by rw [h]; simp [ha, hb]
    rw [if_pos this, if_pos ha, if_neg hb, Nat.xor_zero, Nat.xor_assoc, Nat.xor_assoc, Nat.xor_comm (b / 2)]
  · have : (a ^^^ b) % 2 = 1 := by rw [h]; simp [ha, hb]
    rw [if_pos this, if_neg ha, if_pos hb, Nat.xor_zero, Nat.xor_assoc]
  · have : ¬ (a ^^^ b) % 2 = 1 := by rw [h]; simp [ha, hb]
    rw [if_neg this, if_neg ha, if_neg hb, Nat.xor_zero, Nat.xor_zero, Nat.xor_zero]
theorem st4_xor (a b : Nat) : st4 (a ^^^ b) = st4 a ^^^ st4 b := by unfold st4; rw [st_xor, st_xor, st_xor, st_xor]
theorem split16 (x : Nat) : x = (16 * (x / 16)) ^^^ (x % 16) := by
  apply Nat.eq_of_testBit_eq
  intro i
  have e1 : 16 * (x / 16) = (x >>> 4) <<< 4 := by rw [Nat.shiftLeft_eq, Nat.shiftRight_eq_div_pow]; omega
  have e2 : x % 16 = x % 2 ^ 4 := rfl
  rw [Nat.testBit_xor, e1, e2, Nat.testBit_shiftLeft, Nat.testBit_mod_two_pow, Nat.testBit_shiftRight]
  by_cases hi : 4 ≤ i
  · have h1 : 4 + (i - 4) = i := by omega
    have h2 : decide (i < 4) = false := by simp; omega
    simp [hi, h1, h2]
  · have h2 : decide (i < 4) = true := by simp; omega
    simp [hi, h2]
theorem st4_16 (h : Nat) : st4 (16 * h) = h := by
  have s1 : st (16 * h) = 8 * h := by unfold st; rw [if_neg (by omega), Nat.xor_zero]; omega
  have s2 : st (8 * h) = 4 * h := by unfold st; rw [if_neg (by omega), Nat.xor_zero]; omega
  have s3 : st (4 * h) = 2 * h := by unfold st; rw [if_neg (by omega), Nat.xor_zero]; omega
  have s4 : st (2 * h) = h := by unfold st; rw [if_neg (by omega), Nat.xor_zero]; omega
  unfold st4; rw [s1, s2, s3, s4]
theorem tab_is : ∀ j, j < 16 → halfTab.getD j 0 = ((st4 j : Nat) : Int)
  | 0, _ | 1, _ | 2, _ | 3, _ | 4, _ | 5, _ | 6, _ | 7, _ | 8, _ | 9, _ | 10, _ | 11, _ | 12, _ | 13, _ | 14, _ | 15, _ => by decide +kernel
  | n + 16, h => absurd h (by omega)
theorem half_is (x : Nat) (h : x < 4294967296) : crc_half.f (x : Int) = some ((st4 x : Nat) : Int) := by
  unfold crc_half.f
  rw [if_pos ⟨by omega, by omega⟩, show ((x : Int) % 16).toNat = x % 16 by omega, tab_is _ (Nat.mod_lt _ (by decide)), show ((x : Int) / 16) = ((x / 16 : Nat) : Int) by omega]
  have hl : st4 (x % 16) < 4294967296 := st4_lt (by omega)
  rw [u32_xor _ _ (by omega) (by omega) (by omega) (by omega), Int.toNat_natCast, Int.toNat_natCast]
  have hx : st4 x = x / 16 ^^^ st4 (x % 16) := by
    conv => lhs; rw [split16 x]
    rw [st4_xor, st4_16]
  rw [hx]
/-- The state behind bytes. -/
def run (s : Nat) (l : List Int) : Nat := l.foldl (fun s c => st8 (s ^^^ c.toNat)) s
def IsBytes (b : List Int) : Prop := ∀ x ∈ b, 0 ≤ x ∧ x < 256
theorem byte_bounds {x : Int} (h : (Lit.int .u8 x).wf = true) : 0 ≤ x ∧ x < 256 := by
  have h' : (decide ((0 : Int) ≤ x) && decide (x ≤ 255)) = true := h
  rw [Bool.and_eq_true, decide_eq_true_eq, decide_eq_true_eq] at h'
  omega
theorem u32_bounds {x : Int} (h : (Lit.int .u32 x).wf = true) : 0 ≤ x ∧ x < 4294967296 := by
  have h' : (decide ((0 : Int) ≤ x) && decide (x ≤ 4294967295)) = true := h
  rw [Bool.and_eq_true, decide_eq_true_eq, decide_eq_true_eq] at h'
  omega
theorem xor_lt {a b : Nat} (ha : a < 4294967296) (hb : b < 4294967296) : a ^^^ b < 4294967296 := by
  have : a ^^^ b < 2 ^ 32 := Nat.xor_lt_two_pow (by omega) (by omega)
  simpa using this
theorem run_cons (s : Nat) (c : Int) (l : List Int) : run s (c :: l) = run (st8 (s ^^^ c.toNat)) l := by unfold run; rw [List.foldl_cons]
theorem st8_eq (s : Nat) : st8 s = st4 (st4 s) := rfl
theorem run_lt {l : List Int} (hb : IsBytes l) : ∀ {s : Nat}, s < 4294967296 → run s l < 4294967296 := by
  induction l with
  | nil => intro s h; exact h
  | cons c l ih =>
    intro s h
    have hc := hb c (List.mem_cons_self ..)
    rw [run_cons]
    exact ih (fun x hx => hb x (List.mem_cons_of_mem _ hx)) (st4_lt (st4_lt (xor_lt h (by omega))))
/-- A sum behind bytes, as the document says it. -/
def more (sum : Nat) (l : List Int) : Nat := 4294967295 ^^^ run (4294967295 ^^^ sum) l
theorem rd_nat (xs : List Int) (q : Nat) : rd xs (q : Int) = xs.getD q 0 := rfl
theorem drop_get {l : List Int} {i : Nat} (h : i < l.length) : l.drop i = l.getD i 0 :: l.drop (i + 1) := by
  rw [List.drop_eq_getElem_cons h]; simp [List.getD, h]
theorem get_byte {l : List Int} (hb : IsBytes l) {i : Nat} (h : i < l.length) : 0 ≤ l.getD i 0 ∧ l.getD i 0 < 256 := by
  have : l.getD i 0 = l[i] := by simp [List.getD, h]
  rw [this]; exact hb _ (List.getElem_mem h)
theorem more_loop (l : List Int) (hb : IsBytes l) (hl : l.length < 1000000000) (d : Nat) : ∀ (k i s : Nat), i + d = l.length → d < k → s < 4294967296 →
    crc_More.l0 k (s : Int) l (l.length : Int) (i : Int) = some ((4294967295 ^^^ run s (l.drop i) : Nat) : Int) := by
  induction d with
  | zero =>
    intro k i s hd hk hs
    obtain ⟨k, rfl⟩ : ∃ m, k = m + 1 := ⟨k - 1, by omega⟩
    simp only [crc_More.l0]
    rw [if_neg (by omega), u32_xor _ _ (by omega) (by omega) (by omega) (by omega), List.drop_eq_nil_of_le (by omega), Int.toNat_natCast, show (4294967295 : Int).toNat = 4294967295 by decide]
    unfold run; rw [List.foldl_nil]
  | succ d ih =>
    intro k i s hd hk hs
    obtain ⟨k, rfl⟩ : ∃ m, k = m + 1 := ⟨k - 1, by omega⟩
    have hi : i < l.length := by omega
    have hc := get_byte hb hi
    simp only [crc_More.l0]
    rw [if_pos (by omega), if_pos (by omega), if_pos (by omega), rd_nat, show l.getD i 0 % 4294967296 = l.getD i 0 by omega, u32_xor _ _ (by omega) (by omega) (by omega) (by omega), Int.toNat_natCast]
    have hx := xor_lt hs (show (l.getD i 0).toNat < 4294967296 by omega)
    rw [half_is _ hx, Option.bind_some, half_is _ (st4_lt hx), Option.bind_some]
    rw [w64 (by omega) (by omega), show ((i : Int) + 1) = ((i + 1 : Nat) : Int) by omega, ih k (i + 1) _ (by omega) (by omega) (st4_lt (st4_lt hx)), drop_get hi]
    rw [run_cons, st8_eq]
theorem more_is (l : List Int) (hb : IsBytes l) (hl : l.length < 1000000000) (s : Nat) (hs : s < 4294967296) (k : Nat) (hk : l.length < k) : crc_More.f k (s : Int) l = some ((more s l : Nat) : Int) := by
  unfold crc_More.f
  rw [u32_xor _ _ (by omega) (by omega) (by omega) (by omega), Int.toNat_natCast, show (4294967295 : Int).toNat = 4294967295 by decide]
  have := more_loop l hb hl l.length k 0 _ (by omega) hk (xor_lt (show 4294967295 < 4294967296 by decide) hs)
  rw [List.drop_zero] at this
  exact this
theorem of_loop (ls : List (List Int)) (hb : ∀ l ∈ ls, IsBytes l ∧ l.length < 1000000000) (hl : ls.length < 1000000000) (K : Nat) (hK : ∀ l ∈ ls, l.length < K) (d : Nat) : ∀ (k i s : Nat), i + d = ls.length → d + K < k → s < 4294967296 →
    crc_Of.l0 k (s : Int) ls (ls.length : Int) (i : Int) = some (((ls.drop i).foldl more s : Nat) : Int) := by
  induction d with
  | zero =>
    intro k i s hd hk hs
    obtain ⟨k, rfl⟩ : ∃ m, k = m + 1 := ⟨k - 1, by omega⟩
    simp only [crc_Of.l0]
    rw [if_neg (by omega), List.drop_eq_nil_of_le (by omega)]
    rfl
  | succ d ih =>
    intro k i s hd hk hs
    obtain ⟨k, rfl⟩ : ∃ m, k = m + 1 := ⟨k - 1, by omega⟩
    have hi : i < ls.length := by omega
    have hm : ls[i] ∈ ls := List.getElem_mem hi
    simp only [crc_Of.l0]
    rw [if_pos (by omega), if_pos (by omega), if_pos (by omega)]
    have hg : ∀ z : List Int, List.getD ls (i : Int).toNat z = ls[i] := fun z => by rw [Int.toNat_natCast]; simp [List.getD, hi]
    have hg2 : rd_L4 ls (i : Int) = ls[i] := hg _
    rw [hg2, more_is _ (hb _ hm).1 (hb _ hm).2 s hs k (by have := hK _ hm; omega)]
    simp only [Option.bind_some]
    have hlt : more s ls[i] < 4294967296 := xor_lt (by decide) (run_lt (hb _ hm).1 (xor_lt (by decide) hs))
    rw [w64 (by omega) (by omega), show ((i : Int) + 1) = ((i + 1 : Nat) : Int) by omega, ih k (i + 1) _ (by omega) (by omega) hlt, List.drop_eq_getElem_cons hi]
    rfl
theorem of_is (ls : List (List Int)) (hb : ∀ l ∈ ls, IsBytes l ∧ l.length < 1000000000) (hl : ls.length < 1000000000) (K : Nat) (hK : ∀ l ∈ ls, l.length < K) (k : Nat) (hk : ls.length + K < k) :
    crc_Of.f k ls = some ((ls.foldl more 0 : Nat) : Int) := by
  unfold crc_Of.f
  have := of_loop ls hb hl K hK ls.length k 0 0 (by omega) (by omega) (by decide)
  rw [List.drop_zero] at this
  exact this
/-- Parted bytes' sums go on from each other. -/
theorem xx (a b : Nat) : a ^^^ (a ^^^ b) = b := by rw [← Nat.xor_assoc, Nat.xor_self, Nat.zero_xor]
theorem more_append (s : Nat) (l m : List Int) : more s (l ++ m) = more (more s l) m := by
  unfold more run; rw [List.foldl_append, xx]
theorem more_flat (ls : List (List Int)) : ∀ s, ls.foldl more s = more s ls.flatten := by
  induction ls with
  | nil => intro s; show s = _; unfold more run; simp [xx]
  | cons l ls ih => intro s; rw [List.foldl_cons, ih, List.flatten_cons, more_append]
/-- The reference's loops. -/
theorem tmod2 (s : Nat) : Int.tmod (s : Int) 2 = ((s % 2 : Nat) : Int) := by rw [Int.tmod_eq_emod_of_nonneg (by omega)]; omega
theorem tdiv2 (s : Nat) : Int.tdiv (s : Int) 2 = ((s / 2 : Nat) : Int) := by rw [Int.tdiv_eq_ediv_of_nonneg (by omega)]; omega
theorem bit_step (k : Nat) (l : List Int) (i : Int) (s : Nat) (hs : s < 4294967296) (j : Nat) (hj : j < 8) : firkinref02_More.l1 (k + 1) l (s : Int) i (j : Int) = firkinref02_More.l1 k l ((st s : Nat) : Int) i ((j + 1 : Nat) : Int) := by
  conv => lhs; simp only [firkinref02_More.l1]
  rw [if_pos (by omega), tmod2, tdiv2, show (((s / 2 : Nat) : Int) % 4294967296) = ((s / 2 : Nat) : Int) by omega, w64 (by omega) (by omega), show ((j : Int) + 1) = ((j + 1 : Nat) : Int) by omega]
  unfold st
  by_cases h : s % 2 = 1
  · rw [if_pos (by omega), if_pos h, u32_xor _ _ (by omega) (by omega) (by omega) (by omega)]; rfl
  · rw [if_neg (by omega), if_neg h, Nat.xor_zero]
theorem byte_step (k : Nat) (l : List Int) (i : Int) (s : Nat) (hs : s < 4294967296) : firkinref02_More.l1 (k + 9) l (s : Int) i 0 = firkinref02_More.l0 k l ((st8 s : Nat) : Int) (wrap64 (i + 1)) := by
  have e0 : ((0 : Nat) : Int) = 0 := rfl
  rw [← e0]
  show _ = firkinref02_More.l0 k l ((st4 (st4 s) : Nat) : Int) (wrap64 (i + 1))
  rw [bit_step (k + 8) l i s hs 0 (by decide), bit_step (k + 7) l i _ (st_lt hs) 1 (by decide), bit_step (k + 6) l i _ (st_lt (st_lt hs)) 2 (by decide), bit_step (k + 5) l i _ (st_lt (st_lt (st_lt hs))) 3 (by decide)]
  have h4 : st (st (st (st s))) = st4 s := rfl
  rw [h4]
  have hs' := st4_lt hs
  generalize st4 s = t at *
  rw [bit_step (k + 4) l i t hs' 4 (by decide), bit_step (k + 3) l i _ (st_lt hs') 5 (by decide), bit_step (k + 2) l i _ (st_lt (st_lt hs')) 6 (by decide), bit_step (k + 1) l i _ (st_lt (st_lt (st_lt hs'))) 7 (by decide)]
  have h5 : st (st (st (st t))) = st4 t := rfl
  rw [h5]
  simp only [firkinref02_More.l1]
  rw [if_neg (by decide)]
theorem ref_loop (l : List Int) (hb : IsBytes l) (hl : l.length < 1000000000) (d : Nat) : ∀ (k i s : Nat), i + d = l.length → 10 * d < k → s < 4294967296 →
    firkinref02_More.l0 k l (s : Int) (i : Int) = some ((4294967295 ^^^ run s (l.drop i) : Nat) : Int) := by
  induction d with
  | zero =>
    intro k i s hd hk hs
    obtain ⟨k, rfl⟩ : ∃ m, k = m + 1 := ⟨k - 1, by omega⟩
    simp only [firkinref02_More.l0]
    rw [if_neg (by omega), u32_xor _ _ (by omega) (by omega) (by omega) (by omega), List.drop_eq_nil_of_le (by omega), Int.toNat_natCast, show (4294967295 : Int).toNat = 4294967295 by decide, Nat.xor_comm]
    unfold run; rw [List.foldl_nil]
  | succ d ih =>
    intro k i s hd hk hs
    obtain ⟨k, rfl⟩ : ∃ m, k = m + 10 := ⟨k - 10, by omega⟩
    have hi : i < l.length := by omega
    have hc := get_byte hb hi
    have hx := xor_lt hs (show (l.getD i 0).toNat < 4294967296 by omega)
    rw [show k + 10 = (k + 9) + 1 from rfl]
    rw [firkinref02_More.l0]
    rw [if_pos (by omega), if_pos (by omega), rd_nat, show l.getD i 0 % 4294967296 = l.getD i 0 by omega, u32_xor _ _ (by omega) (by omega) (by omega) (by omega), Int.toNat_natCast, byte_step _ _ _ _ hx]
    rw [w64 (by omega) (by omega), show ((i : Int) + 1) = ((i + 1 : Nat) : Int) by omega, ih k (i + 1) (st8 _) (by omega) (by omega) (st4_lt (st4_lt hx)), drop_get hi]
    rw [run_cons]
theorem ref_is (l : List Int) (hb : IsBytes l) (hl : l.length < 1000000000) (s : Nat) (hs : s < 4294967296) (k : Nat) (hk : 10 * l.length < k) : firkinref02_More.f k (s : Int) l = some ((more s l : Nat) : Int) := by
  unfold firkinref02_More.f
  rw [u32_xor _ _ (by omega) (by omega) (by omega) (by omega), Int.toNat_natCast, show (4294967295 : Int).toNat = 4294967295 by decide]
  have := ref_loop l hb hl l.length k 0 _ (by omega) (by omega) (xor_lt hs (show 4294967295 < 4294967296 by decide))
  rw [List.drop_zero] at this
  rw [show ((0 : Nat) : Int) = 0 from rfl] at this
  rw [this]; unfold more; rw [Nat.xor_comm s]
end Go.Proofs.Ythcmokglgepgjaa.Crc
/- A number's bytes, plain law: the code's and the document's are the same. -/
namespace Go.Proofs.Ythcmokglgepgjaa.Enc
open Go.RowKit Go.Proofs.Ythcmokglgepgjaa.X Go.Proofs.Ythcmokglgepgjaa.Dec Go.Proofs.YthcmokglgepgjaaW.PrintWords Go.Proofs.YthcmokglgepgjaaW.PrintLast Go.Proofs.YthcmokglgepgjaaW.PrintMore
set_option linter.unusedVariables false
theorem num_loop (n G : Nat) (hG : 1 ≤ G) (hG2 : G ≤ 10) (d : Nat) : ∀ (k i : Nat), i + d = G → d < k →
    vint_Num.l0 k (n : Int) (G : Int) (laid n G i) (G : Int) (i : Int) = some (encL n G) := by
  induction d with
  | zero =>
    intro k i hd hk
    obtain ⟨k, rfl⟩ : ∃ m, k = m + 1 := ⟨k - 1, by omega⟩
    obtain rfl : i = G := by omega
    rw [vint_Num.l0, if_neg (by omega), w64 (by omega) (by omega), if_pos (by omega), if_pos (by rw [laid_length]; omega)]
    rw [show ((i : Int) - 1) = ((i - 1 : Nat) : Int) by omega, rd_nat, Int.toNat_natCast]
    have hg : (laid n i i).getD (i - 1) 0 = ((n / 2 ^ (7 * (i - 1)) % 128 + 128 : Nat) : Int) := by
      simp only [laid, List.getD]
      rw [List.getElem?_map, List.getElem?_range (by omega)]
      simp; omega
    rw [hg, last_seven _ (Nat.mod_lt _ (by decide)), laid_end n i hG]
  | succ d ih =>
    intro k i hd hk
    obtain ⟨k, rfl⟩ : ∃ m, k = m + 1 := ⟨k - 1, by omega⟩
    rw [vint_Num.l0, if_pos (by omega), w64 (x := 7 * (i : Int)) (by omega) (by omega), if_pos (by omega), if_pos (by omega), if_pos (by rw [laid_length]; omega)]
    rw [show (7 * (i : Int)) = ((7 * i : Nat) : Int) by omega, shr_nat n i (by omega), seven, Int.toNat_natCast, laid_set n G i (by omega), w64 (by omega) (by omega), show ((i : Int) + 1) = ((i + 1 : Nat) : Int) by omega]
    exact ih k (i + 1) (by omega) (by omega)
theorem num_is (n : Nat) (h : n < 18446744073709551616) (k : Nat) (hk : 10 < k) : vint_Num.f k (n : Int) = some (enc n) := by
  have hl := len_le n h
  have hg := grp_le (n := n) h
  unfold vint_Num.f bits_Len64.f
  rw [if_pos ⟨by omega, by omega⟩, Option.bind_some, Int.toNat_natCast]
  have e : mx 1 (wrap64 (Int.tdiv (wrap64 ((wrap64 (((Lib.bitLen n : Nat) : Int) + 7)) - 1)) 7)) = ((grp n : Nat) : Int) := by
    rw [w64 (x := ((Lib.bitLen n : Nat) : Int) + 7) (by omega) (by omega), w64 (x := ((Lib.bitLen n : Nat) : Int) + 7 - 1) (by omega) (by omega), Int.tdiv_eq_ediv_of_nonneg (by omega), w64 (by omega) (by omega)]
    unfold mx grp
    split <;> omega
  rw [e]
  rw [if_pos (by omega), Int.toNat_natCast, if_pos (by omega), Option.bind_some, List.length_replicate, ← laid_zero n]
  have := num_loop n (grp n) (grp_has h).1 hg (grp n) k 0 (by omega) (by omega)
  exact this
theorem rnum_loop (n G : Nat) (hn : Has n G) (hlt : n < 18446744073709551616) (hG : G ≤ 10) (d : Nat) : ∀ (k i : Nat) (acc : List Int), i + d = G → 1 ≤ d → d < k → acc = (encL n G).take i →
    firkinref01_Num.l0 k ((n / 2 ^ (7 * i) : Nat) : Int) acc = some (encL n G) := by
  induction d with
  | zero => intro k i acc hd h1; omega
  | succ d ih =>
    intro k i acc hd _ hk hacc
    obtain ⟨k, rfl⟩ : ∃ m, k = m + 1 := ⟨k - 1, by omega⟩
    have hq : n / 2 ^ (7 * i) < 18446744073709551616 := Nat.lt_of_le_of_lt (Nat.div_le_self _ _) hlt
    have hlen : acc.length ≤ 10 := by rw [hacc, List.length_take, encL_length]; omega
    have hget : (encL n G)[i]? = some ((encByte n G i : Nat) : Int) := by
      rw [encL, List.getElem?_map, List.getElem?_range (by omega)]; rfl
    have hsnoc : (encL n G).take i ++ [((encByte n G i : Nat) : Int)] = (encL n G).take (i + 1) := by
      have hi : i < (encL n G).length := by rw [encL_length]; omega
      rw [List.take_succ_eq_append_getElem hi]
      congr 1
      rw [List.getElem?_eq_getElem hi] at hget
      rw [Option.some.inj hget]
    have hpow : 2 ^ (7 * (i + 1)) = 2 ^ (7 * i) * 128 := by rw [show 7 * (i + 1) = 7 * i + 7 by omega, Nat.pow_add]
    rw [firkinref01_Num.l0]
    by_cases hd0 : d = 0
    · have hi : i + 1 = G := by omega
      have hsm : n / 2 ^ (7 * i) < 128 := by
        have := hn.2.1
        rw [← hi, hpow] at this
        exact Nat.div_lt_of_lt_mul this
      rw [if_neg (by omega), if_pos (by omega), hacc]
      have he : encByte n G i = n / 2 ^ (7 * i) := by unfold encByte; rw [if_neg (by omega), Nat.mod_eq_of_lt hsm, Nat.add_zero]
      rw [show (((n / 2 ^ (7 * i) : Nat) : Int) % 256) = ((n / 2 ^ (7 * i) : Nat) : Int) by omega, ← he, hsnoc, List.take_of_length_le (by rw [encL_length]; omega)]
    · have hbig : 128 ≤ n / 2 ^ (7 * i) := by
        have h1 := hn.2.2 (by omega)
        have h2 : 2 ^ (7 * (i + 1)) ≤ 2 ^ (7 * (G - 1)) := Nat.pow_le_pow_right (by decide) (by omega)
        rw [hpow] at h2
        rw [Nat.le_div_iff_mul_le (Nat.two_pow_pos _), Nat.mul_comm]
        omega
      have he : encByte n G i = n / 2 ^ (7 * i) % 128 + 128 := by unfold encByte; rw [if_pos (by omega)]
      have hdd : n / 2 ^ (7 * i) / 128 = n / 2 ^ (7 * (i + 1)) := by rw [Nat.div_div_eq_div_mul, hpow]
      rw [if_pos (by omega), if_pos (by omega), Int.tdiv_eq_ediv_of_nonneg (by omega), Int.tmod_eq_emod_of_nonneg (by omega)]
      rw [IntKind.wrap_u64, IntKind.wrap_u64]
      rw [show ((((n / 2 ^ (7 * i) : Nat) : Int) / 128) % 18446744073709551616) = ((n / 2 ^ (7 * i) / 128 : Nat) : Int) by omega, hdd]
      rw [show (((((n / 2 ^ (7 * i) : Nat) : Int) % 128 + 128) % 18446744073709551616) % 256) = ((n / 2 ^ (7 * i) % 128 + 128 : Nat) : Int) by omega, ← he]
      exact ih k (i + 1) _ (by omega) (by omega) (by omega) (by rw [hacc, hsnoc])
theorem rnum_is (n : Nat) (h : n < 18446744073709551616) (k : Nat) (hk : 11 < k) : firkinref01_Num.f k (n : Int) = some (enc n) := by
  unfold firkinref01_Num.f
  have hg := grp_le (n := n) h
  have := rnum_loop n (grp n) (grp_has h) h hg (grp n) k 0 [] (by omega) (grp_has h).1 (by omega) (by simp)
  rw [Nat.mul_zero, Nat.pow_zero, Nat.div_one] at this
  exact this
end Go.Proofs.Ythcmokglgepgjaa.Enc
/- What is read of a source, plain law: numbers, numbers below another one: the code's source and the document's read the same. -/
namespace Go.Proofs.Ythcmokglgepgjaa.Read
open Go Go.RowKit Go.Proofs.Ythcmokglgepgjaa.X Go.Proofs.Ythcmokglgepgjaa.Dec Go.Proofs.Ythcmokglgepgjaa.Enc Go.Proofs.Ythcmokglgepgjaa.Round Go.Proofs.YthcmokglgepgjaaW.PrintWords Go.Proofs.YthcmokglgepgjaaW.PrintLast Go.Proofs.YthcmokglgepgjaaW.PrintMore
set_option linter.unusedVariables false
/-- A source as it can be: of one that failed nothing is left. -/
def GoodS (l : List Int) (bad : Bool) : Prop := Fit l ∧ (bad = true → l = [])
theorem GoodS.nil (b : Bool) : GoodS [] b := ⟨Fit.nil, fun _ => rfl⟩
theorem GoodS.of {l : List Int} (h : Fit l) : GoodS l false := ⟨h, fun h => by cases h⟩
theorem GoodS.drop {l : List Int} {b : Bool} (h : GoodS l b) (k : Nat) : GoodS (l.drop k) b := ⟨h.1.drop k, fun e => by rw [h.2 e]; exact List.drop_nil⟩
def gNum (l : List Int) (bad : Bool) : Int × List Int × Bool :=
  if bad = true ∨ szS 0 l = 0 then (0, [], true) else (((valS 0 (l.take (szS 0 l)) : Nat) : Int), l.drop (szS 0 l), false)
theorem gNum_good {l : List Int} {b : Bool} (h : GoodS l b) : GoodS (gNum l b).2.1 (gNum l b).2.2 := by
  unfold gNum; split
  · exact GoodS.nil _
  · exact GoodS.of (h.1.drop _)
theorem gNum_len (l : List Int) (b : Bool) : (gNum l b).2.1.length ≤ l.length := by
  unfold gNum; split <;> simp
theorem gNum_range {l : List Int} {b : Bool} (h : GoodS l b) : 0 ≤ (gNum l b).1 ∧ (gNum l b).1 < 18446744073709551616 := by
  unfold gNum; split
  · simp
  · have := val_lt h.1.1 (Nat.le_refl (szS 0 l))
    show 0 ≤ ((_ : Nat) : Int) ∧ ((_ : Nat) : Int) < _
    omega
theorem num_g {l : List Int} {b : Bool} (h : GoodS l b) : vint_Source_Num.f l b = some (gNum l b) := by
  unfold vint_Source_Num.f numS gNum
  rw [if_pos h.1]
  cases b with
  | true => rw [if_pos rfl, if_pos (.inl rfl), h.2 rfl]
  | false =>
    rw [if_neg (by decide)]
    by_cases hz : szS 0 l = 0
    · rw [if_pos hz, if_pos (.inr hz)]
    · rw [if_neg hz, if_neg (by simp [hz])]
theorem rnum_g {l : List Int} {b : Bool} (h : GoodS l b) : firkinref01_S_Num.f l b = some (gNum l b) := by
  unfold firkinref01_S_Num.f rnumS gNum
  rw [if_pos h.1]
  cases b with
  | true => obtain rfl := h.2 rfl; rfl
  | false =>
    by_cases hz : szS 0 l = 0
    · rw [if_pos hz, if_pos (.inr hz)]
    · rw [if_neg hz, if_neg (by simp [hz])]
def gBelow (l : List Int) (bad : Bool) (n : Int) : Int × List Int × Bool :=
  if (gNum l bad).2.2 = true ∨ n ≤ 0 ∨ n ≤ (gNum l bad).1 then (0, [], true) else gNum l bad
theorem gBelow_good {l : List Int} {b : Bool} (h : GoodS l b) (n : Int) : GoodS (gBelow l b n).2.1 (gBelow l b n).2.2 := by
  unfold gBelow; split
  · exact GoodS.nil _
  · exact gNum_good h
theorem gBelow_len (l : List Int) (b : Bool) (n : Int) : (gBelow l b n).2.1.length ≤ l.length := by
  unfold gBelow; split
  · simp
  · exact gNum_len l b
theorem gBelow_range {l : List Int} {b : Bool} (h : GoodS l b) (n : Int) : 0 ≤ (gBelow l b n).1 ∧ ((gBelow l b n).1 < n ∨ (gBelow l b n).1 = 0) := by
  unfold gBelow; split
  · simp
  · have := gNum_range h; omega
theorem wrap_u64_of {n : Int} (h0 : 0 ≤ n) (h1 : n < 18446744073709551616) : IntKind.u64.wrap n = n := by rw [IntKind.wrap_u64]; omega
theorem below_g {l : List Int} {b : Bool} (h : GoodS l b) (n : Int) (hn : n < 9223372036854775808) : vint_Source_Below.f l b n = some (gBelow l b n) := by
  unfold vint_Source_Below.f vint_Source_Ok.f vint_Source_Fail.f
  rw [num_g h, Option.bind_some]
  obtain ⟨h0, h1⟩ := gNum_range h
  unfold gBelow
  generalize gNum l b = g at h0 h1 ⊢
  obtain ⟨x, l', b'⟩ := g
  simp only [Option.bind_some] at h0 h1 ⊢
  cases b' with
  | true => simp
  | false =>
    by_cases hn0 : n > 0
    · rw [wrap_u64_of (by omega) (by omega)]
      by_cases hx : x < n
      · have hw : wrap64 x = x := w64 (by omega) (by omega)
        have : ¬ n ≤ 0 := by omega
        simp [hn0, hx, hw, this]
      · have : n ≤ x := by omega
        simp [hn0, hx, this]
    · have : n ≤ 0 := by omega
      simp [hn0, this]
theorem rbelow_g {l : List Int} {b : Bool} (h : GoodS l b) (n : Int) (hn : n < 9223372036854775808) : firkinref01_S_Below.f l b n = some (gBelow l b n) := by
  unfold firkinref01_S_Below.f firkinref01_S_Fail.f
  rw [rnum_g h, Option.bind_some]
  obtain ⟨h0, h1⟩ := gNum_range h
  unfold gBelow
  generalize gNum l b = g at h0 h1 ⊢
  obtain ⟨x, l', b'⟩ := g
  simp only [Option.bind_some] at h0 h1 ⊢
  cases b' with
  | true => simp
  | false =>
    by_cases hn0 : n < 1
    · have : n ≤ 0 := by omega
      simp [hn0, this]
    · have hn2 : ¬ n ≤ 0 := by omega
      rw [wrap_u64_of (by omega) (by omega)]
      by_cases hx : x ≥ n
      · have : n ≤ x := by omega
        simp [hn0, hn2, this]
      · have hw : wrap64 x = x := w64 (by omega) (by omega)
        have : ¬ n ≤ x := by omega
        simp [hn0, hn2, hw, this]
end Go.Proofs.Ythcmokglgepgjaa.Read
/- What was written is read again: numbers. -/
namespace Go.Proofs.Ythcmokglgepgjaa.Read
open Go Go.RowKit Go.Proofs.Ythcmokglgepgjaa.X Go.Proofs.Ythcmokglgepgjaa.Dec Go.Proofs.Ythcmokglgepgjaa.Enc Go.Proofs.Ythcmokglgepgjaa.Round Go.Proofs.YthcmokglgepgjaaW.PrintWords Go.Proofs.YthcmokglgepgjaaW.PrintLast Go.Proofs.YthcmokglgepgjaaW.PrintMore
set_option linter.unusedVariables false
theorem gNum_enc {n : Nat} (h : n < 18446744073709551616) (rest : List Int) : gNum (enc n ++ rest) false = ((n : Int), rest, false) := by
  have h1 := num_enc h rest
  unfold numS at h1
  rw [if_neg (by decide)] at h1
  unfold gNum
  by_cases hz : szS 0 (enc n ++ rest) = 0
  · rw [if_pos hz] at h1; simp at h1
  · rw [if_neg hz] at h1
    rw [if_neg (by simp [hz])]
    exact h1
theorem gBelow_enc {n : Nat} {m : Int} (h : (n : Int) < m) (hm : m < 9223372036854775808) (rest : List Int) : gBelow (enc n ++ rest) false m = ((n : Int), rest, false) := by
  unfold gBelow
  rw [gNum_enc (by omega)]
  rw [if_neg]
  simp only [not_or]
  exact ⟨by decide, by omega, by omega⟩
end Go.Proofs.Ythcmokglgepgjaa.Read
/- What is read of a source, plain law: bytes; the code's source and the document's read the same. -/
namespace Go.Proofs.Ythcmokglgepgjaa.Read
open Go Go.RowKit Go.Proofs.Ythcmokglgepgjaa.X Go.Proofs.Ythcmokglgepgjaa.Dec Go.Proofs.Ythcmokglgepgjaa.Enc Go.Proofs.Ythcmokglgepgjaa.Round Go.Proofs.YthcmokglgepgjaaW.PrintWords Go.Proofs.YthcmokglgepgjaaW.PrintLast Go.Proofs.YthcmokglgepgjaaW.PrintMore
set_option linter.unusedVariables false
def gTake (l : List Int) (bad : Bool) (n : Int) : List Int × List Int × Bool :=
  if bad = true ∨ n < 0 ∨ (l.length : Int) < n then ([], [], true) else (l.take n.toNat, l.drop n.toNat, false)
theorem gTake_good {l : List Int} {b : Bool} (h : GoodS l b) (n : Int) : GoodS (gTake l b n).2.1 (gTake l b n).2.2 := by
  unfold gTake; split
  · exact GoodS.nil _
  · exact GoodS.of (h.1.drop _)
theorem gTake_len (l : List Int) (b : Bool) (n : Int) : (gTake l b n).2.1.length ≤ l.length := by unfold gTake; split <;> simp
theorem gTake_bytes {l : List Int} {b : Bool} (h : GoodS l b) (n : Int) : IsBytes (gTake l b n).1 := by
  unfold gTake; split
  · intro x hx; simp at hx
  · exact h.1.1.take _
theorem take_g {l : List Int} {b : Bool} (h : GoodS l b) (n : Int) : vint_Source_Take.f l b n = some (gTake l b n) := by
  unfold vint_Source_Take.f; rw [if_pos h.1.2]; rfl
theorem rtake_g {l : List Int} {b : Bool} (h : GoodS l b) (n : Int) : firkinref01_S_Take.f l b n = some (gTake l b n) := by
  unfold firkinref01_S_Take.f; rw [if_pos h.1.2]; rfl
end Go.Proofs.Ythcmokglgepgjaa.Read
/- What was written is read again: bytes. -/
namespace Go.Proofs.Ythcmokglgepgjaa.Read
open Go Go.RowKit Go.Proofs.Ythcmokglgepgjaa.X Go.Proofs.Ythcmokglgepgjaa.Dec Go.Proofs.Ythcmokglgepgjaa.Enc Go.Proofs.Ythcmokglgepgjaa.Round Go.Proofs.YthcmokglgepgjaaW.PrintWords Go.Proofs.YthcmokglgepgjaaW.PrintLast Go.Proofs.YthcmokglgepgjaaW.PrintMore
set_option linter.unusedVariables false
theorem gTake_app (l rest : List Int) : gTake (l ++ rest) false (l.length : Int) = (l, rest, false) := by
  unfold gTake
  rw [if_neg]
  · simp
  · simp only [not_or]
    exact ⟨by decide, by omega, by rw [List.length_append]; omega⟩
end Go.Proofs.Ythcmokglgepgjaa.Read
/- How much is left of a source, plain law. -/
namespace Go.Proofs.Ythcmokglgepgjaa.Read
open Go Go.RowKit Go.Proofs.Ythcmokglgepgjaa.X Go.Proofs.Ythcmokglgepgjaa.Dec Go.Proofs.Ythcmokglgepgjaa.Enc Go.Proofs.Ythcmokglgepgjaa.Round Go.Proofs.YthcmokglgepgjaaW.PrintWords Go.Proofs.YthcmokglgepgjaaW.PrintLast Go.Proofs.YthcmokglgepgjaaW.PrintMore
set_option linter.unusedVariables false
theorem left_g {l : List Int} {b : Bool} (h : GoodS l b) : vint_Source_Left.f l b = some ((l.length : Int), l, b) := by
  unfold vint_Source_Left.f vint_Source_Ok.f
  cases b with
  | true => rw [h.2 rfl]; rfl
  | false => rfl
end Go.Proofs.Ythcmokglgepgjaa.Read
/- Frames, plain law: the code's and the document's are the same, and what is put is got. -/
namespace Go.Proofs.Ythcmokglgepgjaa.Frame
open Go Go.RowKit Go.Proofs.Ythcmokglgepgjaa.X Go.Proofs.Ythcmokglgepgjaa.Dec Go.Proofs.Ythcmokglgepgjaa.Enc Go.Proofs.Ythcmokglgepgjaa.Read Go.Proofs.YthcmokglgepgjaaW.PrintWords Go.Proofs.YthcmokglgepgjaaW.PrintLast Go.Proofs.YthcmokglgepgjaaW.PrintMore
set_option linter.unusedVariables false
/-- A sum's bytes, the lowest first. -/
def sumB (n : Nat) : List Int := [(n : Int) % 256, (n : Int) / 256 % 256, (n : Int) / 65536 % 256, (n : Int) / 16777216 % 256]
theorem sumB_bytes (n : Nat) : IsBytes (sumB n) := by
  intro x hx
  simp only [sumB, List.mem_cons, List.not_mem_nil, or_false] at hx
  rcases hx with rfl | rfl | rfl | rfl <;> omega
theorem sumB_inj {m n : Nat} (hm : m < 4294967296) (hn : n < 4294967296) (h : sumB m = sumB n) : m = n := by
  simp only [sumB, List.cons.injEq] at h
  omega
/-- The sum of bytes. -/
def sum (l : List Int) : Nat := Crc.more 0 l
theorem sum_lt {l : List Int} (hb : IsBytes l) : sum l < 4294967296 := Crc.xor_lt (by decide) (Crc.run_lt hb (Crc.xor_lt (by decide) (by decide)))
def frameL (l : List Int) : List Int := enc l.length ++ sumB (sum l) ++ l
theorem frameL_bytes {l : List Int} (hb : IsBytes l) : IsBytes (frameL l) := by
  intro x hx
  rcases List.mem_append.1 hx with hx | hx
  · rcases List.mem_append.1 hx with hx | hx
    · exact enc_bytes _ x hx
    · exact sumB_bytes _ x hx
  · exact hb x hx
theorem enc_len (n : Nat) (h : n < 18446744073709551616) : (enc n).length ≤ 10 := by
  unfold enc; rw [encL_length]; exact grp_le h
theorem frameL_len (l : List Int) (h : l.length < 1000000000) : (frameL l).length ≤ l.length + 14 := by
  unfold frameL; rw [List.length_append, List.length_append]; have := enc_len l.length (by omega); simp [sumB]; omega
theorem crc_one {l : List Int} (hb : IsBytes l) (hl : l.length < 1000000000) (k : Nat) (hk : l.length + 2 < k) : crc_Of.f k [l] = some ((sum l : Nat) : Int) := by
  have := Crc.of_is [l] (by intro m hm; obtain rfl := List.mem_singleton.mp hm; exact ⟨hb, hl⟩) (by simp) (l.length + 1) (by intro m hm; obtain rfl := List.mem_singleton.mp hm; omega) k (by simp; omega)
  simpa [sum] using this
theorem sumOf_is {l : List Int} (hb : IsBytes l) (hl : l.length < 1000000000) (k : Nat) (hk : l.length + 2 < k) : frame_sumOf.f k l = some (sumB (sum l)) := by
  unfold frame_sumOf.f
  rw [crc_one hb hl k hk]
  rfl
theorem put_is {l : List Int} (hb : IsBytes l) (hl : l.length < 1000000000) (k : Nat) (hk : l.length + 20 < k) : frame_Put.f k l = some (frameL l) := by
  have he := enc_len l.length (by omega)
  unfold frame_Put.f
  rw [wrap_u64_of (by omega) (by omega), num_is l.length (by omega) k (by omega), Option.bind_some, sumOf_is hb hl k (by omega), Option.bind_some]
  rw [if_pos (by simp [sumB]; omega), Option.bind_some, if_pos (by rw [List.length_append]; simp [sumB]; omega)]
  rfl
theorem rof_is {l : List Int} (hb : IsBytes l) (hl : l.length < 1000000000) (k : Nat) (hk : 10 * l.length < k) : firkinref02_Of.f k l = some ((sum l : Nat) : Int) := by
  unfold firkinref02_Of.f
  have := Crc.ref_is l hb hl 0 (by decide) k hk
  rw [show ((0 : Nat) : Int) = 0 from rfl] at this
  rw [this]; rfl
theorem rput_is {l : List Int} (hb : IsBytes l) (hl : l.length < 1000000000) (k : Nat) (hk : 10 * l.length + 20 < k) : firkinref03_Put.f k l = some (frameL l) := by
  have he := enc_len l.length (by omega)
  have hs := sum_lt hb
  unfold firkinref03_Put.f
  rw [rof_is hb hl k (by omega), Option.bind_some, wrap_u64_of (by omega) (by omega), rnum_is l.length (by omega) k (by omega), Option.bind_some, Option.bind_some]
  have e : ([((sum l : Nat) : Int) % 256, ((Int.tdiv ((sum l : Nat) : Int) 256) % 4294967296) % 256, ((Int.tdiv ((sum l : Nat) : Int) 65536) % 4294967296) % 256, ((Int.tdiv ((sum l : Nat) : Int) 16777216) % 4294967296) % 256] : List Int) = sumB (sum l) := by
    rw [Int.tdiv_eq_ediv_of_nonneg (by omega), Int.tdiv_eq_ediv_of_nonneg (by omega), Int.tdiv_eq_ediv_of_nonneg (by omega)]
    unfold sumB
    congr 1
    congr 1
    · omega
    congr 1
    · omega
    congr 1
    omega
  rw [e]
  rw [if_pos (by simp [sumB]; omega), Option.bind_some, if_pos (by rw [List.length_append]; simp [sumB]; omega)]
  rfl
/-- What bytes begin with: the frame's bytes, and how many bytes it has. -/
def gGet (l : List Int) : List Int × Int × Int :=
  let a := gBelow l false 1048577
  let s := gTake a.2.1 a.2.2 4
  let x := gTake s.2.1 s.2.2 a.1
  if x.2.2 = true then ([], 0, 2) else if s.1 = sumB (sum x.1) then (x.1, (l.length : Int) - (x.2.1.length : Int), 0) else ([], 0, 13)
theorem strEq {a b : List Int} (ha : IsBytes a) (hb : IsBytes b) : ((strOfNums a).toList = (strOfNums b).toList) ↔ a = b := by
  rw [Go.Lib.strOfNums_toList, Go.Lib.strOfNums_toList]
  constructor
  · intro h
    have hl : a.length = b.length := by have := congrArg List.length h; simpa [Go.Lib.bytesOf] using this
    apply List.ext_getElem hl
    intro i h1 h2
    have h3 := congrArg (fun l : List UInt8 => l[i]?) h
    simp only [Go.Lib.bytesOf, List.getElem?_map, List.getElem?_eq_getElem h1, List.getElem?_eq_getElem h2, Option.map_some, Option.some.injEq] at h3
    have ha1 := ha _ (List.getElem_mem h1)
    have hb1 := hb _ (List.getElem_mem h2)
    have h4 := congrArg UInt8.toNat h3
    rw [UInt8.toNat_ofNat', UInt8.toNat_ofNat'] at h4
    omega
  · rintro rfl; rfl
theorem get_is {l : List Int} (hb : IsBytes l) (hl : l.length < 1000000000) (k : Nat) (hk : l.length + 2 < k) : frame_Get.f k l = some (gGet l) := by
  have hg : GoodS l false := GoodS.of ⟨hb, by omega⟩
  unfold frame_Get.f vint_From.f
  rw [Option.bind_some, below_g hg _ (by decide), Option.bind_some]
  have ha := gBelow_good hg 1048577
  have hal := gBelow_len l false 1048577
  have har := gBelow_range hg 1048577
  unfold gGet
  generalize gBelow l false 1048577 = a at ha hal har ⊢
  obtain ⟨n, l1, b1⟩ := a
  simp only at ha hal har ⊢
  rw [take_g ha, Option.bind_some]
  have hs := gTake_good ha 4
  have hsl := gTake_len l1 b1 4
  have hsb := gTake_bytes ha 4
  generalize gTake l1 b1 4 = s at hs hsl hsb ⊢
  obtain ⟨s1, l2, b2⟩ := s
  simp only at hs hsl hsb ⊢
  rw [take_g hs, Option.bind_some]
  have hx := gTake_good hs n
  have hxl := gTake_len l2 b2 n
  have hxb := gTake_bytes hs n
  have hxn : (gTake l2 b2 n).1.length ≤ l2.length := by
    unfold gTake; split
    · simp
    · rw [List.length_take]; exact Nat.min_le_right _ _
  generalize gTake l2 b2 n = x at hx hxl hxb hxn ⊢
  obtain ⟨x1, l3, b3⟩ := x
  simp only at hx hxl hxb hxn ⊢
  unfold vint_Source_Ok.f
  rw [Option.bind_some]
  cases b3 with
  | true => rfl
  | false =>
    simp only [Bool.not_false, if_true, Bool.false_eq_true, if_false]
    rw [sumOf_is hxb (by omega) k (by omega), Option.bind_some]
    by_cases e : s1 = sumB (sum x1)
    · rw [if_pos ((strEq hsb (sumB_bytes _)).mpr e), if_pos e, left_g hx, Option.bind_some, w64 (by omega) (by omega)]
    · rw [if_neg (fun h => e ((strEq hsb (sumB_bytes _)).mp h)), if_neg e]
theorem four {s : List Int} (hb : IsBytes s) (h4 : s.length = 4) {n : Nat} (hn : n < 4294967296) : four4 s = (n : Int) ↔ s = sumB n := by
  obtain ⟨a, b, c, d, rfl⟩ : ∃ a b c d, s = [a, b, c, d] := by
    match s, h4 with
    | [a, b, c, d], _ => exact ⟨a, b, c, d, rfl⟩
  have ha := hb a (by simp)
  have hb' := hb b (by simp)
  have hc := hb c (by simp)
  have hd := hb d (by simp)
  simp only [four4, sumB, List.cons.injEq, and_true]
  omega
theorem rget_is {l : List Int} (hb : IsBytes l) (hl : l.length < 1000000000) (k : Nat) (hk : 10 * l.length + 2 < k) : firkinref03_Get.f k l = some (gGet l) := by
  have hg : GoodS l false := GoodS.of ⟨hb, by omega⟩
  unfold firkinref03_Get.f
  rw [rbelow_g hg _ (by decide), Option.bind_some]
  have ha := gBelow_good hg 1048577
  have hal := gBelow_len l false 1048577
  unfold gGet
  generalize gBelow l false 1048577 = a at ha hal ⊢
  obtain ⟨n, l1, b1⟩ := a
  simp only at ha hal ⊢
  rw [rtake_g ha, Option.bind_some]
  have hs := gTake_good ha 4
  have hsl := gTake_len l1 b1 4
  have hsb := gTake_bytes ha 4
  have hs4 : (gTake l1 b1 4).2.2 = false → (gTake l1 b1 4).1.length = 4 := by
    unfold gTake; split
    · intro h; cases h
    · rename_i h
      intro _
      simp only [not_or] at h
      have := h.2.2
      simp; omega
  generalize gTake l1 b1 4 = s at hs hsl hsb hs4 ⊢
  obtain ⟨s1, l2, b2⟩ := s
  simp only at hs hsl hsb hs4 ⊢
  rw [rtake_g hs, Option.bind_some]
  have hx := gTake_good hs n
  have hxl := gTake_len l2 b2 n
  have hxb := gTake_bytes hs n
  have hx2 : (gTake l2 b2 n).2.2 = false → b2 = false := by
    unfold gTake; split
    · intro h; cases h
    · rename_i h
      intro _
      simp only [not_or] at h
      simpa using h.1
  have hxn : (gTake l2 b2 n).1.length ≤ l2.length := by
    unfold gTake; split
    · simp
    · rw [List.length_take]; exact Nat.min_le_right _ _
  generalize gTake l2 b2 n = x at hx hxl hxb hx2 hxn ⊢
  obtain ⟨x1, l3, b3⟩ := x
  simp only at hx hxl hxb hx2 hxn ⊢
  cases b3 with
  | true => rfl
  | false =>
    have h4 := hs4 (hx2 rfl)
    have hlt := sum_lt hxb
    simp only [Bool.false_eq_true, if_false]
    rw [if_pos ⟨h4, hsb⟩, rof_is hxb (by omega) k (by omega), Option.bind_some]
    by_cases e : s1 = sumB (sum x1)
    · rw [if_pos ((four hsb h4 hlt).mpr e), if_pos e]
    · rw [if_neg (fun h => e ((four hsb h4 hlt).mp h)), if_neg e]
theorem get_put {l : List Int} (hl : l.length ≤ 1048576) (rest : List Int) : gGet (frameL l ++ rest) = (l, ((frameL l).length : Int), 0) := by
  unfold gGet
  have e1 : frameL l ++ rest = enc l.length ++ (sumB (sum l) ++ (l ++ rest)) := by unfold frameL; simp [List.append_assoc]
  have h4 : ((sumB (sum l)).length : Int) = 4 := rfl
  have e2 : gBelow (frameL l ++ rest) false 1048577 = ((l.length : Int), sumB (sum l) ++ (l ++ rest), false) := by rw [e1]; exact gBelow_enc (by omega) (by decide) _
  have e3 : gTake (sumB (sum l) ++ (l ++ rest)) false 4 = (sumB (sum l), l ++ rest, false) := by rw [← h4]; exact gTake_app _ _
  have e4 := gTake_app l rest
  simp only [e2, e3, e4]
  rw [if_neg (by decide), if_pos trivial, List.length_append]
  simp
theorem same_is (a b : List Int) : firkinref01_Same.f a b = some (decide ((strOfNums a).toList = (strOfNums b).toList)) := by
  unfold firkinref01_Same.f
  first | rfl | (simp; done) | (congr 1; rw [Bool.eq_iff_iff]; simp)
theorem same_self (l : List Int) : firkinref01_Same.f l l = some true := by rw [same_is]; simp
end Go.Proofs.Ythcmokglgepgjaa.Frame
-- Printed for this claim by a program of this session (wip/xprint.py) over the kit's printer; Lean checks it.
namespace Go.Proofs.Ythcmokglgepgjaa.X
open Go.RowKit Go.Proofs.YthcmokglgepgjaaW.PrintWords Go.Proofs.YthcmokglgepgjaaW.PrintLast Go.Proofs.YthcmokglgepgjaaW.PrintMore
attribute [local go_sem] max2_int min2_int max_two min_two max_three min_three max_four min_four   -- for this text's walks alone
set_option linter.unusedVariables false
set_option linter.unusedSimpArgs false

/-! ### firkinref03_All: function 21 -/
def firkinref03_All.l0 : Nat → List Int → List (List Int) → Int → Option ((List (List Int)) × Int)
  | 0, _, _, _ => none
  | k + 1, x0, x4, x5 => if x5 < (x0.length : Int) then (if 0 ≤ x5 then (if x5 ≤ (x0.length : Int) then ((firkinref03_Get.f k (x0.drop (x5 : Int).toNat)).bind fun bt210 => (if bt210.2.2 = 0 then (if x4.length < 5864062014805 then (firkinref03_All.l0 k x0 (x4 ++ [bt210.1]) (wrap64 (x5 + bt210.2.1))) else (none)) else (some (x4, x5)))) else (none)) else (none)) else (some (x4, x5))
def firkinref03_All.f (k : Nat) (l0 : List Int) : Option ((List (List Int)) × Int) := firkinref03_All.l0 k l0 (([] : List (List Int))) 0
theorem firkinref03_All.mono_l : ∀ k, (∀ y0 y1 y2, LeO (firkinref03_All.l0 k y0 y1 y2) (firkinref03_All.l0 (k + 1) y0 y1 y2))
  | 0 => fun _ _ _ r h => by simp [firkinref03_All.l0] at h
  | k + 1 => by
    have ih0 := firkinref03_All.mono_l k
    · intro y0 y1 y2
      unfold firkinref03_All.l0
      repeat' first
      | (with_reducible exact ih0 _ _ _)
      | (with_reducible exact firkinref03_Get.mono _ _)
      | (with_reducible exact LeO.refl _)
      | (with_reducible exact LeO.none _)
      | (with_reducible refine LeO.ite ?_ ?_)
      | (with_reducible refine LeO.bind ?_ (fun _ => ?_))
      | exact ih0 _ _ _
      | exact firkinref03_Get.mono _ _
      | exact LeO.none _
      | refine LeO.ite ?_ ?_
      | refine LeO.bind ?_ (fun _ => ?_)
theorem firkinref03_All.mono : ∀ a0 k, LeO (firkinref03_All.f k a0) (firkinref03_All.f (k + 1) a0) := by
  intro a0 k
  have ih0 := firkinref03_All.mono_l k
  unfold firkinref03_All.f
  repeat' first
      | (with_reducible exact ih0 _ _ _)
      | (with_reducible exact firkinref03_Get.mono _ _)
      | (with_reducible exact LeO.refl _)
      | (with_reducible exact LeO.none _)
      | (with_reducible refine LeO.ite ?_ ?_)
      | (with_reducible refine LeO.bind ?_ (fun _ => ?_))
      | exact ih0 _ _ _
      | exact firkinref03_Get.mono _ _
      | exact LeO.none _
      | refine LeO.ite ?_ ?_
      | refine LeO.bind ?_ (fun _ => ?_)
set_option maxHeartbeats 8000000 in
set_option maxRecDepth 100000 in
theorem firkinref03_All.calls (k : Nat) (A0 : Option Addr) (c0 : Nat) (l0 : List Int) (r1 : List (List Int)) (r2 : Int) (w : World) (hr0 : Kd.C (Kd.int .u8) w A0 l0.length l0) (hc0 : l0.length ≤ c0) (h : firkinref03_All.f k l0 = some (r1, r2)) :
    Calls Try.prog 21 #[.slice A0 l0.length c0] w fun e w' => ∃ v0_ : Value, e = .returned (.tuple #[v0_, .int .i64 r2]) ∧ Kd.S (Kd.slice 5 (Kd.int .u8)) 22 w' w.heap.size (fun _ => True) v0_ r1 ∧ Below w.heap.size w w' := by
  have HR0 := Aside0.mk hr0
  have HC0 := Aside0.mk hc0
  clear hr0 hc0
  have HB := Aside0.mk (Below.refl w.heap.size w)
  have H : (firkinref03_All.l0 k l0 (([] : List (List Int))) 0) = some (r1, r2) := h
  clear h
  obtain ⟨y206, hy206⟩ : ∃ y_ : List (List Int), y_ = (([] : List (List Int))) := ⟨_, rfl⟩
  replace H : (firkinref03_All.l0 k l0 y206 0) = some (r1, r2) := by first | (rw [hy206]; with_reducible exact H) | (have H2_ := (Option.bind_some _ _).symm.trans H; rw [hy206]; with_reducible exact H2_) | (have H2_ := (Option.bind_some _ _).symm.trans H; with_reducible exact H2_) | with_reducible exact H | (rw [hy206]; exact H) | exact H
  have Ny206 := Aside0.mk hy206
  clear hy206
  have H' := Aside0.mk H
  clear H
  go_enter Try.func21, Try.ntmps21
  go_wp2_with (first | ((with_reducible refine gate_dst (N := 9) rfl ?_); refine Kd.S_lit (Kd.slice 5 (Kd.int .u8)) _ 22 ?hg (N := 9) ?hd (xs := ([] : List (List Int))) (inner := []) (ok := fun _ => True) (okp := fun _ => True) ?hr ?hp (fun _ hk => hk) trivial (Below.refl _ _) (Nat.le_refl _) (by simp) ?_; (case hd => rfl); (case hg => rfl); (case hr => first | (go_simp; done) | (go_simp; rfl)); (case hp => exact (Reps.none _ _)); intro v207 w2 ho3 hb hg_ hnew_; clear hg_ hnew_; (first | rw [← Ny206.out] at ho3 | (simp only [Int.reduceToNat] at ho3; rw [← Ny206.out] at ho3)); have n0_ := Aside0.mk (Kd.S_lower ho3 (below_size (by repeat (first | (with_reducible first | exact HB.out | apply below_alloc | apply pw_below_drewN | apply below_drew1) | exact HB.out)))); have n1_ := Aside0.mk (below_step (by repeat (first | (with_reducible first | exact HB.out | apply below_alloc | apply pw_below_drewN | apply below_drew1) | exact HB.out)) hb); clear HB; have HO208 := n0_; have HB := n1_; clear n0_ n1_; clear hb ho3))
  go_loopg [4, 5] k (fun kq v4 v5 w' => ∃ (x4_1 : List (List Int)) (x5_1 : Int), v5 = .int .i64 x5_1 ∧ Aside0 (firkinref03_All.l0 kq l0 x4_1 x5_1 = some (r1, r2)) ∧ Aside0 (kq ≤ k) ∧ Aside0 (Kd.S (Kd.slice 5 (Kd.int .u8)) 22 w' w.heap.size (fun _ => True) v4 x4_1) ∧ Aside0 (Below w.heap.size w w'))
  case atStart => exact ⟨(y206), (0), (by first | rfl | (simp; done) | (simp [*]; done)), H', ⟨Nat.le_refl _⟩, ⟨by (with_reducible repeat (first | apply Kd.S_alloc | apply Kd.S_drewN | apply Kd.S_drew)); exact HO208.out⟩, ⟨by repeat (first | (with_reducible first | exact HB.out | apply below_alloc | apply pw_below_drewN | apply below_drew1) | exact HB.out)⟩⟩
  case round =>
    clear H'
    try clear c2
    try clear p2
    obtain ⟨x4_1, x5_1, rfl, HA, HK1, HO_4, HB⟩ := hrel
    cases gk with
    | zero => exact absurd HA.out (by simp [firkinref03_All.l0])
    | succ k1 =>
      have H := HA.out
      clear HA
      simp only [firkinref03_All.l0] at H
      by_cases c4 : x5_1 < (l0.length : Int)
      · rw [if_pos c4] at H
        have c4b0 : decide (x5_1 < (l0.length : Int)) = true := decide_eq_true c4
        clear c4
        by_cases c5 : 0 ≤ x5_1
        · rw [if_pos c5] at H
          have c5b0 := eq_true c5
          have c5b1 : decide (0 ≤ x5_1) = true := decide_eq_true c5
          clear c5
          by_cases c6 : x5_1 ≤ (l0.length : Int)
          · rw [if_pos c6] at H
            have c6b0 := eq_true c6
            have c6b1 : decide (x5_1 ≤ (l0.length : Int)) = true := decide_eq_true c6
            clear c6
            replace H := Option.bind_eq_some_iff.mp H
            obtain ⟨⟨t210, t211, t212⟩, A70, H⟩ := H
            replace H : (if t212 = 0 then (if x4_1.length < 5864062014805 then (firkinref03_All.l0 k1 l0 (x4_1 ++ [t210]) (wrap64 (x5_1 + t211))) else (none)) else (some (x4_1, x5_1))) = some (r1, r2) := H
            have A7 := Aside0.mk A70
            clear A70
            by_cases c8 : t212 = 0
            · rw [if_pos c8] at H
              have c8b0 : (t212 == 0) = true := beq_iff_eq.mpr c8
              have c8b1 : (t212 != 0) = false := bne_eq_false_iff_eq.mpr c8
              clear c8
              by_cases c9 : x4_1.length < 5864062014805
              · rw [if_pos c9] at H
                have LMc9 := Aside0.mk c9
                clear c9
                obtain ⟨y215, hy215⟩ : ∃ y_ : List (List Int), y_ = (x4_1 ++ [t210]) := ⟨_, rfl⟩
                replace H : (firkinref03_All.l0 k1 l0 y215 (wrap64 (x5_1 + t211))) = some (r1, r2) := by first | (rw [hy215]; with_reducible exact H) | (have H2_ := (Option.bind_some _ _).symm.trans H; rw [hy215]; with_reducible exact H2_) | (have H2_ := (Option.bind_some _ _).symm.trans H; with_reducible exact H2_) | with_reducible exact H | (rw [hy215]; exact H) | exact H
                have Ny215 := Aside0.mk hy215
                clear hy215
                have H' := Aside0.mk H
                clear H
                obtain ⟨i010, hi010, _, hsz10, _⟩ := info_parts info5
                obtain ⟨A10, hcut10, hA10, hC10⟩ := print_drop_of (P := Try.prog) (Value.int .u8) 0 22 5 .i64 Try.underlying22 hi010 hsz10 A0 c0 l0 x5_1 (of_decide_eq_true (by first | (with_reducible assumption) | assumption)) (of_decide_eq_true (by first | (with_reducible assumption) | assumption)) HC0.out
                have HR209 := Aside0.mk (Kd.C_of_reads (h1 := fun _ => rfl) (hA10 _ (Kd.reads_of_C HR0.out)))
                have HC209 := Aside0.mk hC10
                clear hA10 hC10 hi010 hsz10
                go_wp2_with (first | ((with_reducible refine gate_callee (f := 19) rfl ?_); refine goesL_ (some 18) rfl rfl Try.func19 (by kernel_rfl) rfl #[.slice A10 (l0.drop (x5_1 : Int).toNat).length (c0 - x5_1.toNat)] rfl (by (try simp only [List.map_toArray, List.map_cons, List.map_nil]); first | done | (rw [show (l0.drop (x5_1 : Int).toNat).length = (l0.length - x5_1.toNat) from List.length_drop] <;> rfl) | rfl | (simp only [List.length_drop, List.length_take]; rfl)) ?_; (with_reducible refine (firkinref03_Get.calls k1 _ _ (l0.drop (x5_1 : Int).toNat) t210 t211 t212 _ ?side1 ?side2 A7.out).mono ?_); (case side1 => repeat (first | exact (Kd.C_below HR209.out HB.out) | (with_reducible refine Kd.C_alloc ?_ _) | (with_reducible refine Kd.C_drewN ?_ _) | (with_reducible refine Kd.C_drew ?_))); (case side2 => exact HC209.out); rintro e w11 ⟨v213, rfl, ho0, hb⟩; refine ⟨_, rfl, ?_⟩; have n0_ := Aside0.mk (Kd.S_elder' (by (with_reducible repeat (first | apply Kd.S_alloc | apply Kd.S_drewN | apply Kd.S_drew)); exact HO_4.out) (Kd.R_base ho0) hb); have n1_ := Aside0.mk (Kd.R_lower ho0 (below_size (by repeat (first | (with_reducible first | exact HB.out | apply below_alloc | apply pw_below_drewN | apply below_drew1) | exact HB.out)))); have n2_ := Aside0.mk (below_step (by repeat (first | (with_reducible first | exact HB.out | apply below_alloc | apply pw_below_drewN | apply below_drew1) | exact HB.out)) hb); clear HO_4; clear HB; have HO_4 := n0_; have HO214 := n1_; have HB := n2_; clear n0_ n1_ n2_; (try clear hb); (try clear hb2); (try clear hk); (try clear hi); (try clear ho0); obtain ⟨Ao13, co13, eo13⟩ := Kd.R_slice HO214.out; subst eo13) | ((with_reducible refine gate_builtin (b := .append) (xs := #[.tmp 26, .tmp 28]) rfl ?_); at_builtin; refine Kd.S_append (Kd.slice 5 (Kd.int .u8)) (w0 := w) w.heap.size rfl (.tmp 26) (.tmp 28) 34 22 (.slice none 0 0) 24 rfl Try.underlying34 info22 rfl (by decide) (by omega) u4 x4_1 t210 [.slice Ao13 t210.length co13] (fun _ => True) (fun k_ => some k_ = (.slice Ao13 t210.length co13 : Value).ownBlock) rfl rfl ?aP (fun k_ hk_ => ((Kd.R_mono (ok' := fun k_ => ((fun _ => True)) k_ ∧ some k_ ≠ (u4 : Value).ownBlock) (Kd.R_apart' (HO214.out) (Kd.S_typed HO_4.out) (by decide)) (fun k_ hk => ⟨trivial, hk.2⟩))).1 k_ hk_.symm) ?aF ?aO ?aB ?aS ?aL ?_; (case aP => exact Kd.M_row (Kd.R_mono (Kd.R_tight rfl (Kd.R_mono (ok' := fun k_ => ((fun _ => True)) k_ ∧ some k_ ≠ (u4 : Value).ownBlock) (Kd.R_apart' (HO214.out) (Kd.S_typed HO_4.out) (by decide)) (fun k_ hk => ⟨trivial, hk.2⟩))) (fun _ h_ => h_))); (case aB => exact (by repeat (first | (with_reducible first | exact HB.out | apply below_alloc | apply pw_below_drewN | apply below_drew1) | exact HB.out))); (case aF => exact (fun _ _ => trivial)); (case aO => exact (by (with_reducible repeat (first | apply Kd.S_alloc | apply Kd.S_drewN | apply Kd.S_drew)); exact Kd.S_mono HO_4.out (fun k_ hk => ⟨trivial, fun e_ => hk.2 e_⟩))); (case aS => exact (below_size (by repeat (first | (with_reducible first | exact HB.out | apply below_alloc | apply pw_below_drewN | apply below_drew1) | exact HB.out)))); (case aL => have := LMc9.out; omega); intro v216 w12 ho hb hg hat; rw [← Ny215.out] at ho; have n0_ := Aside0.mk (hb); have n1_ := Aside0.mk (ho); clear HB; clear HO_4; clear HO214; have HB := n0_; have HO217 := n1_; clear n0_ n1_; clear ho hb hg hat))
                go_roundg k1
                case measure => have := HK1.out; omega
                case rel => exact ⟨(y215), (wrap64 (x5_1 + t211)), (by first | rfl | (simp; done) | (simp [*]; done)), H', ⟨by have := HK1.out; omega⟩, ⟨by (with_reducible repeat (first | apply Kd.S_alloc | apply Kd.S_drewN | apply Kd.S_drew)); exact HO217.out⟩, ⟨by repeat (first | (with_reducible first | exact HB.out | apply below_alloc | apply pw_below_drewN | apply below_drew1) | exact HB.out)⟩⟩
              · rw [if_neg c9] at H
                exact absurd H (by simp)
            · rw [if_neg c8] at H
              have c8b0 : (t212 == 0) = false := beq_eq_false_iff_ne.mpr c8
              have c8b1 : (t212 != 0) = true := bne_iff_ne.mpr c8
              simp only [Option.some.injEq, Prod.mk.injEq] at H
              obtain ⟨rfl, rfl⟩ := H
              obtain ⟨i014, hi014, _, hsz14, _⟩ := info_parts info5
              obtain ⟨A14, hcut14, hA14, hC14⟩ := print_drop_of (P := Try.prog) (Value.int .u8) 0 22 5 .i64 Try.underlying22 hi014 hsz14 A0 c0 l0 x5_1 (of_decide_eq_true (by first | (with_reducible assumption) | assumption)) (of_decide_eq_true (by first | (with_reducible assumption) | assumption)) HC0.out
              have HR209 := Aside0.mk (Kd.C_of_reads (h1 := fun _ => rfl) (hA14 _ (Kd.reads_of_C HR0.out)))
              have HC209 := Aside0.mk hC14
              clear hA14 hC14 hi014 hsz14
              go_wp2_with (first | ((with_reducible refine gate_callee (f := 19) rfl ?_); refine goesL_ (some 18) rfl rfl Try.func19 (by kernel_rfl) rfl #[.slice A14 (l0.drop (x5_1 : Int).toNat).length (c0 - x5_1.toNat)] rfl (by (try simp only [List.map_toArray, List.map_cons, List.map_nil]); first | done | (rw [show (l0.drop (x5_1 : Int).toNat).length = (l0.length - x5_1.toNat) from List.length_drop] <;> rfl) | rfl | (simp only [List.length_drop, List.length_take]; rfl)) ?_; (with_reducible refine (firkinref03_Get.calls k1 _ _ (l0.drop (x5_1 : Int).toNat) t210 t211 t212 _ ?side1 ?side2 A7.out).mono ?_); (case side1 => repeat (first | exact (Kd.C_below HR209.out HB.out) | (with_reducible refine Kd.C_alloc ?_ _) | (with_reducible refine Kd.C_drewN ?_ _) | (with_reducible refine Kd.C_drew ?_))); (case side2 => exact HC209.out); rintro e w15 ⟨v213, rfl, ho0, hb⟩; refine ⟨_, rfl, ?_⟩; have n0_ := Aside0.mk (Kd.S_elder' (by (with_reducible repeat (first | apply Kd.S_alloc | apply Kd.S_drewN | apply Kd.S_drew)); exact HO_4.out) (Kd.R_base ho0) hb); have n1_ := Aside0.mk (Kd.R_lower ho0 (below_size (by repeat (first | (with_reducible first | exact HB.out | apply below_alloc | apply pw_below_drewN | apply below_drew1) | exact HB.out)))); have n2_ := Aside0.mk (below_step (by repeat (first | (with_reducible first | exact HB.out | apply below_alloc | apply pw_below_drewN | apply below_drew1) | exact HB.out)) hb); clear HO_4; clear HB; have HO_4 := n0_; have HO214 := n1_; have HB := n2_; clear n0_ n1_ n2_; (try clear hb); (try clear hb2); (try clear hk); (try clear hi); (try clear ho0)))
              go_ret2
              exact ⟨_, by first | rfl | (simp [errW_none, errW_some] <;> rfl) | (simp [*, errW_none, errW_some] <;> rfl), by (with_reducible repeat (first | apply Kd.S_alloc | apply Kd.S_drewN | apply Kd.S_drew)); exact Kd.S_mono HO_4.out (fun _ hk => trivial), by repeat (first | (with_reducible first | exact HB.out | apply below_alloc | apply pw_below_drewN | apply below_drew1) | exact HB.out)⟩
          · rw [if_neg c6] at H
            exact absurd H (by simp)
        · rw [if_neg c5] at H
          exact absurd H (by simp)
      · rw [if_neg c4] at H
        have c4b0 : decide (x5_1 < (l0.length : Int)) = false := decide_eq_false c4
        clear c4
        simp only [Option.some.injEq, Prod.mk.injEq] at H
        obtain ⟨rfl, rfl⟩ := H
        go_wp2
        go_ret2
        exact ⟨_, by first | rfl | (simp [errW_none, errW_some] <;> rfl) | (simp [*, errW_none, errW_some] <;> rfl), by (with_reducible repeat (first | apply Kd.S_alloc | apply Kd.S_drewN | apply Kd.S_drew)); exact HO_4.out, by repeat (first | (with_reducible first | exact HB.out | apply below_alloc | apply pw_below_drewN | apply below_drew1) | exact HB.out)⟩

end Go.Proofs.Ythcmokglgepgjaa.X
/- Frames one behind the other, plain law: which frames whatever bytes begin with. -/
namespace Go.Proofs.Ythcmokglgepgjaa.Frame
open Go Go.RowKit Go.Proofs.Ythcmokglgepgjaa.X Go.Proofs.Ythcmokglgepgjaa.Dec Go.Proofs.Ythcmokglgepgjaa.Enc Go.Proofs.Ythcmokglgepgjaa.Read Go.Proofs.Ythcmokglgepgjaa.Round Go.Proofs.YthcmokglgepgjaaW.PrintWords Go.Proofs.YthcmokglgepgjaaW.PrintLast Go.Proofs.YthcmokglgepgjaaW.PrintMore
set_option linter.unusedVariables false
set_option linter.unusedSimpArgs false
/-- Bytes of which a frame was got begin with just that frame. -/
theorem gGet_frame {l : List Int} (hb : IsBytes l) (hl : l.length < 1000000000) (h : (gGet l).2.2 = 0) :
    ∃ rest, l = frameL (gGet l).1 ++ rest ∧ (gGet l).2.1 = ((frameL (gGet l).1).length : Int) ∧ (gGet l).1.length ≤ 1048576 := by
  unfold gGet gBelow at h ⊢
  by_cases hz : szS 0 l = 0
  · have e : gNum l false = (0, [], true) := by unfold gNum; rw [if_pos (.inr hz)]
    simp only [e, gTake] at h
    simp at h
  have eN : gNum l false = (((valS 0 (l.take (szS 0 l)) : Nat) : Int), l.drop (szS 0 l), false) := by unfold gNum; rw [if_neg (by simp [hz])]
  have henc := enc_num hb hz
  simp only [eN] at h ⊢
  generalize hv : valS 0 (l.take (szS 0 l)) = n at h henc ⊢
  generalize hs1 : l.drop (szS 0 l) = l1 at h ⊢
  have hl1 : l = enc n ++ l1 := by rw [henc, ← hs1]; exact (List.take_append_drop _ _).symm
  by_cases hn : (1048577 : Int) ≤ (n : Int)
  · have hn3 : ((false : Bool) = true ∨ (1048577 : Int) ≤ 0 ∨ (1048577 : Int) ≤ (n : Int)) := .inr (.inr hn)
    rw [if_pos hn3] at h
    simp [gTake] at h
  have hn2 : ¬ ((false : Bool) = true ∨ (1048577 : Int) ≤ 0 ∨ (1048577 : Int) ≤ (n : Int)) := by simp; omega
  rw [if_neg hn2] at h ⊢
  simp only at h ⊢
  by_cases h4 : (l1.length : Int) < 4
  · have e4 : gTake l1 false 4 = ([], [], true) := by unfold gTake; rw [if_pos (.inr (.inr h4))]
    simp only [e4] at h
    simp [gTake] at h
  have e4 : gTake l1 false 4 = (l1.take 4, l1.drop 4, false) := by unfold gTake; rw [if_neg (by simp; omega)]; rfl
  simp only [e4] at h ⊢
  by_cases h5 : ((l1.drop 4).length : Int) < (n : Int)
  · have e5 : gTake (l1.drop 4) false (n : Int) = ([], [], true) := by unfold gTake; rw [if_pos (.inr (.inr h5))]
    simp only [e5] at h
    simp at h
  have e5 : gTake (l1.drop 4) false (n : Int) = ((l1.drop 4).take n, (l1.drop 4).drop n, false) := by unfold gTake; rw [if_neg (by simp at h5 ⊢; omega), Int.toNat_natCast]
  simp only [e5] at h ⊢
  simp only [Bool.false_eq_true, if_false] at h ⊢
  by_cases h6 : l1.take 4 = sumB (sum ((l1.drop 4).take n))
  · rw [if_pos h6]
    simp only
    have hlen : ((l1.drop 4).take n).length = n := by rw [List.length_take]; omega
    have hfr : frameL ((l1.drop 4).take n) = enc n ++ l1.take 4 ++ (l1.drop 4).take n := by unfold frameL; rw [hlen, h6]
    have hall : l = frameL ((l1.drop 4).take n) ++ (l1.drop 4).drop n := by
      rw [hfr, List.append_assoc, List.append_assoc, List.take_append_drop, List.take_append_drop, ← hl1]
    refine ⟨(l1.drop 4).drop n, hall, ?_, by rw [hlen]; omega⟩
    have := congrArg List.length hall
    rw [List.length_append] at this
    omega
  · rw [if_neg h6] at h; simp at h
/-- Of a frame that is cut none is got. -/
theorem gGet_cut {y : List Int} (hb : IsBytes y) (hy : y.length ≤ 1048576) {m : Nat} (hm : m < (frameL y).length) : (gGet ((frameL y).take m)).2.2 ≠ 0 := by
  intro h
  have hfl := frameL_len y (by omega)
  obtain ⟨rest, e1, e2, e3⟩ := gGet_frame ((frameL_bytes hb).take m) (by rw [List.length_take]; omega) h
  have h1 := get_put hy []
  rw [List.append_nil] at h1
  have h2 := get_put e3 (rest ++ (frameL y).drop m)
  rw [← List.append_assoc, ← e1, List.take_append_drop, h1] at h2
  have h3 := congrArg (fun p : List Int × Int × Int => p.2.1) h2
  have h4 := congrArg List.length e1
  simp only at h3
  rw [List.length_append, List.length_take] at h4
  omega
/-- The frames that bytes begin with, and how many bytes these have. -/
def gAll : Nat → List Int → List (List Int) × Nat
  | 0, _ => ([], 0)
  | n + 1, l => if l = [] ∨ (gGet l).2.2 ≠ 0 then ([], 0) else ((gGet l).1 :: (gAll n (l.drop (gGet l).2.1.toNat)).1, (gGet l).2.1.toNat + (gAll n (l.drop (gGet l).2.1.toNat)).2)
theorem frameL_pos (x : List Int) : 4 ≤ (frameL x).length := by unfold frameL; simp [sumB]; omega
theorem gGet_adv {l : List Int} (hb : IsBytes l) (hl : l.length < 1000000000) (h : (gGet l).2.2 = 0) : 4 ≤ (gGet l).2.1 ∧ (gGet l).2.1 ≤ (l.length : Int) := by
  obtain ⟨rest, e1, e2, _⟩ := gGet_frame hb hl h
  have := frameL_pos (gGet l).1
  have h2 := congrArg List.length e1
  rw [List.length_append] at h2
  omega
theorem all_is {l : List Int} (hb : IsBytes l) (hl : l.length < 1000000) : ∀ (n at_ : Nat) (acc : List (List Int)) (k : Nat), l.length ≤ at_ + n → at_ ≤ l.length → acc.length ≤ at_ → 2000000 + n < k →
    frame_All.l0 k l acc (at_ : Int) = some (acc ++ (gAll n (l.drop at_)).1, ((at_ + (gAll n (l.drop at_)).2 : Nat) : Int))
  | n, at_, acc, 0 => fun _ _ _ hk => by omega
  | 0, at_, acc, k + 1 => fun h1 h2 _ _ => by
    obtain rfl : at_ = l.length := by omega
    rw [frame_All.l0, if_neg (by omega), gAll]; simp
  | n + 1, at_, acc, k + 1 => fun h1 h2 h3 hk => by
    rw [frame_All.l0, gAll]
    by_cases hlt : at_ < l.length
    · have hne : l.drop at_ ≠ [] := by intro e; have := congrArg List.length e; simp at this; omega
      rw [if_pos (by omega), if_pos (by omega), Int.toNat_natCast, get_is (hb.drop at_) (by rw [List.length_drop]; omega) k (by rw [List.length_drop]; omega), Option.bind_some]
      by_cases he : (gGet (l.drop at_)).2.2 = 0
      · have hadv := gGet_adv (hb.drop at_) (by rw [List.length_drop]; omega) he
        rw [List.length_drop] at hadv
        obtain ⟨m, hm⟩ : ∃ m : Nat, (gGet (l.drop at_)).2.1 = (m : Int) := ⟨(gGet (l.drop at_)).2.1.toNat, by omega⟩
        rw [hm] at hadv
        rw [if_pos he, if_pos (by omega), if_neg (by simp [hne, he]), hm, w64 (by omega) (by omega), show ((at_ : Int) + (m : Int)) = ((at_ + m : Nat) : Int) by omega,
          all_is hb hl n (at_ + m) _ k (by omega) (by omega) (by rw [List.length_append]; simp; omega) (by omega), Int.toNat_natCast, List.drop_drop]
        simp [Nat.add_assoc]
      · rw [if_neg he, if_pos (.inr he)]; simp
    · obtain rfl : at_ = l.length := by omega
      rw [if_neg (by omega), if_pos (.inl (by simp))]; simp
theorem rall_is {l : List Int} (hb : IsBytes l) (hl : l.length < 1000000) : ∀ (n at_ : Nat) (acc : List (List Int)) (k : Nat), l.length ≤ at_ + n → at_ ≤ l.length → acc.length ≤ at_ → 20000000 + n < k →
    firkinref03_All.l0 k l acc (at_ : Int) = some (acc ++ (gAll n (l.drop at_)).1, ((at_ + (gAll n (l.drop at_)).2 : Nat) : Int))
  | n, at_, acc, 0 => fun _ _ _ hk => by omega
  | 0, at_, acc, k + 1 => fun h1 h2 _ _ => by
    obtain rfl : at_ = l.length := by omega
    rw [firkinref03_All.l0, if_neg (by omega), gAll]; simp
  | n + 1, at_, acc, k + 1 => fun h1 h2 h3 hk => by
    rw [firkinref03_All.l0, gAll]
    by_cases hlt : at_ < l.length
    · have hne : l.drop at_ ≠ [] := by intro e; have := congrArg List.length e; simp at this; omega
      rw [if_pos (by omega), if_pos (by omega), if_pos (by omega), Int.toNat_natCast, rget_is (hb.drop at_) (by rw [List.length_drop]; omega) k (by rw [List.length_drop]; omega), Option.bind_some]
      by_cases he : (gGet (l.drop at_)).2.2 = 0
      · have hadv := gGet_adv (hb.drop at_) (by rw [List.length_drop]; omega) he
        rw [List.length_drop] at hadv
        obtain ⟨m, hm⟩ : ∃ m : Nat, (gGet (l.drop at_)).2.1 = (m : Int) := ⟨(gGet (l.drop at_)).2.1.toNat, by omega⟩
        rw [hm] at hadv
        rw [if_pos he, if_pos (by omega), if_neg (by simp [hne, he]), hm, w64 (by omega) (by omega), show ((at_ : Int) + (m : Int)) = ((at_ + m : Nat) : Int) by omega,
          rall_is hb hl n (at_ + m) _ k (by omega) (by omega) (by rw [List.length_append]; simp; omega) (by omega), Int.toNat_natCast, List.drop_drop]
        simp [Nat.add_assoc]
      · rw [if_neg he, if_pos (.inr he)]; simp
    · obtain rfl : at_ = l.length := by omega
      rw [if_neg (by omega), if_pos (.inl (by simp))]; simp
theorem lists_self : ∀ a : List (List Int), listsGo a a = true
  | [] => rfl
  | x :: a => by rw [listsGo, if_pos rfl, lists_self a]
end Go.Proofs.Ythcmokglgepgjaa.Frame
/- FrameAll: frames one behind the other are all told, up to one that is cut. No condition. -/
namespace Go.Proofs.Ythcmokglgepgjaa.True_
open Go Go.RowKit Go.Proofs.Ythcmokglgepgjaa.X Go.Proofs.Ythcmokglgepgjaa.Dec Go.Proofs.Ythcmokglgepgjaa.Frame Go.Proofs.YthcmokglgepgjaaW.PrintWords Go.Proofs.YthcmokglgepgjaaW.PrintLast Go.Proofs.YthcmokglgepgjaaW.PrintMore
set_option linter.unusedVariables false
set_option linter.unusedSimpArgs false
/-- Frames one behind the other. -/
def flat (t : List (List Int)) : List Int := (t.map frameL).flatten
theorem flat_nil : flat [] = [] := rfl
theorem flat_cons (y : List Int) (t : List (List Int)) : flat (y :: t) = frameL y ++ flat t := by simp [flat]
theorem flat_snoc (t : List (List Int)) (y : List Int) : flat (t ++ [y]) = flat t ++ frameL y := by simp [flat]
/-- How many of them lie whole within so many bytes. -/
def cn : List (List Int) → Nat → Nat
  | [], _ => 0
  | y :: t, c => if (frameL y).length ≤ c then cn t (c - (frameL y).length) + 1 else 0
theorem cn_spec : ∀ (t : List (List Int)) (c : Nat), cn t c ≤ t.length ∧ (∀ j, j ≤ cn t c → (flat (t.take j)).length ≤ c) ∧ (cn t c = t.length ∨ c < (flat (t.take (cn t c + 1))).length)
  | [], c => ⟨by simp [cn], fun j _ => by simp [flat_nil], .inl rfl⟩
  | y :: t, c => by
    unfold cn
    by_cases h : (frameL y).length ≤ c
    · obtain ⟨h1, h2, h3⟩ := cn_spec t (c - (frameL y).length)
      rw [if_pos h]
      refine ⟨by simp; omega, fun j hj => ?_, ?_⟩
      · cases j with
        | zero => simp [flat_nil]
        | succ j => rw [List.take_succ_cons, flat_cons, List.length_append]; have := h2 j (by omega); omega
      · rcases h3 with h3 | h3
        · exact .inl (by simp [h3])
        · refine .inr ?_
          rw [List.take_succ_cons, flat_cons, List.length_append]; omega
    · rw [if_neg h]
      refine ⟨by omega, fun j hj => ?_, .inr ?_⟩
      · obtain rfl : j = 0 := by omega
        simp [flat_nil]
      · simp only [Nat.zero_add, List.take_succ_cons, List.take_zero, flat_cons, flat_nil, List.append_nil]; omega
theorem gAll_cut : ∀ (t : List (List Int)) (c n : Nat), (∀ y ∈ t, IsBytes y ∧ y.length ≤ 200) → c ≤ n → gAll n ((flat t).take c) = (t.take (cn t c), (flat (t.take (cn t c))).length)
  | t, c, 0 => fun _ h => by
    obtain rfl : c = 0 := by omega
    have : cn t 0 = 0 := by
      cases t with
      | nil => rfl
      | cons y t => rw [cn, if_neg (by have := frameL_pos y; omega)]
    rw [this, gAll]; simp [flat_nil]
  | [], c, n + 1 => fun _ _ => by rw [flat_nil, List.take_nil, gAll, if_pos (.inl rfl)]; simp [cn, flat_nil]
  | y :: t, c, n + 1 => fun hy hc => by
    obtain ⟨hb, hl⟩ := hy y (by simp)
    have hp := frameL_pos y
    rw [flat_cons, gAll, cn]
    by_cases h : (frameL y).length ≤ c
    · have e1 : (frameL y ++ flat t).take c = frameL y ++ (flat t).take (c - (frameL y).length) := by
        rw [List.take_append, List.take_of_length_le h]
      rw [if_pos h, e1, get_put (by omega)]
      rw [if_neg (by simp; intro e; rw [e] at hp; simp at hp)]
      simp only [Int.toNat_natCast, List.drop_left]
      rw [gAll_cut t _ n (fun z hz => hy z (by simp [hz])) (by omega), List.take_succ_cons, flat_cons, List.length_append]
    · have e1 : (frameL y ++ flat t).take c = (frameL y).take c := by rw [List.take_append_of_le_length (by omega)]
      rw [if_neg h, e1, if_pos (.inr (gGet_cut hb (by omega) (by omega)))]
      simp [flat_nil]
def ends (t : List (List Int)) (i : Nat) : List Int := (List.range (i + 1)).map fun j => ((flat (t.take j)).length : Int)
theorem ends_rd (t : List (List Int)) {i j : Nat} (h : j ≤ i) : rd (ends t i) (j : Int) = ((flat (t.take j)).length : Int) := by
  show (ends t i).getD (j : Int).toNat 0 = _
  rw [Int.toNat_natCast, List.getD_eq_getElem?_getD]
  unfold ends
  rw [List.getElem?_map, List.getElem?_range (by omega)]
  rfl
theorem ends_len (t : List (List Int)) (i : Nat) : (ends t i).length = i + 1 := by simp [ends]
theorem ends_succ (t : List (List Int)) (i : Nat) : ends t (i + 1) = ends t i ++ [((flat (t.take (i + 1))).length : Int)] := by
  unfold ends; rw [List.range_succ, List.map_append]; rfl
theorem live_ : firkinlaw03_live.f = some true := rfl
theorem flat_len : ∀ (t : List (List Int)), (∀ y ∈ t, y.length ≤ 200) → (flat t).length ≤ 214 * t.length
  | [], _ => by simp [flat_nil]
  | y :: t, h => by
    rw [flat_cons, List.length_append, List.length_cons]
    have h1 := frameL_len y (by have := h y (by simp); omega)
    have h2 := flat_len t (fun z hz => h z (by simp [hz]))
    have h3 := h y (by simp)
    omega
theorem flat_bytes {t : List (List Int)} (h : ∀ y ∈ t, IsBytes y) : IsBytes (flat t) := by
  intro x hx
  obtain ⟨l, hl, hx⟩ := List.mem_flatten.1 hx
  obtain ⟨y, hy, rfl⟩ := List.mem_map.1 hl
  exact frameL_bytes (h y hy) x hx
section
variable {t : List (List Int)} {c : Nat} (hn : t.length ≤ 20)
include hn
theorem fa_l1 (d : Nat) : ∀ (j k : Nat), j + d = cn t c → 60 + d < k → firkinlaw03_FrameAll.l1 k t (c : Int) (ends t t.length) (t.take (cn t c)) ((flat (t.take (cn t c))).length : Int) (j : Int) = some true := by
  obtain ⟨h1, h2, h3⟩ := cn_spec t c
  induction d with
  | zero =>
    intro j k hj hk
    obtain rfl : j = cn t c := by omega
    obtain ⟨k, rfl⟩ : ∃ m, k = m + 1 := ⟨k - 1, by omega⟩
    have hw : wrap64 ((cn t c : Int) + 1) = ((cn t c + 1 : Nat) : Int) := by rw [w64 (by omega) (by omega)]; omega
    have hfin : (if ((t.take (cn t c)).length : Int) = (cn t c : Int) then (if 0 ≤ (cn t c : Int) then (if (cn t c : Int) < ((ends t t.length).length : Int) then (if ((flat (t.take (cn t c))).length : Int) = (rd (ends t t.length) (cn t c : Int)) then (if (cn t c : Int) ≤ (t.length : Int) then ((firkinref03_Lists.f (t.take (cn t c)) (t.take (cn t c : Int).toNat)).bind fun t272 => (if t272 = true then ((firkinlaw03_live.f).bind fun t273 => (some t273)) else (some false))) else (none)) else (some false)) else (none)) else (none)) else (some false) : Option Bool) = some true := by
      rw [if_pos (by rw [List.length_take]; omega), if_pos (by omega), if_pos (by rw [ends_len]; omega), ends_rd t h1, if_pos rfl, if_pos (by omega), Int.toNat_natCast]
      unfold firkinref03_Lists.f
      rw [lists_self, Option.bind_some, if_pos rfl, live_]; rfl
    rw [firkinlaw03_FrameAll.l1, hw]
    by_cases hlast : cn t c = t.length
    · rw [if_neg (by rw [ends_len]; omega)]; exact hfin
    · have h4 : c < (flat (t.take (cn t c + 1))).length := h3.resolve_left hlast
      rw [if_pos (by rw [ends_len]; omega), if_pos (by omega), ends_rd t (by omega), if_neg (by omega)]; exact hfin
  | succ d ih =>
    intro j k hj hk
    obtain ⟨k, rfl⟩ : ∃ m, k = m + 1 := ⟨k - 1, by omega⟩
    have hw : wrap64 ((j : Int) + 1) = ((j + 1 : Nat) : Int) := by rw [w64 (by omega) (by omega)]; omega
    have h4 := h2 (j + 1) (by omega)
    rw [firkinlaw03_FrameAll.l1, hw, if_pos (by rw [ends_len]; omega), if_pos (by omega), ends_rd t (by omega), if_pos (by omega)]
    exact ih (j + 1) k (by omega) (by omega)
theorem fa_l0 (hb : ∀ y ∈ t, IsBytes y) (x1 : Int) (d : Nat) : ∀ (i k : Nat), i + d = t.length → (∀ y ∈ t.take i, y.length ≤ 200) → 30000000 + d < k → firkinlaw03_FrameAll.l0 k t x1 (flat (t.take i)) (ends t i) (i : Int) = some true := by
  induction d with
  | zero =>
    intro i k hi hs hk
    obtain rfl : i = t.length := by omega
    obtain ⟨k, rfl⟩ : ∃ m, k = m + 2 := ⟨k - 2, by omega⟩
    rw [List.take_length] at hs ⊢
    rw [firkinlaw03_FrameAll.l0, if_neg (by omega)]
    by_cases h0 : x1 < 0
    · rw [if_pos h0, firkinlaw03_FrameAll.j1, if_pos rfl, live_]; rfl
    rw [if_neg h0]
    by_cases h9 : x1 > ((flat t).length : Int)
    · rw [decide_eq_true h9, firkinlaw03_FrameAll.j1, if_pos rfl, live_]; rfl
    obtain ⟨c, rfl⟩ : ∃ c : Nat, x1 = (c : Int) := ⟨x1.toNat, by omega⟩
    have hfl := flat_len t hs
    have hall := all_is ((flat_bytes hb).take c) (by rw [List.length_take]; omega) c 0 [] k (by rw [List.length_take]; omega) (by omega) (by simp) (by omega)
    rw [List.drop_zero, gAll_cut t c c (fun y hy => ⟨hb y hy, hs y hy⟩) (by omega)] at hall
    rw [decide_eq_false h9, firkinlaw03_FrameAll.j1, if_neg (by decide), if_pos (by omega), if_pos (by omega), Int.toNat_natCast]
    unfold frame_All.f
    rw [show ((0 : Nat) : Int) = 0 from rfl] at hall
    rw [hall, Option.bind_some]
    simp only [List.nil_append, Nat.zero_add]
    exact fa_l1 hn (cn t c) 0 k (by omega) (by have := (cn_spec t c).1; omega)
  | succ d ih =>
    intro i k hi hs hk
    obtain ⟨k, rfl⟩ : ∃ m, k = m + 1 := ⟨k - 1, by omega⟩
    have hlt : i < t.length := by omega
    have hrd : rd_L4 t (i : Int) = t[i] := by unfold rd_L4; rw [Int.toNat_natCast, List.getD_eq_getElem?_getD, List.getElem?_eq_getElem hlt]; rfl
    rw [firkinlaw03_FrameAll.l0, if_pos (by omega), if_pos (by omega), hrd]
    by_cases hbig : (t[i].length : Int) > 200
    · rw [if_pos hbig, live_]; rfl
    have hti : t.take (i + 1) = t.take i ++ [t[i]] := by rw [List.take_succ_eq_append_getElem hlt]
    have hfl := flat_len _ hs
    rw [List.length_take] at hfl
    have hf1 := frameL_len t[i] (by omega)
    rw [if_neg hbig, put_is (hb _ (List.getElem_mem hlt)) (by omega) k (by omega), Option.bind_some, if_pos (by omega), Option.bind_some, if_pos (by rw [ends_len]; omega), ← flat_snoc, ← hti, ← ends_succ]
    rw [w64 (by omega) (by omega), show ((i : Int) + 1) = ((i + 1 : Nat) : Int) by omega]
    refine ih (i + 1) k (by omega) ?_ (by omega)
    intro y hy
    rw [hti] at hy
    rcases List.mem_append.1 hy with hy | hy
    · exact hs y hy
    · obtain rfl := List.mem_singleton.1 hy; omega
end
theorem FrameAll : ∀ (x0 : List (List Int)) (x1 : Int), (x0.length ≤ maxLen ∧ ∀ z ∈ x0, (z.length ≤ maxLen ∧ ∀ zz ∈ z, (Lit.int .u8 zz).wf = true)) → (Lit.int .i64 x1).wf = true → ∃ k, firkinlaw03_FrameAll.f k x0 x1 = some true := by
  intro x0 x1 h0 _
  have hb : ∀ y ∈ x0, IsBytes y := fun y hy x hx => byte_bounds ((h0.2 y hy).2 x hx)
  refine ⟨40000000, ?_⟩
  unfold firkinlaw03_FrameAll.f
  by_cases hl : (x0.length : Int) > 20
  · rw [if_pos hl, live_]; rfl
  rw [if_neg hl]
  exact fa_l0 (by omega) hb x1 x0.length 0 40000000 (by omega) (by simp) (by omega)
end Go.Proofs.Ythcmokglgepgjaa.True_
/- FrameAll: for every input the call returns true, and each argument reads behind the call as it read before it. No condition. -/
namespace Go.Proofs.Ythcmokglgepgjaa.frameAll
open Go.ChangeShapes Go.WideShapes Go.ChangeAt Go.RowKit Go.Proofs.Ythcmokglgepgjaa.Opens Go.Proofs.Ythcmokglgepgjaa.X Go.Proofs.YthcmokglgepgjaaW.PrintWords Go.Proofs.YthcmokglgepgjaaW.PrintLast Go.Proofs.YthcmokglgepgjaaW.PrintMore
open Go.ChangeMaps (open_string shut_string)
set_option linter.unusedVariables false
set_option linter.unusedSimpArgs false
theorem own : ownKnob Try.prog.godebug = none := by kernel_rfl
theorem laidOut : laidOutB Try.prog = true := by kernel_rfl
set_option maxRecDepth 100000 in
theorem lifted (os : Os) (started : os.Started) (H : Type) (enc : TypeId × Value → H) :
    ReturnsInHanded {} Try.checked os 6 .any (Rows.frameAllSpec.pre6 enc Try.prog Try.f6 Rows.frameAllRow.domain false) (Rows.frameAllSpec.post enc Try.prog Try.f6 false true false false) := by
  refine returnsInHanded_of_change_sized (C := Try.checked) own started (by kernel_rfl) Try.func6
    (ChangeSpec.witness6 (enc := enc) (C := Try.checked) false ⟨#[], #[.slice none 0 0, .int .i64 0], []⟩ 8 (by kernel_rfl) (by kernel_rfl) (by kernel_rfl) (by kernel_rfl)) ?_
  intro W base args ds gs before hval0 hW hcnd hsz0 _
  have hval : ∀ (j : Nat) t v, Try.f6.params[j]? = some t → args[j]? = some v → Value.okWide Try.prog W .any base t v := hval0
  have hW' := hW
  obtain ⟨p, q, hA0, hV, rfl, hfz, hnd⟩ := hW
  have hA : DataW.TrodAll enc Try.prog W 0 (fun _ => true) true Try.f6.params.toList args.toList ds p := hA0
  rw [Try.params6] at hA hval
  obtain ⟨v0, vs0, d0, ds0, p0, q0, hargs, rfl, rfl, h0, r0⟩ := trodAll_cons hA
  obtain ⟨v1, vs1, d1, ds1, p1, q1, rfl, rfl, rfl, h1, r1⟩ := trodAll_cons r0
  obtain ⟨rfl, rfl, rfl⟩ := trodAll_nil r1
  obtain rfl : args = #[v0, v1] := by cases args; simp_all
  obtain ⟨rfl, rfl⟩ := trodVars_none hV
  have k0 := h0
  have lt0 : ∀ x ∈ p0, x.block < W.heap.size := by obtain ⟨m, hm⟩ := k0; exact DataW.trod_lt m _ _ _ hm
  obtain ⟨x0, hk0, ok0⟩ := Opens.arg (Opens.slice Try.underlying34 (by kernel_rfl) (Opens.slice Try.underlying22 (by kernel_rfl) (Opens.int Try.underlying5 (by kernel_rfl)))) h0
  obtain ⟨a0, len0, cap0, rfl⟩ := okWide_slice Try.underlying34 (hval 0 34 v0 rfl rfl)
  obtain ⟨A0, c0, hcs0, hc0, hr0⟩ := hk0
  simp only [Value.cells] at hcs0
  injection hcs0 with hcs0 _
  injection hcs0 with e1_0 e2_0 e3_0
  subst e1_0 e2_0 e3_0
  have k1 := h1
  have lt1 : ∀ x ∈ p1, x.block < W.heap.size := by obtain ⟨m, hm⟩ := k1; exact DataW.trod_lt m _ _ _ hm
  obtain ⟨x1, hk1, ok1⟩ := Opens.arg (Opens.int Try.underlying3 (by kernel_rfl)) h1
  obtain ⟨y1, rfl⟩ := okWide_int Try.underlying3 (hval 1 3 v1 rfl rfl)
  injection (show _ = [_] from hk1) with e1 _
  injection e1 with e1a e1
  subst e1
  clear hA0 hval0 hsz0
  obtain ⟨k, h⟩ := True_.FrameAll x0 y1 ok0 ok1
  refine (firkinlaw03_FrameAll.calls k _ _ x0 y1 true W hr0 hc0 h).mono fun e W' ⟨he, bel0⟩ => ?_
  have bel : Below W.heap.size W W' := bel0
  subst he
  exact ⟨_, rfl, _, _, _, [], _, [], hW', trodAll_mk1 (shut_bool Try.underlying4 _), (trodAll_cons_mk (Below.trod laidOut (by kernel_rfl) (of_decide_eq_true (by kernel_rfl)) k0 bel lt0) (trodAll_cons_mk (Below.trod laidOut (by kernel_rfl) (of_decide_eq_true (by kernel_rfl)) k1 bel lt1) trodAll_mk0)), rfl, bel.frame _, fun h => by cases h⟩
theorem over : Rows.frameAllRow.holds Try.pinned (OpenSpec.ofChange Rows.frameAllSpec) :=
  OpenClaim.holds_of_wide 6 Try.f6 rfl rfl rfl rfl rfl rfl rfl ⟨rfl, rfl, rfl, rfl, rfl⟩ rfl rfl rfl rfl rfl (by kernel_rfl) Try.func6 (by kernel_rfl)
    (of_decide_eq_true (by kernel_rfl)) (by unfold Func.isWrapper; first | (rw [if_pos (by decide +kernel)]; kernel_rfl) | (rw [if_neg (by decide +kernel)]; exact ⟨rfl, rfl⟩))
    (fun os started H enc _ => lifted os started H enc)
theorem proved : Rows.FrameAllSaid := over
end Go.Proofs.Ythcmokglgepgjaa.frameAll
namespace Go.Proofs.Ythcmokglgepgjaa
/-- The row, under a short name, for the claim. -/
theorem frameAll_holds : Rows.FrameAllSaid := frameAll.proved
end Go.Proofs.Ythcmokglgepgjaa
