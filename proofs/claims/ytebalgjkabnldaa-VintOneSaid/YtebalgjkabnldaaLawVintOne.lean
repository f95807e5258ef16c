/- The law VintOne, walked: bytes that are read as a number are just its own. -/
import Derived.Test.YtebalgjkabnldaaX9
import Derived.Test.YtebalgjkabnldaaX9
import Derived.Test.YtebalgjkabnldaaSrcFrom
import Derived.Test.YtebalgjkabnldaaVintLive
import Derived.Test.YtebalgjkabnldaaRound
import Derived.Lib.Hide
namespace Go.Proofs.Ytebalgjkabnldaa.X
open Go.RowKit Go.Proofs.YtebalgjkabnldaaW.PrintWords Go.Proofs.YtebalgjkabnldaaW.PrintLast Go.Proofs.YtebalgjkabnldaaW.PrintMore
set_option linter.unusedVariables false
set_option linter.unusedSimpArgs false
open Go.Proofs.Ytebalgjkabnldaa.Dec Go.Proofs.Ytebalgjkabnldaa.Enc Go.Proofs.Ytebalgjkabnldaa.Round
def firkinlaw01_VintOne.f (l0 : List Int) : Option Bool := if IsBytes l0 then some true else none
theorem srcInt_is (l : List Int) (hf : Fit l) : vint_Source_Int.f l false = some (if szS 0 l = 0 then (0, [], true) else (zag (valS 0 (l.take (szS 0 l))), l.drop (szS 0 l), false)) := by
  unfold vint_Source_Int.f vint_Source_Num.f
  rw [if_pos hf, Option.bind_some]
  unfold numS
  rw [if_neg (by decide)]
  by_cases h : szS 0 l = 0
  · rw [if_pos h, if_pos h]
    have e := int_val 0 (by decide)
    show some (Go.bits .xor .i64 (wrap64 (((0 : Nat) : Int) / 2)) (wrap64 (-(wrap64 (Go.bits .and .u64 ((0 : Nat) : Int) 1)))), ([] : List Int), true) = _
    rw [e]; rfl
  · rw [if_neg h, if_neg h]
    have hv := val_lt hf.1 (Nat.le_refl (szS 0 l))
    have e := int_val _ hv
    rw [e]
theorem srcNum_is (l : List Int) (hf : Fit l) : vint_Source_Num.f l false = some (if szS 0 l = 0 then (0, [], true) else (((valS 0 (l.take (szS 0 l)) : Nat) : Int), l.drop (szS 0 l), false)) := by
  unfold vint_Source_Num.f numS
  rw [if_pos hf, if_neg (by decide)]
set_option maxHeartbeats 8000000 in
set_option maxRecDepth 100000 in
theorem firkinlaw01_VintOne.calls (A0 : Option Addr) (c0 : Nat) (l0 : List Int) (r : Bool) (w : World) (hr0 : Kd.C (Kd.int .u8) w A0 l0.length l0) (hc0 : l0.length ≤ c0) (h : firkinlaw01_VintOne.f l0 = some r) :
    Calls Try.prog 10 #[.slice A0 l0.length c0] w fun e w' => e = .returned (.bool r) ∧ Below w.heap.size w w' := by
  unfold firkinlaw01_VintOne.f at h
  by_cases hb : IsBytes l0
  case neg => rw [if_neg hb] at h; cases h
  rw [if_pos hb] at h
  obtain rfl := Option.some.inj h
  clear h
  by_cases hl : 400 < l0.length
  · have hl' : decide (400 < l0.length) = true := decide_eq_true hl
    go_enter Try.func10, Try.ntmps10
    go_wp2_with fail
    refine (firkinlaw01_live.calls true _ rfl).mono ?_
    rintro e w1 ⟨rfl, hb1⟩
    go_wp2_with fail
    go_ret
    exact ⟨rfl, hb1⟩
  have hl' : decide (400 < l0.length) = false := decide_eq_false hl
  have hf : Fit l0 := ⟨hb, by omega⟩
  have hN := srcNum_is l0 hf
  have hI := srcInt_is l0 hf
  by_cases hz : szS 0 l0 = 0
  · rw [if_pos hz] at hN hI
    have HN := Lib.hid hN
    have HI := Lib.hid hI
    clear hN hI hz
    go_enter Try.func10, Try.ntmps10
    go_wp2_with fail
    refine (vint_From.calls2 A0 c0 l0 w w (Below.refl _ _) hr0 hc0).mono ?_
    rintro e w1 ⟨g, rfl, s1, B1, b1, _⟩
    go_wp2_with fail
    refine (vint_From.calls2 A0 c0 l0 w w1 B1 hr0 hc0).mono ?_
    rintro e w2 ⟨g2, rfl, t2, B2, b2, hg2⟩
    have hne : g2 ≠ g := by have := IsS92.lt s1; omega
    have s2 := IsS92.below s1 b2
    clear s1 B1 b1 b2 hg2
    go_wp2_with fail
    refine (vint_Source_Num.calls g l0 false 0 [] true w w2 s2 B2 HN.out).mono ?_
    rintro e w3 ⟨rfl, s3, B3, K3⟩
    have t3 := IsS92.keep t2 K3 hne
    clear s2 t2 B2 K3
    go_wp2_with fail
    refine (vint_Source_Int.calls g2 l0 false 0 [] true w w3 t3 B3 HI.out).mono ?_
    rintro e w4 ⟨rfl, t4, B4, K4⟩
    have s4 := IsS92.keep s3 K4 (Ne.symm hne)
    clear s3 t3 B3 K4
    go_wp2_with fail
    refine (vint_Source_Ok.calls g [] true false [] true w w4 s4 B4 rfl).mono ?_
    rintro e w5 ⟨rfl, s5, B5, K5⟩
    have t5 := IsS92.keep t4 K5 hne
    clear s4 t4 B4 K5
    go_wp2_with fail
    refine (vint_Source_Ok.calls g2 [] true false [] true w w5 t5 B5 rfl).mono ?_
    rintro e w6 ⟨rfl, t6, B6, K6⟩
    clear s5 t5 B5 K6
    go_wp2_with fail
    refine (firkinlaw01_live.calls true _ rfl).mono ?_
    rintro e w7 ⟨rfl, b7⟩
    go_wp2_with fail
    go_ret
    exact ⟨rfl, below_step B6 b7⟩
  · rw [if_neg hz] at hN hI
    have hv := val_lt hb (Nat.le_refl (szS 0 l0))
    have hle := szS_le l0 0 (by decide)
    have hen := enc_num hb hz
    have hzr := zag_range hv
    have h1 := num_is _ hv 20 (by decide)
    have h2 := int_is _ hzr.1 hzr.2 20 (by decide)
    rw [zig_zag] at h2
    rw [hen] at h1 h2
    have hol : (l0.take (szS 0 l0)).length = szS 0 l0 := by rw [List.length_take]; omega
    have hrl : (l0.drop (szS 0 l0)).length = l0.length - szS 0 l0 := List.length_drop
    have hto : l0.take (l0.take (szS 0 l0)).length = l0.take (szS 0 l0) := by rw [hol]
    have hle2 : (l0.take (szS 0 l0)).length ≤ l0.length := by omega
    have hle3 : decide ((l0.take (szS 0 l0)).length ≤ l0.length) = true := decide_eq_true hle2
    have hcap : (l0.take (szS 0 l0)).length ≤ c0 := by omega
    have hleft : (((l0.drop (szS 0 l0)).length : Int) == (l0.length : Int) - ((l0.take (szS 0 l0)).length : Int)) = true := by rw [beq_iff_eq]; omega
    clear hen hol hrl hle hzr hv hz hb
    generalize l0.take (szS 0 l0) = o at *
    generalize l0.drop (szS 0 l0) = rest at *
    generalize valS 0 o = v at *
    have HN := Lib.hid hN
    have HI := Lib.hid hI
    have H1 := Lib.hid h1
    have H2 := Lib.hid h2
    have HTO := Lib.hid hto
    clear hN hI h1 h2 hto hf
    generalize zag v = z at *
    go_enter Try.func10, Try.ntmps10
    go_wp2_with fail
    refine (vint_From.calls2 A0 c0 l0 w w (Below.refl _ _) hr0 hc0).mono ?_
    rintro e w1 ⟨g, rfl, s1, B1, b1, _⟩
    go_wp2_with fail
    refine (vint_From.calls2 A0 c0 l0 w w1 B1 hr0 hc0).mono ?_
    rintro e w2 ⟨g2, rfl, t2, B2, b2, hg2⟩
    have hne : g2 ≠ g := by have := IsS92.lt s1; omega
    have s2 := IsS92.below s1 b2
    clear s1 B1 b1 b2 hg2
    go_wp2_with fail
    refine (vint_Source_Num.calls g l0 false v rest false w w2 s2 B2 HN.out).mono ?_
    rintro e w3 ⟨rfl, s3, B3, K3⟩
    have t3 := IsS92.keep t2 K3 hne
    clear s2 t2 B2 K3
    go_wp2_with fail
    refine (vint_Source_Int.calls g2 l0 false z rest false w w3 t3 B3 HI.out).mono ?_
    rintro e w4 ⟨rfl, t4, B4, K4⟩
    have s4 := IsS92.keep s3 K4 (Ne.symm hne)
    clear s3 t3 B3 K4
    go_wp2_with fail
    refine (vint_Source_Ok.calls g rest false true rest false w w4 s4 B4 rfl).mono ?_
    rintro e w5 ⟨rfl, s5, B5, K5⟩
    clear s4 t4 B4 K5
    go_wp2_with fail
    refine (vint_Num.calls 20 v o w5 H1.out).mono ?_
    rintro e w6 ⟨v6, rfl, R6, b6⟩
    go_wp2_with fail
    refine (vint_Int.calls 20 z o w6 H2.out).mono ?_
    rintro e w7 ⟨v7, rfl, R7, b7⟩
    have R6' := Kd.R_below R6 b7
    obtain ⟨A6, c6, rfl, hc6, C6⟩ := Kd.R_reads R6'
    obtain ⟨A7, c7, rfl, hc7, C7⟩ := Kd.R_reads R7
    have s7 := IsS92.below (IsS92.below s5 b6) b7
    have B7 := below_step (below_step B5 b6) b7
    have C0 := Kd.C_take (m := o.length) (Kd.C_below hr0 B7) hle2
    rw [HTO.out] at C0
    clear s5 B5 R6 b6 R7 R6' b7
    go_wp2_with fail
    refine (firkinref01_Same.calls A0 c0 o A6 c6 o true _ C0 hcap C6 hc6 (by unfold firkinref01_Same.f; simp)).mono ?_
    rintro e w8 ⟨rfl, ⟨n8, rfl⟩⟩
    go_wp2_with fail
    refine (firkinref01_Same.calls A7 c7 o A6 c6 o true _ (Kd.C_below C7 (pw_below_drewN (Below.refl _ _) n8)) hc7 (Kd.C_below C6 (pw_below_drewN (Below.refl _ _) n8)) hc6 (by unfold firkinref01_Same.f; simp)).mono ?_
    rintro e w9 ⟨rfl, ⟨n9, rfl⟩⟩
    go_wp2_with fail
    refine (vint_Source_Left.calls g rest false (rest.length : Int) rest false w _ (IsS92.drewN s7 (n8 + n9)) (pw_below_drewN B7 (n8 + n9)) (by unfold vint_Source_Left.f vint_Source_Ok.f; rfl)).mono ?_
    rintro e w10 ⟨rfl, s10, B10, K10⟩
    go_wp2_with fail
    refine (firkinlaw01_live.calls true _ rfl).mono ?_
    rintro e w11 ⟨rfl, b11⟩
    go_wp2_with fail
    go_ret
    exact ⟨rfl, below_step B10 b11⟩
end Go.Proofs.Ytebalgjkabnldaa.X
