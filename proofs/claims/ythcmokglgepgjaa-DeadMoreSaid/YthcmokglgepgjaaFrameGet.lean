/- The contract of frame.Get: the bytes of the frame that bytes begin with, how many bytes that has, and an error's number. -/
import Derived.Test.YthcmokglgepgjaaX3
import Derived.Test.YthcmokglgepgjaaX6
import Derived.Test.YthcmokglgepgjaaX7
import Derived.Test.YthcmokglgepgjaaSrcTake
import Derived.Test.YthcmokglgepgjaaSrcFrom
import Derived.Test.YthcmokglgepgjaaSrcOk
import Derived.Test.YthcmokglgepgjaaSrcSame
import Derived.Test.YthcmokglgepgjaaMem2
import Derived.Deep.RegionWith
import Derived.Deep.RegionHeld3
import Derived.Lib.Hide
namespace Go.Proofs.Ythcmokglgepgjaa.X
open Go.RowKit Go.Proofs.YthcmokglgepgjaaW.PrintWords Go.Proofs.YthcmokglgepgjaaW.PrintLast Go.Proofs.YthcmokglgepgjaaW.PrintMore
set_option linter.unusedVariables false
set_option linter.unusedSimpArgs false
def frame_Get.f (k : Nat) (l0 : List Int) : Option (List Int × Int × Int) := (vint_From.f l0).bind fun bt148 => ((vint_Source_Below.f bt148.1 bt148.2 1048577).bind fun bt151 => ((vint_Source_Take.f bt151.2.1 bt151.2.2 4).bind fun bt154 => ((vint_Source_Take.f bt154.2.1 bt154.2.2 bt151.1).bind fun bt159 => ((vint_Source_Ok.f bt159.2.1 bt159.2.2).bind fun bt164 => (if bt164.1 = true then ((frame_sumOf.f k bt159.1).bind fun t167 => (if (strOfNums bt154.1).toList = (strOfNums t167).toList then ((vint_Source_Left.f bt164.2.1 bt164.2.2).bind fun bt170 => (some (bt159.1, wrap64 ((l0.length : Int) - bt170.1), 0))) else (some (([] : List Int), 0, 13)))) else (some (([] : List Int), 0, 2)))))))
theorem frame_Get.mono : ∀ a0 k, LeO (frame_Get.f k a0) (frame_Get.f (k + 1) a0) := by
  intro a0 k
  unfold frame_Get.f
  repeat' first
      | (with_reducible exact frame_sumOf.mono _ _)
      | (with_reducible exact LeO.refl _)
      | (with_reducible exact LeO.none _)
      | (with_reducible refine LeO.ite ?_ ?_)
      | (with_reducible refine LeO.bind ?_ (fun _ => ?_))
      | exact frame_sumOf.mono _ _
set_option maxHeartbeats 8000000 in
set_option maxRecDepth 100000 in
theorem frame_Get.calls (k : Nat) (A0 : Option Addr) (c0 : Nat) (l0 : List Int) (r1 : List Int) (r2 : Int) (r3 : Int) (w : World) (hr0 : Kd.C (Kd.int .u8) w A0 l0.length l0) (hc0 : l0.length ≤ c0) (h : frame_Get.f k l0 = some (r1, r2, r3)) :
    Calls Try.prog 15 #[.slice A0 l0.length c0] w fun e w' => ∃ v0_ : Value, e = .returned (.tuple #[v0_, .int .i64 r2, .int .i64 r3]) ∧ Kd.R (Kd.int .u8) 5 w' w.heap.size (fun _ => True) v0_ r1 ∧ Below w.heap.size w w' := by
  unfold frame_Get.f at h
  obtain ⟨⟨t0, b0⟩, e0, h⟩ := Option.bind_eq_some_iff.mp h
  obtain ⟨rfl, rfl⟩ : l0 = t0 ∧ false = b0 := by unfold vint_From.f at e0; injection e0 with e0; injection e0 with e1 e2; exact ⟨e1, e2⟩
  obtain ⟨⟨n, l1, b1⟩, e1, h⟩ := Option.bind_eq_some_iff.mp h
  obtain ⟨⟨s, l2, b2⟩, e2, h⟩ := Option.bind_eq_some_iff.mp h
  obtain ⟨⟨x, l3, b3⟩, e3, h⟩ := Option.bind_eq_some_iff.mp h
  obtain ⟨⟨ok, l4, b4⟩, e4, h⟩ := Option.bind_eq_some_iff.mp h
  have HH := Aside0.mk h
  have E1 := Aside0.mk e1
  have E2 := Aside0.mk e2
  have E3 := Aside0.mk e3
  have E4 := Aside0.mk e4
  have HR0 := Aside0.mk hr0
  have hm0 := Kd.C_max hr0
  clear h e0 e1 e2 e3 e4 hr0
  go_enter Try.func15, Try.ntmps15
  go_wp2_with fail
  refine (vint_From.calls2 A0 c0 l0 w w (Below.refl _ _) HR0.out hc0).mono ?_
  rintro e w1 ⟨g, rfl, s1, B1, b1', hgw⟩
  go_wp2_with fail
  refine (vint_Source_Below.calls g l0 false 1048577 n l1 b1 w _ s1 B1 E1.out).mono ?_
  rintro e w2 ⟨rfl, s2, B2, K2⟩
  clear s1 B1 b1' K2
  go_wp2_with fail
  refine (vint_Source_Take.calls g l1 b1 4 s l2 b2 w _ s2 B2 E2.out).mono ?_
  rintro e w3 ⟨v3, rfl, R3, s3, B3, K3⟩
  have hg2 := IsS90.lt s2
  have R3' := Kd.R_bound R3
  clear s2 K3
  go_wp2_with fail
  refine (vint_Source_Take.calls g l2 b2 n x l3 b3 w _ s3 B3 E3.out).mono ?_
  rintro e w4 ⟨v4, rfl, R4, s4, B4, K4⟩
  have hg3 := IsS90.lt s3
  have R3'' := Kd.R_keep R3' K4 (fun k hk => by have := hk.2.1; omega)
  have HR3 := Aside0.mk (Kd.R_bound R3'')
  have HR4 := Aside0.mk (Kd.R_lower (Kd.R_mono (ok' := fun k_ => k_ ≠ g) (Kd.R_bound R4) (fun k hk => by have := hk.2.1; omega)) (below_size B3))
  have HB2 := Aside0.mk (below_size B2)
  clear s3 B3 K4 R3 R3' R3'' R4 B2 hg2 hg3
  go_wp2_with fail
  refine (vint_Source_Ok.same g l3 b3 w _ s4).mono ?_
  rintro e w5 ⟨rfl, rfl⟩
  obtain ⟨rfl, rfl, rfl⟩ : (!b3) = ok ∧ l3 = l4 ∧ b3 = b4 := by have e4 := E4.out; unfold vint_Source_Ok.f at e4; injection e4 with e4; injection e4 with e5 e4; injection e4 with e6 e7; exact ⟨e5, e6, e7⟩
  have HB4 := Aside0.mk (below_step (Below.refl _ _) B4)
  cases b3 with
  | true =>
    have h := HH.out
    simp only [Bool.not_true, Bool.false_eq_true, if_false, Option.some.injEq, Prod.mk.injEq] at h
    obtain ⟨rfl, rfl, rfl⟩ := h
    go_wp2_with fail
    go_ret3
    exact ⟨_, rfl, Kd.R_nil _ _ _ _ _, B4⟩
  | false =>
    have h := HH.out
    simp only [Bool.not_false, if_true] at h
    obtain ⟨t, e5, h⟩ := Option.bind_eq_some_iff.mp h
    have E5 := Aside0.mk e5
    have HH2 := Aside0.mk h
    obtain ⟨A3, c3, rfl, hc3, C3⟩ := Kd.R_reads HR3.out
    obtain ⟨A4, c4, rfl, hc4, C4⟩ := Kd.R_reads HR4.out
    have HV4 : Aside0 (Kd.V (Kd.int .u8) 5 w5.drew w5.drew.heap.size (fun k_ => k_ < w5.heap.size) (.slice A4 x.length c4) x) := ⟨Kd.V_mk hc4 (Kd.F_drew (Kd.C_F (Kd.heap_int .u8) C4))⟩
    have HCV : Aside0 (∀ W, Below w5.heap.size w5 W → (convert 22 9 (.slice A3 s.length c3)).run Try.prog W = .ok (.string (strOfNums s)) W) := ⟨fun W hW => string_of_reads Try.underlying22 Try.underlying5 Try.underlying9 (readsInt_of.mpr (Kd.reads_of_C (Kd.C_below C3 hW)))⟩
    have HBD : Aside0 (Below w5.heap.size w5 w5.drew) := ⟨below_drew (Below.refl _ _)⟩
    clear h e5 HH C3 C4
    go_upto_region 7 with (fail)
    have hcvA := HCV.out _ HBD.out
    go_cut [22] (fun v22 wx => v22 = .bool (!((strOfNums s).toList == (strOfNums t).toList)) ∧ Aside0 (Below w5.heap.size w5 wx))
    case first =>
      go_region_with ((go_at_call 42; refine (frame_sumOf.calls k (fun k_ => k_ < w5.heap.size) A4 c4 x t _ HV4.out E5.out).mono ?_; rintro e w6 ⟨v6, rfl, R6, b6⟩; obtain ⟨A6, c6, rfl, hc6, C6⟩ := Kd.R_reads R6; have hcv6 := string_of_reads Try.underlying22 Try.underlying5 Try.underlying9 (c := c6) (readsInt_of.mpr (Kd.reads_of_C (d := (0 : Int)) C6)); have hcvB := HCV.out _ (below_step HBD.out b6); have HB9 := Aside0.mk (below_step HBD.out b6); clear R6 C6 b6))
      all_goals
        go_wp2_with fail
        go_meet
        case rel => exact ⟨rfl, HB9⟩
    case rest =>
    obtain ⟨rfl, HBX⟩ := hcut
    have HB6 := Aside0.mk (below_step B4 HBX.out)
    have s6 := IsS90.below s4 HBX.out
    by_cases he : (strOfNums s).toList = (strOfNums t).toList
    · have h := HH2.out
      rw [if_pos he] at h
      obtain ⟨⟨m, l5, b5⟩, e6, h⟩ := Option.bind_eq_some_iff.mp h
      simp only [Option.some.injEq, Prod.mk.injEq] at h
      obtain ⟨rfl, rfl, rfl⟩ := h
      have E6 := Aside0.mk e6
      have hb1 : ((strOfNums s).toList == (strOfNums t).toList) = true := by rw [he]; exact beq_self_eq_true _
      have hb2 : ((strOfNums s).toList != (strOfNums t).toList) = false := by rw [he]; simp
      rw [hb1]
      clear e6 he hb1 hb2
      go_wp2_with fail
      refine (vint_Source_Left.calls g l3 false m l5 b5 w _ s6 HB6.out E6.out).mono ?_
      rintro e w7 ⟨rfl, s7, B7, K7⟩
      have R7 := Kd.R_mono (ok' := fun _ => True) (Kd.R_keep (Kd.R_below HR4.out HBX.out) K7 (fun k hk => hk)) (fun _ _ => trivial)
      go_wp2_with fail
      go_ret3
      exact ⟨_, rfl, R7, B7⟩
    · have h := HH2.out
      rw [if_neg he] at h
      simp only [Option.some.injEq, Prod.mk.injEq] at h
      obtain ⟨rfl, rfl, rfl⟩ := h
      have hb1 : ((strOfNums s).toList == (strOfNums t).toList) = false := beq_eq_false_iff_ne.mpr he
      have hb2 : ((strOfNums s).toList != (strOfNums t).toList) = true := by rw [bne_iff_ne]; exact he
      rw [hb1]
      clear he hb1 hb2
      go_wp2_with fail
      go_ret3
      exact ⟨_, rfl, Kd.R_nil _ _ _ _ _, HB6.out⟩
end Go.Proofs.Ythcmokglgepgjaa.X
