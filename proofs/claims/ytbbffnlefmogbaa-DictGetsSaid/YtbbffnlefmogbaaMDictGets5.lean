/- DictGets: for every input the call returns true, and each argument reads behind the call as it read before it. No condition. (Part 6 of 7: this session's texts, laid together by wip/merge.py.) -/
import Derived.Test.YtbbffnlefmogbaaX0
import Derived.Test.YtbbffnlefmogbaaEnc0
import Derived.Test.YtbbffnlefmogbaaRound
import Derived.Test.YtbbffnlefmogbaaWf
import Derived.Test.YtbbffnlefmogbaaMDictGets0
import Derived.Test.YtbbffnlefmogbaaMDictGets1
import Derived.Test.YtbbffnlefmogbaaMDictGets2
import Derived.Test.YtbbffnlefmogbaaMDictGets4
-- Printed for this claim by a program of this session (wip/xprint.py) over the kit's printer; Lean checks it.
namespace Go.Proofs.Ytbbffnlefmogbaa.X
open Go.RowKit Go.Proofs.YtbbffnlefmogbaaW.PrintWords Go.Proofs.YtbbffnlefmogbaaW.PrintLast Go.Proofs.YtbbffnlefmogbaaW.PrintMore
attribute [local go_sem] max2_int min2_int max_two min_two max_three min_three max_four min_four   -- for this text's walks alone
set_option linter.unusedVariables false
set_option linter.unusedSimpArgs false

/-! ### firkinlaw08_DictGets: function 8 -/
def firkinlaw08_DictGets.j0 : Nat → List Int → Int → Int → Bool → Option (Bool)
  | 0, _, _, _, _ => none
  | k + 1, x0, x1, x2, x17 => if x17 = true then ((firkinlaw08_live.f k).bind fun t409 => (some t409)) else ((dict_Get.f k x0 x1 x2).bind fun bt410 => ((firkinref08_Get.f k x0 x1 x2).bind fun bt414 => (if (bt410.2 == bt414.2) = true then ((firkinref01_Names.f k bt410.1 bt414.1).bind fun t418 => (if t418 = true then ((firkinlaw08_live.f k).bind fun t419 => (some t419)) else (some false))) else (some false))))
def firkinlaw08_DictGets.f (k : Nat) (l0 : List Int) (a1 : Int) (a2 : Int) : Option (Bool) := if (l0.length : Int) > 400 then (firkinlaw08_DictGets.j0 k l0 a1 a2 true) else (firkinlaw08_DictGets.j0 k l0 a1 a2 (decide (a1 > 400)))
theorem firkinlaw08_DictGets.mono_l : ∀ k, (∀ y0 y1 y2 y3, LeO (firkinlaw08_DictGets.j0 k y0 y1 y2 y3) (firkinlaw08_DictGets.j0 (k + 1) y0 y1 y2 y3))
  | 0 => fun _ _ _ _ r h => by simp [firkinlaw08_DictGets.j0] at h
  | k + 1 => by
    have ih0 := firkinlaw08_DictGets.mono_l k
    · intro y0 y1 y2 y3
      unfold firkinlaw08_DictGets.j0
      repeat' first
      | (with_reducible exact ih0 _ _ _ _)
      | (with_reducible exact dict_Get.mono _ _ _ _)
      | (with_reducible exact firkinlaw08_live.mono _)
      | (with_reducible exact firkinref01_Names.mono _ _ _)
      | (with_reducible exact firkinref08_Get.mono _ _ _ _)
      | (with_reducible exact LeO.refl _)
      | (with_reducible exact LeO.none _)
      | (with_reducible refine LeO.ite ?_ ?_)
      | (with_reducible refine LeO.bind ?_ (fun _ => ?_))
      | exact ih0 _ _ _ _
      | exact dict_Get.mono _ _ _ _
      | exact firkinlaw08_live.mono _
      | exact firkinref01_Names.mono _ _ _
      | exact firkinref08_Get.mono _ _ _ _
      | exact LeO.none _
      | refine LeO.ite ?_ ?_
      | refine LeO.bind ?_ (fun _ => ?_)
theorem firkinlaw08_DictGets.mono : ∀ a0 a1 a2 k, LeO (firkinlaw08_DictGets.f k a0 a1 a2) (firkinlaw08_DictGets.f (k + 1) a0 a1 a2) := by
  intro a0 a1 a2 k
  have ih0 := firkinlaw08_DictGets.mono_l k
  unfold firkinlaw08_DictGets.f
  repeat' first
      | (with_reducible exact ih0 _ _ _ _)
      | (with_reducible exact dict_Get.mono _ _ _ _)
      | (with_reducible exact firkinlaw08_live.mono _)
      | (with_reducible exact firkinref01_Names.mono _ _ _)
      | (with_reducible exact firkinref08_Get.mono _ _ _ _)
      | (with_reducible exact LeO.refl _)
      | (with_reducible exact LeO.none _)
      | (with_reducible refine LeO.ite ?_ ?_)
      | (with_reducible refine LeO.bind ?_ (fun _ => ?_))
      | exact ih0 _ _ _ _
      | exact dict_Get.mono _ _ _ _
      | exact firkinlaw08_live.mono _
      | exact firkinref01_Names.mono _ _ _
      | exact firkinref08_Get.mono _ _ _ _
      | exact LeO.none _
      | refine LeO.ite ?_ ?_
      | refine LeO.bind ?_ (fun _ => ?_)
set_option maxHeartbeats 8000000 in
set_option maxRecDepth 100000 in
theorem firkinlaw08_DictGets.calls (k : Nat) (A0 : Option Addr) (c0 : Nat) (l0 : List Int) (a1 : Int) (a2 : Int) (r : Bool) (w : World) (hr0 : Kd.C (Kd.int .u8) w A0 l0.length l0) (hc0 : l0.length ≤ c0) (h : firkinlaw08_DictGets.f k l0 a1 a2 = some r) :
    Calls Try.prog 8 #[.slice A0 l0.length c0, .int .i64 a1, .int .i64 a2] w fun e w' => e = .returned (.bool r) ∧ Below w.heap.size w w' := by
  have HR0 := Aside0.mk hr0
  have HC0 := Aside0.mk hc0
  clear hr0 hc0
  have HB := Aside0.mk (Below.refl w.heap.size w)
  have H : (if (l0.length : Int) > 400 then (firkinlaw08_DictGets.j0 k l0 a1 a2 true) else (firkinlaw08_DictGets.j0 k l0 a1 a2 (decide (a1 > 400)))) = some r := h
  clear h
  have HC4 := Aside0.mk H
  clear H
  go_enter Try.func8, Try.ntmps8
  go_upto_region 1 with (fail)
  go_cut [17] (fun v17 wc => ∃ (kq : Nat) (x17_3 : Bool), v17 = .bool x17_3 ∧ Aside0 (firkinlaw08_DictGets.j0 kq l0 a1 a2 x17_3 = some r) ∧ Aside0 (kq ≤ k) ∧ Aside0 (Below w.heap.size w wc))
  case first =>
    have H := HC4.out
    clear HC4
    by_cases c5 : (l0.length : Int) > 400
    · rw [if_pos c5] at H
      have c5b0 : decide (400 < (l0.length : Int)) = true := decide_eq_true c5
      have c5b1 : decide (400 < l0.length) = true := decide_eq_true (by omega)
      clear c5
      (first | rw [c5b0] | (simp only [i64_w, i32_w]; rw [c5b0]) | skip)
      have H' := Aside0.mk H
      clear H
      go_wp2
      go_meet
      case rel => exact ⟨_, (true), (by first | rfl | (simp; done) | (simp [*]; done)), H', ⟨by first | omega | exact Nat.le_refl _⟩, ⟨by repeat (first | (with_reducible first | exact HB.out | apply below_alloc | apply pw_below_drewN | apply below_drew1) | exact HB.out)⟩⟩
    · rw [if_neg c5] at H
      have c5b0 : decide (400 < (l0.length : Int)) = false := decide_eq_false c5
      have c5b1 : decide (400 < l0.length) = false := decide_eq_false (by omega)
      clear c5
      (first | rw [c5b0] | (simp only [i64_w, i32_w]; rw [c5b0]) | skip)
      have H' := Aside0.mk H
      clear H
      go_wp2
      go_meet
      case rel => exact ⟨_, (decide (a1 > 400)), (by first | rfl | (simp; done) | (simp [*]; done)), H', ⟨by first | omega | exact Nat.le_refl _⟩, ⟨by repeat (first | (with_reducible first | exact HB.out | apply below_alloc | apply pw_below_drewN | apply below_drew1) | exact HB.out)⟩⟩
  case rest =>
    clear HC4
    try clear p2
    try clear c5
    try clear c5b0
    try clear c5b1
    obtain ⟨kq, x17_3, rfl, HA, HJ3, HB⟩ := hcut
    cases kq with
    | zero => exact absurd HA.out (by simp [firkinlaw08_DictGets.j0])
    | succ kj3 =>
      have H := HA.out
      clear HA
      simp only [firkinlaw08_DictGets.j0] at H
      by_cases c6 : x17_3 = true
      · subst c6
        have H1 : ((firkinlaw08_live.f kj3).bind fun t409 => (some t409)) = some r := by rw [if_pos rfl] at H; exact H
        clear H
        have H := H1
        clear H1
        replace H := Option.bind_eq_some_iff.mp H
        obtain ⟨t409, A70, H⟩ := H
        replace H : (some t409) = some r := H
        have A7 := Aside0.mk A70
        clear A70
        obtain rfl := Option.some.inj H
        go_wp2_with (first | ((with_reducible refine gate_callee (f := 30) rfl ?_); refine goesL_ (some 18) rfl rfl Try.func30 (by kernel_rfl) rfl #[] rfl (by (try simp only [List.map_toArray, List.map_cons, List.map_nil]); first | done | rfl | (simp only [List.length_drop, List.length_take]; rfl)) ?_; (with_reducible refine (firkinlaw08_live.calls kj3  t409 _ A7.out).mono ?_); rintro e w8 ⟨rfl, hb⟩; refine ⟨_, rfl, ?_⟩; have n0_ := Aside0.mk (below_step (by repeat (first | (with_reducible first | exact HB.out | apply below_alloc | apply pw_below_drewN | apply below_drew1) | exact HB.out)) hb); clear HB; have HB := n0_; clear n0_; (try clear hb); (try clear hb2); (try clear hk); (try clear hi)))
        go_ret
        exact ⟨by first | rfl | (simp [errW_none, errW_some] <;> rfl) | (simp [*, errW_none, errW_some] <;> rfl), by repeat (first | (with_reducible first | exact HB.out | apply below_alloc | apply pw_below_drewN | apply below_drew1) | exact HB.out)⟩
      · replace c6 := Bool.eq_false_iff.mpr c6
        subst c6
        have H1 : ((dict_Get.f kj3 l0 a1 a2).bind fun bt410 => ((firkinref08_Get.f kj3 l0 a1 a2).bind fun bt414 => (if (bt410.2 == bt414.2) = true then ((firkinref01_Names.f kj3 bt410.1 bt414.1).bind fun t418 => (if t418 = true then ((firkinlaw08_live.f kj3).bind fun t419 => (some t419)) else (some false))) else (some false)))) = some r := by rw [if_neg (show ¬ (false = true) by decide)] at H; exact H
        clear H
        have H := H1
        clear H1
        replace H := Option.bind_eq_some_iff.mp H
        obtain ⟨⟨t410, t411⟩, A90, H⟩ := H
        replace H : ((firkinref08_Get.f kj3 l0 a1 a2).bind fun bt414 => (if (t411 == bt414.2) = true then ((firkinref01_Names.f kj3 t410 bt414.1).bind fun t418 => (if t418 = true then ((firkinlaw08_live.f kj3).bind fun t419 => (some t419)) else (some false))) else (some false))) = some r := H
        have A9 := Aside0.mk A90
        clear A90
        replace H := Option.bind_eq_some_iff.mp H
        obtain ⟨⟨t414, t415⟩, A100, H⟩ := H
        replace H : (if (t411 == t415) = true then ((firkinref01_Names.f kj3 t410 t414).bind fun t418 => (if t418 = true then ((firkinlaw08_live.f kj3).bind fun t419 => (some t419)) else (some false))) else (some false)) = some r := H
        have A10 := Aside0.mk A100
        clear A100
        by_cases c11 : (t411 == t415) = true
        · rw [if_pos c11] at H
          have c11b0 : (t411 == t415) = true := c11
          (try (have c11b1 : decide (t411 = t415) = true := by simpa using c11))
          (try (have c11b2 : (t411 == t415) = true := by simpa using c11))
          clear c11
          replace H := Option.bind_eq_some_iff.mp H
          obtain ⟨t418, A120, H⟩ := H
          replace H : (if t418 = true then ((firkinlaw08_live.f kj3).bind fun t419 => (some t419)) else (some false)) = some r := H
          have A12 := Aside0.mk A120
          clear A120
          by_cases c13 : t418 = true
          · subst c13
            have H1 : ((firkinlaw08_live.f kj3).bind fun t419 => (some t419)) = some r := by rw [if_pos rfl] at H; exact H
            clear H
            have H := H1
            clear H1
            replace H := Option.bind_eq_some_iff.mp H
            obtain ⟨t419, A140, H⟩ := H
            replace H : (some t419) = some r := H
            have A14 := Aside0.mk A140
            clear A140
            obtain rfl := Option.some.inj H
            go_wp2_with (first | ((with_reducible refine gate_callee (f := 35) rfl ?_); refine goesL_ (some 23) rfl rfl Try.func35 (by kernel_rfl) rfl #[.slice A0 l0.length c0, .int .i64 a1, .int .i64 a2] rfl (by (try simp only [List.map_toArray, List.map_cons, List.map_nil]); first | done | rfl | (simp only [List.length_drop, List.length_take]; rfl)) ?_; (with_reducible refine (dict_Get.calls kj3 _ _ l0 a1 a2 t410 t411 _ ?side1 ?side2 A9.out).mono ?_); (case side1 => repeat (first | exact (Kd.C_below HR0.out HB.out) | (with_reducible refine Kd.C_alloc ?_ _) | (with_reducible refine Kd.C_drewN ?_ _) | (with_reducible refine Kd.C_drew ?_))); (case side2 => exact HC0.out); rintro e w15 ⟨v412, rfl, ho0, hb⟩; refine ⟨_, rfl, ?_⟩; have n0_ := Aside0.mk (Kd.R_lower ho0 (below_size (by repeat (first | (with_reducible first | exact HB.out | apply below_alloc | apply pw_below_drewN | apply below_drew1) | exact HB.out)))); have n1_ := Aside0.mk (below_step (by repeat (first | (with_reducible first | exact HB.out | apply below_alloc | apply pw_below_drewN | apply below_drew1) | exact HB.out)) hb); clear HB; have HO413 := n0_; have HB := n1_; clear n0_ n1_; (try clear hb); (try clear hb2); (try clear hk); (try clear hi); (try clear ho0)) | ((with_reducible refine gate_callee (f := 36) rfl ?_); refine goesL_ (some 30) rfl rfl Try.func36 (by kernel_rfl) rfl #[.slice A0 l0.length c0, .int .i64 a1, .int .i64 a2] rfl (by (try simp only [List.map_toArray, List.map_cons, List.map_nil]); first | done | rfl | (simp only [List.length_drop, List.length_take]; rfl)) ?_; (with_reducible refine (firkinref08_Get.calls kj3 _ _ l0 a1 a2 t414 t415 _ ?side1 ?side2 A10.out).mono ?_); (case side1 => repeat (first | exact (Kd.C_below HR0.out HB.out) | (with_reducible refine Kd.C_alloc ?_ _) | (with_reducible refine Kd.C_drewN ?_ _) | (with_reducible refine Kd.C_drew ?_))); (case side2 => exact HC0.out); rintro e w16 ⟨v416, rfl, ho0, hb⟩; refine ⟨_, rfl, ?_⟩; have n0_ := Aside0.mk (Kd.R_elder' (by (with_reducible repeat (first | apply Kd.R_alloc | apply Kd.R_drewN | apply Kd.R_drew)); exact HO413.out) (Kd.R_base ho0) hb); have n1_ := Aside0.mk (Kd.R_lower (Kd.R_new' ho0 (Kd.R_lt (by (with_reducible repeat (first | apply Kd.R_alloc | apply Kd.R_drewN | apply Kd.R_drew)); exact HO413.out))) (below_size (by repeat (first | (with_reducible first | exact HB.out | apply below_alloc | apply pw_below_drewN | apply below_drew1) | exact HB.out)))); have n2_ := Aside0.mk (below_step (by repeat (first | (with_reducible first | exact HB.out | apply below_alloc | apply pw_below_drewN | apply below_drew1) | exact HB.out)) hb); clear HO413; clear HB; have HO413 := n0_; have HO417 := n1_; have HB := n2_; clear n0_ n1_ n2_; (try clear hb); (try clear hb2); (try clear hk); (try clear hi); (try clear ho0); obtain ⟨Ao17, co17, eo17⟩ := Kd.R_slice HO413.out; subst eo17; obtain ⟨Ao18, co18, eo18⟩ := Kd.R_slice HO417.out; subst eo18) | (go_at_call 33; (with_reducible refine (firkinref01_Names.calls kj3 _ _ t410 _ _ t414 true _ ?side1 ?side2 ?side3 ?side4 A12.out).mono ?_); (case side1 => repeat (first | exact (Kd.R_reads' HO413.out).2.2 | (with_reducible refine Kd.C_alloc ?_ _) | (with_reducible refine Kd.C_drewN ?_ _) | (with_reducible refine Kd.C_drew ?_))); (case side2 => exact (Kd.R_reads' HO413.out).2.1); (case side3 => repeat (first | exact (Kd.R_reads' HO417.out).2.2 | (with_reducible refine Kd.C_alloc ?_ _) | (with_reducible refine Kd.C_drewN ?_ _) | (with_reducible refine Kd.C_drew ?_))); (case side4 => exact (Kd.R_reads' HO417.out).2.1); rintro e w' ⟨rfl, ⟨nd, rfl⟩⟩) | (go_at_call 30; (with_reducible refine (firkinlaw08_live.calls kj3  t419 _ A14.out).mono ?_); rintro e w19 ⟨rfl, hb⟩; have n0_ := Aside0.mk (Kd.R_below (by (with_reducible repeat (first | apply Kd.R_alloc | apply Kd.R_drewN | apply Kd.R_drew)); exact HO413.out) hb); have n1_ := Aside0.mk (Kd.R_below (by (with_reducible repeat (first | apply Kd.R_alloc | apply Kd.R_drewN | apply Kd.R_drew)); exact HO417.out) hb); have n2_ := Aside0.mk (below_step (by repeat (first | (with_reducible first | exact HB.out | apply below_alloc | apply pw_below_drewN | apply below_drew1) | exact HB.out)) hb); clear HO413; clear HO417; clear HB; have HO413 := n0_; have HO417 := n1_; have HB := n2_; clear n0_ n1_ n2_; (try clear hb); (try clear hb2); (try clear hk); (try clear hi); (try clear A14)))
            go_ret
            exact ⟨by first | rfl | (simp [errW_none, errW_some] <;> rfl) | (simp [*, errW_none, errW_some] <;> rfl), by repeat (first | (with_reducible first | exact HB.out | apply below_alloc | apply pw_below_drewN | apply below_drew1) | exact HB.out)⟩
          · replace c13 := Bool.eq_false_iff.mpr c13
            subst c13
            have H1 : (some false) = some r := by rw [if_neg (show ¬ (false = true) by decide)] at H; exact H
            clear H
            have H := H1
            clear H1
            obtain rfl := Option.some.inj H
            go_wp2_with (first | ((with_reducible refine gate_callee (f := 35) rfl ?_); refine goesL_ (some 23) rfl rfl Try.func35 (by kernel_rfl) rfl #[.slice A0 l0.length c0, .int .i64 a1, .int .i64 a2] rfl (by (try simp only [List.map_toArray, List.map_cons, List.map_nil]); first | done | rfl | (simp only [List.length_drop, List.length_take]; rfl)) ?_; (with_reducible refine (dict_Get.calls kj3 _ _ l0 a1 a2 t410 t411 _ ?side1 ?side2 A9.out).mono ?_); (case side1 => repeat (first | exact (Kd.C_below HR0.out HB.out) | (with_reducible refine Kd.C_alloc ?_ _) | (with_reducible refine Kd.C_drewN ?_ _) | (with_reducible refine Kd.C_drew ?_))); (case side2 => exact HC0.out); rintro e w20 ⟨v412, rfl, ho0, hb⟩; refine ⟨_, rfl, ?_⟩; have n0_ := Aside0.mk (Kd.R_lower ho0 (below_size (by repeat (first | (with_reducible first | exact HB.out | apply below_alloc | apply pw_below_drewN | apply below_drew1) | exact HB.out)))); have n1_ := Aside0.mk (below_step (by repeat (first | (with_reducible first | exact HB.out | apply below_alloc | apply pw_below_drewN | apply below_drew1) | exact HB.out)) hb); clear HB; have HO413 := n0_; have HB := n1_; clear n0_ n1_; (try clear hb); (try clear hb2); (try clear hk); (try clear hi); (try clear ho0)) | ((with_reducible refine gate_callee (f := 36) rfl ?_); refine goesL_ (some 30) rfl rfl Try.func36 (by kernel_rfl) rfl #[.slice A0 l0.length c0, .int .i64 a1, .int .i64 a2] rfl (by (try simp only [List.map_toArray, List.map_cons, List.map_nil]); first | done | rfl | (simp only [List.length_drop, List.length_take]; rfl)) ?_; (with_reducible refine (firkinref08_Get.calls kj3 _ _ l0 a1 a2 t414 t415 _ ?side1 ?side2 A10.out).mono ?_); (case side1 => repeat (first | exact (Kd.C_below HR0.out HB.out) | (with_reducible refine Kd.C_alloc ?_ _) | (with_reducible refine Kd.C_drewN ?_ _) | (with_reducible refine Kd.C_drew ?_))); (case side2 => exact HC0.out); rintro e w21 ⟨v416, rfl, ho0, hb⟩; refine ⟨_, rfl, ?_⟩; have n0_ := Aside0.mk (Kd.R_elder' (by (with_reducible repeat (first | apply Kd.R_alloc | apply Kd.R_drewN | apply Kd.R_drew)); exact HO413.out) (Kd.R_base ho0) hb); have n1_ := Aside0.mk (Kd.R_lower (Kd.R_new' ho0 (Kd.R_lt (by (with_reducible repeat (first | apply Kd.R_alloc | apply Kd.R_drewN | apply Kd.R_drew)); exact HO413.out))) (below_size (by repeat (first | (with_reducible first | exact HB.out | apply below_alloc | apply pw_below_drewN | apply below_drew1) | exact HB.out)))); have n2_ := Aside0.mk (below_step (by repeat (first | (with_reducible first | exact HB.out | apply below_alloc | apply pw_below_drewN | apply below_drew1) | exact HB.out)) hb); clear HO413; clear HB; have HO413 := n0_; have HO417 := n1_; have HB := n2_; clear n0_ n1_ n2_; (try clear hb); (try clear hb2); (try clear hk); (try clear hi); (try clear ho0); obtain ⟨Ao22, co22, eo22⟩ := Kd.R_slice HO413.out; subst eo22; obtain ⟨Ao23, co23, eo23⟩ := Kd.R_slice HO417.out; subst eo23) | (go_at_call 33; (with_reducible refine (firkinref01_Names.calls kj3 _ _ t410 _ _ t414 false _ ?side1 ?side2 ?side3 ?side4 A12.out).mono ?_); (case side1 => repeat (first | exact (Kd.R_reads' HO413.out).2.2 | (with_reducible refine Kd.C_alloc ?_ _) | (with_reducible refine Kd.C_drewN ?_ _) | (with_reducible refine Kd.C_drew ?_))); (case side2 => exact (Kd.R_reads' HO413.out).2.1); (case side3 => repeat (first | exact (Kd.R_reads' HO417.out).2.2 | (with_reducible refine Kd.C_alloc ?_ _) | (with_reducible refine Kd.C_drewN ?_ _) | (with_reducible refine Kd.C_drew ?_))); (case side4 => exact (Kd.R_reads' HO417.out).2.1); rintro e w' ⟨rfl, ⟨nd, rfl⟩⟩))
            go_ret
            exact ⟨by first | rfl | (simp [errW_none, errW_some] <;> rfl) | (simp [*, errW_none, errW_some] <;> rfl), by repeat (first | (with_reducible first | exact HB.out | apply below_alloc | apply pw_below_drewN | apply below_drew1) | exact HB.out)⟩
        · rw [if_neg c11] at H
          have c11b0 : (t411 == t415) = false := by simpa using c11
          (try (have c11b1 : decide (t411 = t415) = false := by simpa using c11))
          (try (have c11b2 : (t411 == t415) = false := by simpa using c11))
          (try (have c11b3 : ¬ (t411 = t415) := by simpa using c11))
          clear c11
          obtain rfl := Option.some.inj H
          go_wp2_with (first | ((with_reducible refine gate_callee (f := 35) rfl ?_); refine goesL_ (some 23) rfl rfl Try.func35 (by kernel_rfl) rfl #[.slice A0 l0.length c0, .int .i64 a1, .int .i64 a2] rfl (by (try simp only [List.map_toArray, List.map_cons, List.map_nil]); first | done | rfl | (simp only [List.length_drop, List.length_take]; rfl)) ?_; (with_reducible refine (dict_Get.calls kj3 _ _ l0 a1 a2 t410 t411 _ ?side1 ?side2 A9.out).mono ?_); (case side1 => repeat (first | exact (Kd.C_below HR0.out HB.out) | (with_reducible refine Kd.C_alloc ?_ _) | (with_reducible refine Kd.C_drewN ?_ _) | (with_reducible refine Kd.C_drew ?_))); (case side2 => exact HC0.out); rintro e w24 ⟨v412, rfl, ho0, hb⟩; refine ⟨_, rfl, ?_⟩; have n0_ := Aside0.mk (Kd.R_lower ho0 (below_size (by repeat (first | (with_reducible first | exact HB.out | apply below_alloc | apply pw_below_drewN | apply below_drew1) | exact HB.out)))); have n1_ := Aside0.mk (below_step (by repeat (first | (with_reducible first | exact HB.out | apply below_alloc | apply pw_below_drewN | apply below_drew1) | exact HB.out)) hb); clear HB; have HO413 := n0_; have HB := n1_; clear n0_ n1_; (try clear hb); (try clear hb2); (try clear hk); (try clear hi); (try clear ho0)) | ((with_reducible refine gate_callee (f := 36) rfl ?_); refine goesL_ (some 30) rfl rfl Try.func36 (by kernel_rfl) rfl #[.slice A0 l0.length c0, .int .i64 a1, .int .i64 a2] rfl (by (try simp only [List.map_toArray, List.map_cons, List.map_nil]); first | done | rfl | (simp only [List.length_drop, List.length_take]; rfl)) ?_; (with_reducible refine (firkinref08_Get.calls kj3 _ _ l0 a1 a2 t414 t415 _ ?side1 ?side2 A10.out).mono ?_); (case side1 => repeat (first | exact (Kd.C_below HR0.out HB.out) | (with_reducible refine Kd.C_alloc ?_ _) | (with_reducible refine Kd.C_drewN ?_ _) | (with_reducible refine Kd.C_drew ?_))); (case side2 => exact HC0.out); rintro e w25 ⟨v416, rfl, ho0, hb⟩; refine ⟨_, rfl, ?_⟩; have n0_ := Aside0.mk (Kd.R_elder' (by (with_reducible repeat (first | apply Kd.R_alloc | apply Kd.R_drewN | apply Kd.R_drew)); exact HO413.out) (Kd.R_base ho0) hb); have n1_ := Aside0.mk (Kd.R_lower (Kd.R_new' ho0 (Kd.R_lt (by (with_reducible repeat (first | apply Kd.R_alloc | apply Kd.R_drewN | apply Kd.R_drew)); exact HO413.out))) (below_size (by repeat (first | (with_reducible first | exact HB.out | apply below_alloc | apply pw_below_drewN | apply below_drew1) | exact HB.out)))); have n2_ := Aside0.mk (below_step (by repeat (first | (with_reducible first | exact HB.out | apply below_alloc | apply pw_below_drewN | apply below_drew1) | exact HB.out)) hb); clear HO413; clear HB; have HO413 := n0_; have HO417 := n1_; have HB := n2_; clear n0_ n1_ n2_; (try clear hb); (try clear hb2); (try clear hk); (try clear hi); (try clear ho0)))
          go_ret
          exact ⟨by first | rfl | (simp [errW_none, errW_some] <;> rfl) | (simp [*, errW_none, errW_some] <;> rfl), by repeat (first | (with_reducible first | exact HB.out | apply below_alloc | apply pw_below_drewN | apply below_drew1) | exact HB.out)⟩

/-! ### firkinlaw08_small: function 37 -/
mutual
def firkinlaw08_small.l0 : Nat → List ByteArray → Int → Option (Bool)
  | 0, _, _ => none
  | k + 1, x0, x3 => if x3 < (x0.length : Int) then (firkinlaw08_small.j1 k x0 x3 (decide (x3 < 200))) else (firkinlaw08_small.j1 k x0 x3 false)
def firkinlaw08_small.j1 : Nat → List ByteArray → Int → Bool → Option (Bool)
  | 0, _, _, _ => none
  | k + 1, x0, x3, x11 => if x11 = true then (if 0 ≤ x3 then (if x3 < (x0.length : Int) then (if ((rdOf ByteArray.empty x0 x3).size : Int) > 100 then (some false) else (firkinlaw08_small.l0 k x0 (wrap64 (x3 + 1)))) else (none)) else (none)) else (some (decide ((x0.length : Int) ≤ 100)))
end
def firkinlaw08_small.f (k : Nat) (l0 : List ByteArray) : Option (Bool) := firkinlaw08_small.l0 k l0 0
theorem firkinlaw08_small.mono_l : ∀ k, (∀ y0 y1, LeO (firkinlaw08_small.l0 k y0 y1) (firkinlaw08_small.l0 (k + 1) y0 y1)) ∧ (∀ y0 y1 y2, LeO (firkinlaw08_small.j1 k y0 y1 y2) (firkinlaw08_small.j1 (k + 1) y0 y1 y2))
  | 0 => ⟨fun _ _ r h => by simp [firkinlaw08_small.l0] at h, fun _ _ _ r h => by simp [firkinlaw08_small.j1] at h⟩
  | k + 1 => by
    obtain ⟨ih0, ih1⟩ := firkinlaw08_small.mono_l k
    refine ⟨?_, ?_⟩
    · intro y0 y1
      unfold firkinlaw08_small.l0
      repeat' first
      | (with_reducible exact ih0 _ _)
      | (with_reducible exact ih1 _ _ _)
      | (with_reducible exact LeO.refl _)
      | (with_reducible exact LeO.none _)
      | (with_reducible refine LeO.ite ?_ ?_)
      | (with_reducible refine LeO.bind ?_ (fun _ => ?_))
      | exact ih0 _ _
      | exact ih1 _ _ _
      | exact LeO.none _
      | refine LeO.ite ?_ ?_
      | refine LeO.bind ?_ (fun _ => ?_)
    · intro y0 y1 y2
      unfold firkinlaw08_small.j1
      repeat' first
      | (with_reducible exact ih0 _ _)
      | (with_reducible exact ih1 _ _ _)
      | (with_reducible exact LeO.refl _)
      | (with_reducible exact LeO.none _)
      | (with_reducible refine LeO.ite ?_ ?_)
      | (with_reducible refine LeO.bind ?_ (fun _ => ?_))
      | exact ih0 _ _
      | exact ih1 _ _ _
      | exact LeO.none _
      | refine LeO.ite ?_ ?_
      | refine LeO.bind ?_ (fun _ => ?_)
theorem firkinlaw08_small.mono : ∀ a0 k, LeO (firkinlaw08_small.f k a0) (firkinlaw08_small.f (k + 1) a0) := by
  intro a0 k
  obtain ⟨ih0, ih1⟩ := firkinlaw08_small.mono_l k
  unfold firkinlaw08_small.f
  repeat' first
      | (with_reducible exact ih0 _ _)
      | (with_reducible exact ih1 _ _ _)
      | (with_reducible exact LeO.refl _)
      | (with_reducible exact LeO.none _)
      | (with_reducible refine LeO.ite ?_ ?_)
      | (with_reducible refine LeO.bind ?_ (fun _ => ?_))
      | exact ih0 _ _
      | exact ih1 _ _ _
      | exact LeO.none _
      | refine LeO.ite ?_ ?_
      | refine LeO.bind ?_ (fun _ => ?_)
set_option maxHeartbeats 8000000 in
set_option maxRecDepth 100000 in
theorem firkinlaw08_small.calls (k : Nat) (A0 : Option Addr) (c0 : Nat) (l0 : List ByteArray) (r : Bool) (w : World) (hr0 : Kd.C Kd.string w A0 l0.length l0) (hc0 : l0.length ≤ c0) (h : firkinlaw08_small.f k l0 = some r) :
    Calls Try.prog 37 #[.slice A0 l0.length c0] w fun e w' => e = .returned (.bool r) ∧ Drawn0 w w' := by
  have HR0 := Aside0.mk hr0
  have HC0 := Aside0.mk hc0
  clear hr0 hc0
  have H : (firkinlaw08_small.l0 k l0 0) = some r := h
  clear h
  have H' := Aside0.mk H
  clear H
  go_enter Try.func37, Try.ntmps37
  go_wp2
  go_loopg [3] k (fun kq v3 w' => ∃ (x3_1 : Int), v3 = .int .i64 x3_1 ∧ Aside0 (firkinlaw08_small.l0 kq l0 x3_1 = some r) ∧ Aside0 (kq ≤ k) ∧ Drawn0 w w')
  case atStart => exact ⟨(0), (by first | rfl | (simp; done) | (simp [*]; done)), H', ⟨Nat.le_refl _⟩, by repeat (first | exact Drawn0.refl _ | apply Drawn0.step)⟩
  case round =>
    clear H'
    obtain ⟨x3_1, rfl, HA, HK1, ⟨m1, rfl⟩⟩ := hrel
    cases gk with
    | zero => exact absurd HA.out (by simp [firkinlaw08_small.l0])
    | succ k1 =>
      have H := HA.out
      clear HA
      simp only [firkinlaw08_small.l0] at H
      have HC2 := Aside0.mk H
      clear H
      go_upto_region 2 with (fail)
      go_cut [11] (fun v11 wc => ∃ (kq : Nat) (x11_1 : Bool), v11 = .bool x11_1 ∧ Aside0 (firkinlaw08_small.j1 kq l0 x3_1 x11_1 = some r) ∧ Aside0 (kq ≤ k1) ∧ Drawn0 w wc)
      case first =>
        have H := HC2.out
        clear HC2
        by_cases c3 : x3_1 < (l0.length : Int)
        · rw [if_pos c3] at H
          have c3b0 : decide (x3_1 < (l0.length : Int)) = true := decide_eq_true c3
          clear c3
          (first | rw [c3b0] | (simp only [i64_w, i32_w]; rw [c3b0]) | skip)
          have H' := Aside0.mk H
          clear H
          go_wp2
          go_meet
          case rel => exact ⟨_, (decide (x3_1 < 200)), (by first | rfl | (simp; done) | (simp [*]; done)), H', ⟨by have := HK1.out; first | omega | exact Nat.le_refl _⟩, by repeat (first | exact Drawn0.refl _ | apply Drawn0.step)⟩
        · rw [if_neg c3] at H
          have c3b0 : decide (x3_1 < (l0.length : Int)) = false := decide_eq_false c3
          clear c3
          (first | rw [c3b0] | (simp only [i64_w, i32_w]; rw [c3b0]) | skip)
          have H' := Aside0.mk H
          clear H
          go_wp2
          go_meet
          case rel => exact ⟨_, (false), (by first | rfl | (simp; done) | (simp [*]; done)), H', ⟨by have := HK1.out; first | omega | exact Nat.le_refl _⟩, by repeat (first | exact Drawn0.refl _ | apply Drawn0.step)⟩
      case rest =>
        clear HC2
        try clear p2
        try clear c3
        try clear c3b0
        obtain ⟨kq, x11_1, rfl, HA, HJ1, ⟨mc1, rfl⟩⟩ := hcut
        cases kq with
        | zero => exact absurd HA.out (by simp [firkinlaw08_small.j1])
        | succ kj1 =>
          have H := HA.out
          clear HA
          simp only [firkinlaw08_small.j1] at H
          by_cases c4 : x11_1 = true
          · subst c4
            have H1 : (if 0 ≤ x3_1 then (if x3_1 < (l0.length : Int) then (if ((rdOf ByteArray.empty l0 x3_1).size : Int) > 100 then (some false) else (firkinlaw08_small.l0 kj1 l0 (wrap64 (x3_1 + 1)))) else (none)) else (none)) = some r := by rw [if_pos rfl] at H; exact H
            clear H
            have H := H1
            clear H1
            by_cases c5 : 0 ≤ x3_1
            · rw [if_pos c5] at H
              have c5b0 : decide (0 ≤ x3_1) = true := decide_eq_true c5
              clear c5
              by_cases c6 : x3_1 < (l0.length : Int)
              · rw [if_pos c6] at H
                have c6b0 : decide (x3_1 < (l0.length : Int)) = true := decide_eq_true c6
                clear c6
                by_cases c7 : ((rdOf ByteArray.empty l0 x3_1).size : Int) > 100
                · rw [if_pos c7] at H
                  have c7b0 : decide (100 < ((rdOf ByteArray.empty l0 x3_1).size : Int)) = true := decide_eq_true c7
                  have c7b1 : decide (100 < (rdOf ByteArray.empty l0 x3_1).size) = true := decide_eq_true (by omega)
                  clear c7
                  obtain rfl := Option.some.inj H
                  have p420 : 0 ≤ (x3_1 : Int) := of_decide_eq_true (by first | (with_reducible assumption) | assumption)
                  have q420 : x3_1 < (l0.length : Int) := of_decide_eq_true (by first | (with_reducible assumption) | assumption)
                  obtain ⟨ad420, e420, hx420_0⟩ := Kd.at_string HR0.out x3_1 p420 q420
                  cases e420
                  replace p420 := eq_true p420
                  replace q420 := eq_true q420
                  go_wp2
                  go_ret
                  exact ⟨by first | rfl | (simp; done) | (simp [*]; done), by repeat (first | exact Drawn0.refl _ | apply Drawn0.step)⟩
                · rw [if_neg c7] at H
                  have c7b0 : decide (100 < ((rdOf ByteArray.empty l0 x3_1).size : Int)) = false := decide_eq_false c7
                  have c7b1 : decide (100 < (rdOf ByteArray.empty l0 x3_1).size) = false := decide_eq_false (by omega)
                  clear c7
                  have H' := Aside0.mk H
                  clear H
                  have p420 : 0 ≤ (x3_1 : Int) := of_decide_eq_true (by first | (with_reducible assumption) | assumption)
                  have q420 : x3_1 < (l0.length : Int) := of_decide_eq_true (by first | (with_reducible assumption) | assumption)
                  obtain ⟨ad420, e420, hx420_0⟩ := Kd.at_string HR0.out x3_1 p420 q420
                  cases e420
                  replace p420 := eq_true p420
                  replace q420 := eq_true q420
                  go_wp2
                  go_roundg kj1
                  case measure => have := HK1.out; have := HJ1.out; omega
                  case rel => exact ⟨(wrap64 (x3_1 + 1)), (by first | rfl | (simp; done) | (simp [*]; done)), H', ⟨by have := HK1.out; have := HJ1.out; omega⟩, by repeat (first | exact Drawn0.refl _ | apply Drawn0.step)⟩
              · rw [if_neg c6] at H
                exact absurd H (by simp)
            · rw [if_neg c5] at H
              exact absurd H (by simp)
          · replace c4 := Bool.eq_false_iff.mpr c4
            subst c4
            have H1 : (some (decide ((l0.length : Int) ≤ 100))) = some r := by rw [if_neg (show ¬ (false = true) by decide)] at H; exact H
            clear H
            have H := H1
            clear H1
            obtain rfl := Option.some.inj H
            go_wp2
            go_ret
            exact ⟨by first | rfl | (simp; done) | (simp [*]; done), by repeat (first | exact Drawn0.refl _ | apply Drawn0.step)⟩

/-! ### firkinlaw08_DictPuts: function 9 -/
def firkinlaw08_DictPuts.f (k : Nat) (l0 : List ByteArray) : Option (Bool) := (firkinlaw08_small.f k l0).bind fun t421 => (if t421 = true then ((dict_Plain.f k l0).bind fun t423 => ((dict_Put.f k l0).bind fun t426 => ((dict_Texts.f k t423 (l0.length : Int) 100).bind fun bt429 => ((dict_Get.f k t426 (l0.length : Int) 100).bind fun bt433 => ((firkinref08_Plain.f k l0).bind fun t437 => ((firkinref01_Same.f t423 t437).bind fun t440 => (if t440 = true then ((firkinref08_Put.f k l0).bind fun t441 => ((firkinref01_Same.f t426 t441).bind fun t444 => (if t444 = true then (if bt429.2 = true then (if bt433.2 = true then ((firkinref01_Names.f k bt429.1 l0).bind fun t445 => (if t445 = true then ((firkinref01_Names.f k bt433.1 l0).bind fun t446 => (if t446 = true then ((firkinlaw08_live.f k).bind fun t447 => (some t447)) else (some false))) else (some false))) else (some false)) else (some false)) else (some false)))) else (some false)))))))) else ((firkinlaw08_live.f k).bind fun t422 => (some t422)))
theorem firkinlaw08_DictPuts.mono : ∀ a0 k, LeO (firkinlaw08_DictPuts.f k a0) (firkinlaw08_DictPuts.f (k + 1) a0) := by
  intro a0 k
  unfold firkinlaw08_DictPuts.f
  repeat' first
      | (with_reducible exact dict_Get.mono _ _ _ _)
      | (with_reducible exact dict_Plain.mono _ _)
      | (with_reducible exact dict_Put.mono _ _)
      | (with_reducible exact dict_Texts.mono _ _ _ _)
      | (with_reducible exact firkinlaw08_live.mono _)
      | (with_reducible exact firkinlaw08_small.mono _ _)
      | (with_reducible exact firkinref01_Names.mono _ _ _)
      | (with_reducible exact firkinref08_Plain.mono _ _)
      | (with_reducible exact firkinref08_Put.mono _ _)
      | (with_reducible exact LeO.refl _)
      | (with_reducible exact LeO.none _)
      | (with_reducible refine LeO.ite ?_ ?_)
      | (with_reducible refine LeO.bind ?_ (fun _ => ?_))
      | exact dict_Get.mono _ _ _ _
      | exact dict_Plain.mono _ _
      | exact dict_Put.mono _ _
      | exact dict_Texts.mono _ _ _ _
      | exact firkinlaw08_live.mono _
      | exact firkinlaw08_small.mono _ _
      | exact firkinref01_Names.mono _ _ _
      | exact firkinref08_Plain.mono _ _
      | exact firkinref08_Put.mono _ _
      | exact LeO.none _
      | refine LeO.ite ?_ ?_
      | refine LeO.bind ?_ (fun _ => ?_)
set_option maxHeartbeats 8000000 in
set_option maxRecDepth 100000 in
theorem firkinlaw08_DictPuts.calls (k : Nat) (A0 : Option Addr) (c0 : Nat) (l0 : List ByteArray) (r : Bool) (w : World) (hr0 : Kd.C Kd.string w A0 l0.length l0) (hc0 : l0.length ≤ c0) (h : firkinlaw08_DictPuts.f k l0 = some r) :
    Calls Try.prog 9 #[.slice A0 l0.length c0] w fun e w' => e = .returned (.bool r) ∧ Below w.heap.size w w' := by
  have HR0 := Aside0.mk hr0
  have HC0 := Aside0.mk hc0
  clear hr0 hc0
  have HB := Aside0.mk (Below.refl w.heap.size w)
  have H : ((firkinlaw08_small.f k l0).bind fun t421 => (if t421 = true then ((dict_Plain.f k l0).bind fun t423 => ((dict_Put.f k l0).bind fun t426 => ((dict_Texts.f k t423 (l0.length : Int) 100).bind fun bt429 => ((dict_Get.f k t426 (l0.length : Int) 100).bind fun bt433 => ((firkinref08_Plain.f k l0).bind fun t437 => ((firkinref01_Same.f t423 t437).bind fun t440 => (if t440 = true then ((firkinref08_Put.f k l0).bind fun t441 => ((firkinref01_Same.f t426 t441).bind fun t444 => (if t444 = true then (if bt429.2 = true then (if bt433.2 = true then ((firkinref01_Names.f k bt429.1 l0).bind fun t445 => (if t445 = true then ((firkinref01_Names.f k bt433.1 l0).bind fun t446 => (if t446 = true then ((firkinlaw08_live.f k).bind fun t447 => (some t447)) else (some false))) else (some false))) else (some false)) else (some false)) else (some false)))) else (some false)))))))) else ((firkinlaw08_live.f k).bind fun t422 => (some t422)))) = some r := h
  clear h
  replace H := Option.bind_eq_some_iff.mp H
  obtain ⟨t421, A20, H⟩ := H
  replace H : (if t421 = true then ((dict_Plain.f k l0).bind fun t423 => ((dict_Put.f k l0).bind fun t426 => ((dict_Texts.f k t423 (l0.length : Int) 100).bind fun bt429 => ((dict_Get.f k t426 (l0.length : Int) 100).bind fun bt433 => ((firkinref08_Plain.f k l0).bind fun t437 => ((firkinref01_Same.f t423 t437).bind fun t440 => (if t440 = true then ((firkinref08_Put.f k l0).bind fun t441 => ((firkinref01_Same.f t426 t441).bind fun t444 => (if t444 = true then (if bt429.2 = true then (if bt433.2 = true then ((firkinref01_Names.f k bt429.1 l0).bind fun t445 => (if t445 = true then ((firkinref01_Names.f k bt433.1 l0).bind fun t446 => (if t446 = true then ((firkinlaw08_live.f k).bind fun t447 => (some t447)) else (some false))) else (some false))) else (some false)) else (some false)) else (some false)))) else (some false)))))))) else ((firkinlaw08_live.f k).bind fun t422 => (some t422))) = some r := H
  have A2 := Aside0.mk A20
  clear A20
  by_cases c3 : t421 = true
  · subst c3
    have H1 : ((dict_Plain.f k l0).bind fun t423 => ((dict_Put.f k l0).bind fun t426 => ((dict_Texts.f k t423 (l0.length : Int) 100).bind fun bt429 => ((dict_Get.f k t426 (l0.length : Int) 100).bind fun bt433 => ((firkinref08_Plain.f k l0).bind fun t437 => ((firkinref01_Same.f t423 t437).bind fun t440 => (if t440 = true then ((firkinref08_Put.f k l0).bind fun t441 => ((firkinref01_Same.f t426 t441).bind fun t444 => (if t444 = true then (if bt429.2 = true then (if bt433.2 = true then ((firkinref01_Names.f k bt429.1 l0).bind fun t445 => (if t445 = true then ((firkinref01_Names.f k bt433.1 l0).bind fun t446 => (if t446 = true then ((firkinlaw08_live.f k).bind fun t447 => (some t447)) else (some false))) else (some false))) else (some false)) else (some false)) else (some false)))) else (some false)))))))) = some r := by rw [if_pos rfl] at H; exact H
    clear H
    have H := H1
    clear H1
    replace H := Option.bind_eq_some_iff.mp H
    obtain ⟨t423, A40, H⟩ := H
    replace H : ((dict_Put.f k l0).bind fun t426 => ((dict_Texts.f k t423 (l0.length : Int) 100).bind fun bt429 => ((dict_Get.f k t426 (l0.length : Int) 100).bind fun bt433 => ((firkinref08_Plain.f k l0).bind fun t437 => ((firkinref01_Same.f t423 t437).bind fun t440 => (if t440 = true then ((firkinref08_Put.f k l0).bind fun t441 => ((firkinref01_Same.f t426 t441).bind fun t444 => (if t444 = true then (if bt429.2 = true then (if bt433.2 = true then ((firkinref01_Names.f k bt429.1 l0).bind fun t445 => (if t445 = true then ((firkinref01_Names.f k bt433.1 l0).bind fun t446 => (if t446 = true then ((firkinlaw08_live.f k).bind fun t447 => (some t447)) else (some false))) else (some false))) else (some false)) else (some false)) else (some false)))) else (some false))))))) = some r := H
    have A4 := Aside0.mk A40
    clear A40
    replace H := Option.bind_eq_some_iff.mp H
    obtain ⟨t426, A50, H⟩ := H
    replace H : ((dict_Texts.f k t423 (l0.length : Int) 100).bind fun bt429 => ((dict_Get.f k t426 (l0.length : Int) 100).bind fun bt433 => ((firkinref08_Plain.f k l0).bind fun t437 => ((firkinref01_Same.f t423 t437).bind fun t440 => (if t440 = true then ((firkinref08_Put.f k l0).bind fun t441 => ((firkinref01_Same.f t426 t441).bind fun t444 => (if t444 = true then (if bt429.2 = true then (if bt433.2 = true then ((firkinref01_Names.f k bt429.1 l0).bind fun t445 => (if t445 = true then ((firkinref01_Names.f k bt433.1 l0).bind fun t446 => (if t446 = true then ((firkinlaw08_live.f k).bind fun t447 => (some t447)) else (some false))) else (some false))) else (some false)) else (some false)) else (some false)))) else (some false)))))) = some r := H
    have A5 := Aside0.mk A50
    clear A50
    replace H := Option.bind_eq_some_iff.mp H
    obtain ⟨⟨t429, t430⟩, A60, H⟩ := H
    replace H : ((dict_Get.f k t426 (l0.length : Int) 100).bind fun bt433 => ((firkinref08_Plain.f k l0).bind fun t437 => ((firkinref01_Same.f t423 t437).bind fun t440 => (if t440 = true then ((firkinref08_Put.f k l0).bind fun t441 => ((firkinref01_Same.f t426 t441).bind fun t444 => (if t444 = true then (if t430 = true then (if bt433.2 = true then ((firkinref01_Names.f k t429 l0).bind fun t445 => (if t445 = true then ((firkinref01_Names.f k bt433.1 l0).bind fun t446 => (if t446 = true then ((firkinlaw08_live.f k).bind fun t447 => (some t447)) else (some false))) else (some false))) else (some false)) else (some false)) else (some false)))) else (some false))))) = some r := H
    have A6 := Aside0.mk A60
    clear A60
    replace H := Option.bind_eq_some_iff.mp H
    obtain ⟨⟨t433, t434⟩, A70, H⟩ := H
    replace H : ((firkinref08_Plain.f k l0).bind fun t437 => ((firkinref01_Same.f t423 t437).bind fun t440 => (if t440 = true then ((firkinref08_Put.f k l0).bind fun t441 => ((firkinref01_Same.f t426 t441).bind fun t444 => (if t444 = true then (if t430 = true then (if t434 = true then ((firkinref01_Names.f k t429 l0).bind fun t445 => (if t445 = true then ((firkinref01_Names.f k t433 l0).bind fun t446 => (if t446 = true then ((firkinlaw08_live.f k).bind fun t447 => (some t447)) else (some false))) else (some false))) else (some false)) else (some false)) else (some false)))) else (some false)))) = some r := H
    have A7 := Aside0.mk A70
    clear A70
    replace H := Option.bind_eq_some_iff.mp H
    obtain ⟨t437, A80, H⟩ := H
    replace H : ((firkinref01_Same.f t423 t437).bind fun t440 => (if t440 = true then ((firkinref08_Put.f k l0).bind fun t441 => ((firkinref01_Same.f t426 t441).bind fun t444 => (if t444 = true then (if t430 = true then (if t434 = true then ((firkinref01_Names.f k t429 l0).bind fun t445 => (if t445 = true then ((firkinref01_Names.f k t433 l0).bind fun t446 => (if t446 = true then ((firkinlaw08_live.f k).bind fun t447 => (some t447)) else (some false))) else (some false))) else (some false)) else (some false)) else (some false)))) else (some false))) = some r := H
    have A8 := Aside0.mk A80
    clear A80
    replace H := Option.bind_eq_some_iff.mp H
    obtain ⟨t440, A90, H⟩ := H
    replace H : (if t440 = true then ((firkinref08_Put.f k l0).bind fun t441 => ((firkinref01_Same.f t426 t441).bind fun t444 => (if t444 = true then (if t430 = true then (if t434 = true then ((firkinref01_Names.f k t429 l0).bind fun t445 => (if t445 = true then ((firkinref01_Names.f k t433 l0).bind fun t446 => (if t446 = true then ((firkinlaw08_live.f k).bind fun t447 => (some t447)) else (some false))) else (some false))) else (some false)) else (some false)) else (some false)))) else (some false)) = some r := H
    have A9 := Aside0.mk A90
    clear A90
    by_cases c10 : t440 = true
    · subst c10
      have H1 : ((firkinref08_Put.f k l0).bind fun t441 => ((firkinref01_Same.f t426 t441).bind fun t444 => (if t444 = true then (if t430 = true then (if t434 = true then ((firkinref01_Names.f k t429 l0).bind fun t445 => (if t445 = true then ((firkinref01_Names.f k t433 l0).bind fun t446 => (if t446 = true then ((firkinlaw08_live.f k).bind fun t447 => (some t447)) else (some false))) else (some false))) else (some false)) else (some false)) else (some false)))) = some r := by rw [if_pos rfl] at H; exact H
      clear H
      have H := H1
      clear H1
      replace H := Option.bind_eq_some_iff.mp H
      obtain ⟨t441, A110, H⟩ := H
      replace H : ((firkinref01_Same.f t426 t441).bind fun t444 => (if t444 = true then (if t430 = true then (if t434 = true then ((firkinref01_Names.f k t429 l0).bind fun t445 => (if t445 = true then ((firkinref01_Names.f k t433 l0).bind fun t446 => (if t446 = true then ((firkinlaw08_live.f k).bind fun t447 => (some t447)) else (some false))) else (some false))) else (some false)) else (some false)) else (some false))) = some r := H
      have A11 := Aside0.mk A110
      clear A110
      replace H := Option.bind_eq_some_iff.mp H
      obtain ⟨t444, A120, H⟩ := H
      replace H : (if t444 = true then (if t430 = true then (if t434 = true then ((firkinref01_Names.f k t429 l0).bind fun t445 => (if t445 = true then ((firkinref01_Names.f k t433 l0).bind fun t446 => (if t446 = true then ((firkinlaw08_live.f k).bind fun t447 => (some t447)) else (some false))) else (some false))) else (some false)) else (some false)) else (some false)) = some r := H
      have A12 := Aside0.mk A120
      clear A120
      by_cases c13 : t444 = true
      · subst c13
        have H1 : (if t430 = true then (if t434 = true then ((firkinref01_Names.f k t429 l0).bind fun t445 => (if t445 = true then ((firkinref01_Names.f k t433 l0).bind fun t446 => (if t446 = true then ((firkinlaw08_live.f k).bind fun t447 => (some t447)) else (some false))) else (some false))) else (some false)) else (some false)) = some r := by rw [if_pos rfl] at H; exact H
        clear H
        have H := H1
        clear H1
        by_cases c14 : t430 = true
        · subst c14
          have H1 : (if t434 = true then ((firkinref01_Names.f k t429 l0).bind fun t445 => (if t445 = true then ((firkinref01_Names.f k t433 l0).bind fun t446 => (if t446 = true then ((firkinlaw08_live.f k).bind fun t447 => (some t447)) else (some false))) else (some false))) else (some false)) = some r := by rw [if_pos rfl] at H; exact H
          clear H
          have H := H1
          clear H1
          by_cases c15 : t434 = true
          · subst c15
            have H1 : ((firkinref01_Names.f k t429 l0).bind fun t445 => (if t445 = true then ((firkinref01_Names.f k t433 l0).bind fun t446 => (if t446 = true then ((firkinlaw08_live.f k).bind fun t447 => (some t447)) else (some false))) else (some false))) = some r := by rw [if_pos rfl] at H; exact H
            clear H
            have H := H1
            clear H1
            replace H := Option.bind_eq_some_iff.mp H
            obtain ⟨t445, A160, H⟩ := H
            replace H : (if t445 = true then ((firkinref01_Names.f k t433 l0).bind fun t446 => (if t446 = true then ((firkinlaw08_live.f k).bind fun t447 => (some t447)) else (some false))) else (some false)) = some r := H
            have A16 := Aside0.mk A160
            clear A160
            by_cases c17 : t445 = true
            · subst c17
              have H1 : ((firkinref01_Names.f k t433 l0).bind fun t446 => (if t446 = true then ((firkinlaw08_live.f k).bind fun t447 => (some t447)) else (some false))) = some r := by rw [if_pos rfl] at H; exact H
              clear H
              have H := H1
              clear H1
              replace H := Option.bind_eq_some_iff.mp H
              obtain ⟨t446, A180, H⟩ := H
              replace H : (if t446 = true then ((firkinlaw08_live.f k).bind fun t447 => (some t447)) else (some false)) = some r := H
              have A18 := Aside0.mk A180
              clear A180
              by_cases c19 : t446 = true
              · subst c19
                have H1 : ((firkinlaw08_live.f k).bind fun t447 => (some t447)) = some r := by rw [if_pos rfl] at H; exact H
                clear H
                have H := H1
                clear H1
                replace H := Option.bind_eq_some_iff.mp H
                obtain ⟨t447, A200, H⟩ := H
                replace H : (some t447) = some r := H
                have A20 := Aside0.mk A200
                clear A200
                obtain rfl := Option.some.inj H
                go_enter Try.func9, Try.ntmps9
                go_wp2_with (first | ((with_reducible refine gate_callee (f := 37) rfl ?_); refine goesL_ (some 10) rfl rfl Try.func37 (by kernel_rfl) rfl #[.slice A0 l0.length c0] rfl (by (try simp only [List.map_toArray, List.map_cons, List.map_nil]); first | done | rfl | (simp only [List.length_drop, List.length_take]; rfl)) ?_; (with_reducible refine (firkinlaw08_small.calls k _ _ l0 true _ ?side1 ?side2 A2.out).mono ?_); (case side1 => repeat (first | exact HR0.out | (with_reducible refine Kd.C_alloc ?_ _) | (with_reducible refine Kd.C_drewN ?_ _) | (with_reducible refine Kd.C_drew ?_))); (case side2 => exact HC0.out); rintro e w' ⟨rfl, ⟨nd, rfl⟩⟩; refine ⟨_, rfl, ?_⟩) | ((with_reducible refine gate_callee (f := 34) rfl ?_); refine goesL_ (some 14) rfl rfl Try.func34 (by kernel_rfl) rfl #[.slice A0 l0.length c0] rfl (by (try simp only [List.map_toArray, List.map_cons, List.map_nil]); first | done | rfl | (simp only [List.length_drop, List.length_take]; rfl)) ?_; (with_reducible refine (dict_Plain.calls k _ _ l0 t423 _ ?side1 ?side2 A4.out).mono ?_); (case side1 => repeat (first | exact HR0.out | (with_reducible refine Kd.C_alloc ?_ _) | (with_reducible refine Kd.C_drewN ?_ _) | (with_reducible refine Kd.C_drew ?_))); (case side2 => exact HC0.out); rintro e w21 ⟨v424, rfl, ho0, hb⟩; refine ⟨_, rfl, ?_⟩; have n0_ := Aside0.mk (Kd.R_lower ho0 (below_size (by repeat (first | (with_reducible first | exact HB.out | apply below_alloc | apply pw_below_drewN | apply below_drew1) | exact HB.out)))); have n1_ := Aside0.mk (below_step (by repeat (first | (with_reducible first | exact HB.out | apply below_alloc | apply pw_below_drewN | apply below_drew1) | exact HB.out)) hb); clear HB; have HO425 := n0_; have HB := n1_; clear n0_ n1_; (try clear hb); (try clear hb2); (try clear hk); (try clear hi); (try clear ho0)) | ((with_reducible refine gate_callee (f := 38) rfl ?_); refine goesL_ (some 16) rfl rfl Try.func38 (by kernel_rfl) rfl #[.slice A0 l0.length c0] rfl (by (try simp only [List.map_toArray, List.map_cons, List.map_nil]); first | done | rfl | (simp only [List.length_drop, List.length_take]; rfl)) ?_; (with_reducible refine (dict_Put.calls k _ _ l0 t426 _ ?side1 ?side2 A5.out).mono ?_); (case side1 => repeat (first | exact (Kd.C_below HR0.out HB.out) | (with_reducible refine Kd.C_alloc ?_ _) | (with_reducible refine Kd.C_drewN ?_ _) | (with_reducible refine Kd.C_drew ?_))); (case side2 => exact HC0.out); rintro e w22 ⟨v427, rfl, ho0, hb⟩; refine ⟨_, rfl, ?_⟩; have n0_ := Aside0.mk (Kd.R_elder' (by (with_reducible repeat (first | apply Kd.R_alloc | apply Kd.R_drewN | apply Kd.R_drew)); exact HO425.out) (Kd.R_base ho0) hb); have n1_ := Aside0.mk (Kd.R_lower (Kd.R_new' ho0 (Kd.R_lt (by (with_reducible repeat (first | apply Kd.R_alloc | apply Kd.R_drewN | apply Kd.R_drew)); exact HO425.out))) (below_size (by repeat (first | (with_reducible first | exact HB.out | apply below_alloc | apply pw_below_drewN | apply below_drew1) | exact HB.out)))); have n2_ := Aside0.mk (below_step (by repeat (first | (with_reducible first | exact HB.out | apply below_alloc | apply pw_below_drewN | apply below_drew1) | exact HB.out)) hb); clear HO425; clear HB; have HO425 := n0_; have HO428 := n1_; have HB := n2_; clear n0_ n1_ n2_; (try clear hb); (try clear hb2); (try clear hk); (try clear hi); (try clear ho0); obtain ⟨Ao23, co23, eo23⟩ := Kd.R_slice HO425.out; subst eo23) | ((with_reducible refine gate_callee (f := 31) rfl ?_); refine goesL_ (some 21) rfl rfl Try.func31 (by kernel_rfl) rfl #[.slice Ao23 t423.length co23, .int .i64 (l0.length : Int), .int .i64 100] rfl (by (try simp only [List.map_toArray, List.map_cons, List.map_nil]); first | done | rfl | (simp only [List.length_drop, List.length_take]; rfl)) ?_; (with_reducible refine (dict_Texts.calls k _ _ t423 (l0.length : Int) 100 t429 true _ ?side1 ?side2 A6.out).mono ?_); (case side1 => repeat (first | exact (Kd.R_reads' HO425.out).2.2 | (with_reducible refine Kd.C_alloc ?_ _) | (with_reducible refine Kd.C_drewN ?_ _) | (with_reducible refine Kd.C_drew ?_))); (case side2 => exact (Kd.R_reads' HO425.out).2.1); rintro e w24 ⟨v431, rfl, ho0, hb⟩; refine ⟨_, rfl, ?_⟩; have n0_ := Aside0.mk (Kd.R_below (by (with_reducible repeat (first | apply Kd.R_alloc | apply Kd.R_drewN | apply Kd.R_drew)); exact HO425.out) hb); have n1_ := Aside0.mk (Kd.R_below (by (with_reducible repeat (first | apply Kd.R_alloc | apply Kd.R_drewN | apply Kd.R_drew)); exact HO428.out) hb); have n2_ := Aside0.mk (Kd.R_lower ho0 (below_size (by repeat (first | (with_reducible first | exact HB.out | apply below_alloc | apply pw_below_drewN | apply below_drew1) | exact HB.out)))); have n3_ := Aside0.mk (below_step (by repeat (first | (with_reducible first | exact HB.out | apply below_alloc | apply pw_below_drewN | apply below_drew1) | exact HB.out)) hb); clear HO425; clear HO428; clear HB; have HO425 := n0_; have HO428 := n1_; have HO432 := n2_; have HB := n3_; clear n0_ n1_ n2_ n3_; (try clear hb); (try clear hb2); (try clear hk); (try clear hi); (try clear ho0); obtain ⟨Ao25, co25, eo25⟩ := Kd.R_slice HO428.out; subst eo25) | ((with_reducible refine gate_callee (f := 35) rfl ?_); refine goesL_ (some 28) rfl rfl Try.func35 (by kernel_rfl) rfl #[.slice Ao25 t426.length co25, .int .i64 (l0.length : Int), .int .i64 100] rfl (by (try simp only [List.map_toArray, List.map_cons, List.map_nil]); first | done | rfl | (simp only [List.length_drop, List.length_take]; rfl)) ?_; (with_reducible refine (dict_Get.calls k _ _ t426 (l0.length : Int) 100 t433 true _ ?side1 ?side2 A7.out).mono ?_); (case side1 => repeat (first | exact (Kd.R_reads' HO428.out).2.2 | (with_reducible refine Kd.C_alloc ?_ _) | (with_reducible refine Kd.C_drewN ?_ _) | (with_reducible refine Kd.C_drew ?_))); (case side2 => exact (Kd.R_reads' HO428.out).2.1); rintro e w26 ⟨v435, rfl, ho0, hb⟩; refine ⟨_, rfl, ?_⟩; have n0_ := Aside0.mk (Kd.R_below (by (with_reducible repeat (first | apply Kd.R_alloc | apply Kd.R_drewN | apply Kd.R_drew)); exact HO425.out) hb); have n1_ := Aside0.mk (Kd.R_below (by (with_reducible repeat (first | apply Kd.R_alloc | apply Kd.R_drewN | apply Kd.R_drew)); exact HO428.out) hb); have n2_ := Aside0.mk (Kd.R_elder' (by (with_reducible repeat (first | apply Kd.R_alloc | apply Kd.R_drewN | apply Kd.R_drew)); exact HO432.out) (Kd.R_base ho0) hb); have n3_ := Aside0.mk (Kd.R_lower (Kd.R_new' ho0 (Kd.R_lt (by (with_reducible repeat (first | apply Kd.R_alloc | apply Kd.R_drewN | apply Kd.R_drew)); exact HO432.out))) (below_size (by repeat (first | (with_reducible first | exact HB.out | apply below_alloc | apply pw_below_drewN | apply below_drew1) | exact HB.out)))); have n4_ := Aside0.mk (below_step (by repeat (first | (with_reducible first | exact HB.out | apply below_alloc | apply pw_below_drewN | apply below_drew1) | exact HB.out)) hb); clear HO425; clear HO428; clear HO432; clear HB; have HO425 := n0_; have HO428 := n1_; have HO432 := n2_; have HO436 := n3_; have HB := n4_; clear n0_ n1_ n2_ n3_ n4_; (try clear hb); (try clear hb2); (try clear hk); (try clear hi); (try clear ho0)) | ((with_reducible refine gate_callee (f := 39) rfl ?_); refine goesL_ (some 33) rfl rfl Try.func39 (by kernel_rfl) rfl #[.slice A0 l0.length c0] rfl (by (try simp only [List.map_toArray, List.map_cons, List.map_nil]); first | done | rfl | (simp only [List.length_drop, List.length_take]; rfl)) ?_; (with_reducible refine (firkinref08_Plain.calls k _ _ l0 t437 _ ?side1 ?side2 A8.out).mono ?_); (case side1 => repeat (first | exact (Kd.C_below HR0.out HB.out) | (with_reducible refine Kd.C_alloc ?_ _) | (with_reducible refine Kd.C_drewN ?_ _) | (with_reducible refine Kd.C_drew ?_))); (case side2 => exact HC0.out); rintro e w27 ⟨v438, rfl, ho0, hb⟩; refine ⟨_, rfl, ?_⟩; have n0_ := Aside0.mk (Kd.R_elder' (by (with_reducible repeat (first | apply Kd.R_alloc | apply Kd.R_drewN | apply Kd.R_drew)); exact HO425.out) (Kd.R_base ho0) hb); have n1_ := Aside0.mk (Kd.R_elder' (by (with_reducible repeat (first | apply Kd.R_alloc | apply Kd.R_drewN | apply Kd.R_drew)); exact HO428.out) (Kd.R_base ho0) hb); have n2_ := Aside0.mk (Kd.R_below (by (with_reducible repeat (first | apply Kd.R_alloc | apply Kd.R_drewN | apply Kd.R_drew)); exact HO432.out) hb); have n3_ := Aside0.mk (Kd.R_below (by (with_reducible repeat (first | apply Kd.R_alloc | apply Kd.R_drewN | apply Kd.R_drew)); exact HO436.out) hb); have n4_ := Aside0.mk (Kd.R_lower (Kd.R_new' (Kd.R_new' ho0 (Kd.R_lt (by (with_reducible repeat (first | apply Kd.R_alloc | apply Kd.R_drewN | apply Kd.R_drew)); exact HO425.out))) (Kd.R_lt (by (with_reducible repeat (first | apply Kd.R_alloc | apply Kd.R_drewN | apply Kd.R_drew)); exact HO428.out))) (below_size (by repeat (first | (with_reducible first | exact HB.out | apply below_alloc | apply pw_below_drewN | apply below_drew1) | exact HB.out)))); have n5_ := Aside0.mk (below_step (by repeat (first | (with_reducible first | exact HB.out | apply below_alloc | apply pw_below_drewN | apply below_drew1) | exact HB.out)) hb); clear HO425; clear HO428; clear HO432; clear HO436; clear HB; have HO425 := n0_; have HO428 := n1_; have HO432 := n2_; have HO436 := n3_; have HO439 := n4_; have HB := n5_; clear n0_ n1_ n2_ n3_ n4_ n5_; (try clear hb); (try clear hb2); (try clear hk); (try clear hi); (try clear ho0); obtain ⟨Ao28, co28, eo28⟩ := Kd.R_slice HO439.out; subst eo28) | ((with_reducible refine gate_callee (f := 13) rfl ?_); refine goesL_ (some 34) rfl rfl Try.func13 (by kernel_rfl) rfl #[.slice Ao23 t423.length co23, .slice Ao28 t437.length co28] rfl (by (try simp only [List.map_toArray, List.map_cons, List.map_nil]); first | done | rfl | (simp only [List.length_drop, List.length_take]; rfl)) ?_; (with_reducible refine (firkinref01_Same.calls _ _ t423 _ _ t437 true _ ?side1 ?side2 ?side3 ?side4 A9.out).mono ?_); (case side1 => repeat (first | exact (Kd.R_reads' HO425.out).2.2 | (with_reducible refine Kd.C_alloc ?_ _) | (with_reducible refine Kd.C_drewN ?_ _) | (with_reducible refine Kd.C_drew ?_))); (case side2 => exact (Kd.R_reads' HO425.out).2.1); (case side3 => repeat (first | exact (Kd.R_reads' HO439.out).2.2 | (with_reducible refine Kd.C_alloc ?_ _) | (with_reducible refine Kd.C_drewN ?_ _) | (with_reducible refine Kd.C_drew ?_))); (case side4 => exact (Kd.R_reads' HO439.out).2.1); rintro e w' ⟨rfl, ⟨nd, rfl⟩⟩; refine ⟨_, rfl, ?_⟩) | (go_at_call 40; (with_reducible refine (firkinref08_Put.calls k _ _ l0 t441 _ ?side1 ?side2 A11.out).mono ?_); (case side1 => repeat (first | exact (Kd.C_below HR0.out (by repeat (first | (with_reducible first | exact HB.out | apply below_alloc | apply pw_below_drewN | apply below_drew1) | exact HB.out))) | (with_reducible refine Kd.C_alloc ?_ _) | (with_reducible refine Kd.C_drewN ?_ _) | (with_reducible refine Kd.C_drew ?_))); (case side2 => exact HC0.out); rintro e w29 ⟨v442, rfl, ho0, hb⟩; have n0_ := Aside0.mk (Kd.R_elder' (by (with_reducible repeat (first | apply Kd.R_alloc | apply Kd.R_drewN | apply Kd.R_drew)); exact HO425.out) (Kd.R_base ho0) hb); have n1_ := Aside0.mk (Kd.R_elder' (by (with_reducible repeat (first | apply Kd.R_alloc | apply Kd.R_drewN | apply Kd.R_drew)); exact HO428.out) (Kd.R_base ho0) hb); have n2_ := Aside0.mk (Kd.R_below (by (with_reducible repeat (first | apply Kd.R_alloc | apply Kd.R_drewN | apply Kd.R_drew)); exact HO432.out) hb); have n3_ := Aside0.mk (Kd.R_below (by (with_reducible repeat (first | apply Kd.R_alloc | apply Kd.R_drewN | apply Kd.R_drew)); exact HO436.out) hb); have n4_ := Aside0.mk (Kd.R_elder' (by (with_reducible repeat (first | apply Kd.R_alloc | apply Kd.R_drewN | apply Kd.R_drew)); exact HO439.out) (Kd.R_base ho0) hb); have n5_ := Aside0.mk (Kd.R_lower (Kd.R_new' (Kd.R_new' (Kd.R_new' ho0 (Kd.R_lt (by (with_reducible repeat (first | apply Kd.R_alloc | apply Kd.R_drewN | apply Kd.R_drew)); exact HO425.out))) (Kd.R_lt (by (with_reducible repeat (first | apply Kd.R_alloc | apply Kd.R_drewN | apply Kd.R_drew)); exact HO428.out))) (Kd.R_lt (by (with_reducible repeat (first | apply Kd.R_alloc | apply Kd.R_drewN | apply Kd.R_drew)); exact HO439.out))) (below_size (by repeat (first | (with_reducible first | exact HB.out | apply below_alloc | apply pw_below_drewN | apply below_drew1) | exact HB.out)))); have n6_ := Aside0.mk (below_step (by repeat (first | (with_reducible first | exact HB.out | apply below_alloc | apply pw_below_drewN | apply below_drew1) | exact HB.out)) hb); clear HO425; clear HO428; clear HO432; clear HO436; clear HO439; clear HB; have HO425 := n0_; have HO428 := n1_; have HO432 := n2_; have HO436 := n3_; have HO439 := n4_; have HO443 := n5_; have HB := n6_; clear n0_ n1_ n2_ n3_ n4_ n5_ n6_; (try clear hb); (try clear hb2); (try clear hk); (try clear hi); (try clear ho0); obtain ⟨Ao30, co30, eo30⟩ := Kd.R_slice HO443.out; subst eo30) | (go_at_call 13; (with_reducible refine (firkinref01_Same.calls _ _ t426 _ _ t441 true _ ?side1 ?side2 ?side3 ?side4 A12.out).mono ?_); (case side1 => repeat (first | exact (Kd.R_reads' HO428.out).2.2 | (with_reducible refine Kd.C_alloc ?_ _) | (with_reducible refine Kd.C_drewN ?_ _) | (with_reducible refine Kd.C_drew ?_))); (case side2 => exact (Kd.R_reads' HO428.out).2.1); (case side3 => repeat (first | exact (Kd.R_reads' HO443.out).2.2 | (with_reducible refine Kd.C_alloc ?_ _) | (with_reducible refine Kd.C_drewN ?_ _) | (with_reducible refine Kd.C_drew ?_))); (case side4 => exact (Kd.R_reads' HO443.out).2.1); rintro e w' ⟨rfl, ⟨nd, rfl⟩⟩; (try clear A12); obtain ⟨Ao31, co31, eo31⟩ := Kd.R_slice HO432.out; subst eo31) | (go_at_call 33; (with_reducible refine (firkinref01_Names.calls k _ _ t429 _ _ l0 true _ ?side1 ?side2 ?side3 ?side4 A16.out).mono ?_); (case side1 => repeat (first | exact (Kd.R_reads' HO432.out).2.2 | (with_reducible refine Kd.C_alloc ?_ _) | (with_reducible refine Kd.C_drewN ?_ _) | (with_reducible refine Kd.C_drew ?_))); (case side2 => exact (Kd.R_reads' HO432.out).2.1); (case side3 => repeat (first | exact (Kd.C_below HR0.out (by repeat (first | (with_reducible first | exact HB.out | apply below_alloc | apply pw_below_drewN | apply below_drew1) | exact HB.out))) | (with_reducible refine Kd.C_alloc ?_ _) | (with_reducible refine Kd.C_drewN ?_ _) | (with_reducible refine Kd.C_drew ?_))); (case side4 => exact HC0.out); rintro e w' ⟨rfl, ⟨nd, rfl⟩⟩; (try clear A16); obtain ⟨Ao32, co32, eo32⟩ := Kd.R_slice HO436.out; subst eo32) | (go_at_call 33; (with_reducible refine (firkinref01_Names.calls k _ _ t433 _ _ l0 true _ ?side1 ?side2 ?side3 ?side4 A18.out).mono ?_); (case side1 => repeat (first | exact (Kd.R_reads' HO436.out).2.2 | (with_reducible refine Kd.C_alloc ?_ _) | (with_reducible refine Kd.C_drewN ?_ _) | (with_reducible refine Kd.C_drew ?_))); (case side2 => exact (Kd.R_reads' HO436.out).2.1); (case side3 => repeat (first | exact (Kd.C_below HR0.out (by repeat (first | (with_reducible first | exact HB.out | apply below_alloc | apply pw_below_drewN | apply below_drew1) | exact HB.out))) | (with_reducible refine Kd.C_alloc ?_ _) | (with_reducible refine Kd.C_drewN ?_ _) | (with_reducible refine Kd.C_drew ?_))); (case side4 => exact HC0.out); rintro e w' ⟨rfl, ⟨nd, rfl⟩⟩; (try clear A18)) | (go_at_call 30; (with_reducible refine (firkinlaw08_live.calls k  t447 _ A20.out).mono ?_); rintro e w33 ⟨rfl, hb⟩; have n0_ := Aside0.mk (Kd.R_below (by (with_reducible repeat (first | apply Kd.R_alloc | apply Kd.R_drewN | apply Kd.R_drew)); exact HO425.out) hb); have n1_ := Aside0.mk (Kd.R_below (by (with_reducible repeat (first | apply Kd.R_alloc | apply Kd.R_drewN | apply Kd.R_drew)); exact HO428.out) hb); have n2_ := Aside0.mk (Kd.R_below (by (with_reducible repeat (first | apply Kd.R_alloc | apply Kd.R_drewN | apply Kd.R_drew)); exact HO432.out) hb); have n3_ := Aside0.mk (Kd.R_below (by (with_reducible repeat (first | apply Kd.R_alloc | apply Kd.R_drewN | apply Kd.R_drew)); exact HO436.out) hb); have n4_ := Aside0.mk (Kd.R_below (by (with_reducible repeat (first | apply Kd.R_alloc | apply Kd.R_drewN | apply Kd.R_drew)); exact HO439.out) hb); have n5_ := Aside0.mk (Kd.R_below (by (with_reducible repeat (first | apply Kd.R_alloc | apply Kd.R_drewN | apply Kd.R_drew)); exact HO443.out) hb); have n6_ := Aside0.mk (below_step (by repeat (first | (with_reducible first | exact HB.out | apply below_alloc | apply pw_below_drewN | apply below_drew1) | exact HB.out)) hb); clear HO425; clear HO428; clear HO432; clear HO436; clear HO439; clear HO443; clear HB; have HO425 := n0_; have HO428 := n1_; have HO432 := n2_; have HO436 := n3_; have HO439 := n4_; have HO443 := n5_; have HB := n6_; clear n0_ n1_ n2_ n3_ n4_ n5_ n6_; (try clear hb); (try clear hb2); (try clear hk); (try clear hi); (try clear A20)))
                go_ret
                exact ⟨by first | rfl | (simp [errW_none, errW_some] <;> rfl) | (simp [*, errW_none, errW_some] <;> rfl), by repeat (first | (with_reducible first | exact HB.out | apply below_alloc | apply pw_below_drewN | apply below_drew1) | exact HB.out)⟩
              · replace c19 := Bool.eq_false_iff.mpr c19
                subst c19
                have H1 : (some false) = some r := by rw [if_neg (show ¬ (false = true) by decide)] at H; exact H
                clear H
                have H := H1
                clear H1
                obtain rfl := Option.some.inj H
                go_enter Try.func9, Try.ntmps9
                go_wp2_with (first | ((with_reducible refine gate_callee (f := 37) rfl ?_); refine goesL_ (some 10) rfl rfl Try.func37 (by kernel_rfl) rfl #[.slice A0 l0.length c0] rfl (by (try simp only [List.map_toArray, List.map_cons, List.map_nil]); first | done | rfl | (simp only [List.length_drop, List.length_take]; rfl)) ?_; (with_reducible refine (firkinlaw08_small.calls k _ _ l0 true _ ?side1 ?side2 A2.out).mono ?_); (case side1 => repeat (first | exact HR0.out | (with_reducible refine Kd.C_alloc ?_ _) | (with_reducible refine Kd.C_drewN ?_ _) | (with_reducible refine Kd.C_drew ?_))); (case side2 => exact HC0.out); rintro e w' ⟨rfl, ⟨nd, rfl⟩⟩; refine ⟨_, rfl, ?_⟩) | ((with_reducible refine gate_callee (f := 34) rfl ?_); refine goesL_ (some 14) rfl rfl Try.func34 (by kernel_rfl) rfl #[.slice A0 l0.length c0] rfl (by (try simp only [List.map_toArray, List.map_cons, List.map_nil]); first | done | rfl | (simp only [List.length_drop, List.length_take]; rfl)) ?_; (with_reducible refine (dict_Plain.calls k _ _ l0 t423 _ ?side1 ?side2 A4.out).mono ?_); (case side1 => repeat (first | exact HR0.out | (with_reducible refine Kd.C_alloc ?_ _) | (with_reducible refine Kd.C_drewN ?_ _) | (with_reducible refine Kd.C_drew ?_))); (case side2 => exact HC0.out); rintro e w34 ⟨v424, rfl, ho0, hb⟩; refine ⟨_, rfl, ?_⟩; have n0_ := Aside0.mk (Kd.R_lower ho0 (below_size (by repeat (first | (with_reducible first | exact HB.out | apply below_alloc | apply pw_below_drewN | apply below_drew1) | exact HB.out)))); have n1_ := Aside0.mk (below_step (by repeat (first | (with_reducible first | exact HB.out | apply below_alloc | apply pw_below_drewN | apply below_drew1) | exact HB.out)) hb); clear HB; have HO425 := n0_; have HB := n1_; clear n0_ n1_; (try clear hb); (try clear hb2); (try clear hk); (try clear hi); (try clear ho0)) | ((with_reducible refine gate_callee (f := 38) rfl ?_); refine goesL_ (some 16) rfl rfl Try.func38 (by kernel_rfl) rfl #[.slice A0 l0.length c0] rfl (by (try simp only [List.map_toArray, List.map_cons, List.map_nil]); first | done | rfl | (simp only [List.length_drop, List.length_take]; rfl)) ?_; (with_reducible refine (dict_Put.calls k _ _ l0 t426 _ ?side1 ?side2 A5.out).mono ?_); (case side1 => repeat (first | exact (Kd.C_below HR0.out HB.out) | (with_reducible refine Kd.C_alloc ?_ _) | (with_reducible refine Kd.C_drewN ?_ _) | (with_reducible refine Kd.C_drew ?_))); (case side2 => exact HC0.out); rintro e w35 ⟨v427, rfl, ho0, hb⟩; refine ⟨_, rfl, ?_⟩; have n0_ := Aside0.mk (Kd.R_elder' (by (with_reducible repeat (first | apply Kd.R_alloc | apply Kd.R_drewN | apply Kd.R_drew)); exact HO425.out) (Kd.R_base ho0) hb); have n1_ := Aside0.mk (Kd.R_lower (Kd.R_new' ho0 (Kd.R_lt (by (with_reducible repeat (first | apply Kd.R_alloc | apply Kd.R_drewN | apply Kd.R_drew)); exact HO425.out))) (below_size (by repeat (first | (with_reducible first | exact HB.out | apply below_alloc | apply pw_below_drewN | apply below_drew1) | exact HB.out)))); have n2_ := Aside0.mk (below_step (by repeat (first | (with_reducible first | exact HB.out | apply below_alloc | apply pw_below_drewN | apply below_drew1) | exact HB.out)) hb); clear HO425; clear HB; have HO425 := n0_; have HO428 := n1_; have HB := n2_; clear n0_ n1_ n2_; (try clear hb); (try clear hb2); (try clear hk); (try clear hi); (try clear ho0); obtain ⟨Ao36, co36, eo36⟩ := Kd.R_slice HO425.out; subst eo36) | ((with_reducible refine gate_callee (f := 31) rfl ?_); refine goesL_ (some 21) rfl rfl Try.func31 (by kernel_rfl) rfl #[.slice Ao36 t423.length co36, .int .i64 (l0.length : Int), .int .i64 100] rfl (by (try simp only [List.map_toArray, List.map_cons, List.map_nil]); first | done | rfl | (simp only [List.length_drop, List.length_take]; rfl)) ?_; (with_reducible refine (dict_Texts.calls k _ _ t423 (l0.length : Int) 100 t429 true _ ?side1 ?side2 A6.out).mono ?_); (case side1 => repeat (first | exact (Kd.R_reads' HO425.out).2.2 | (with_reducible refine Kd.C_alloc ?_ _) | (with_reducible refine Kd.C_drewN ?_ _) | (with_reducible refine Kd.C_drew ?_))); (case side2 => exact (Kd.R_reads' HO425.out).2.1); rintro e w37 ⟨v431, rfl, ho0, hb⟩; refine ⟨_, rfl, ?_⟩; have n0_ := Aside0.mk (Kd.R_below (by (with_reducible repeat (first | apply Kd.R_alloc | apply Kd.R_drewN | apply Kd.R_drew)); exact HO425.out) hb); have n1_ := Aside0.mk (Kd.R_below (by (with_reducible repeat (first | apply Kd.R_alloc | apply Kd.R_drewN | apply Kd.R_drew)); exact HO428.out) hb); have n2_ := Aside0.mk (Kd.R_lower ho0 (below_size (by repeat (first | (with_reducible first | exact HB.out | apply below_alloc | apply pw_below_drewN | apply below_drew1) | exact HB.out)))); have n3_ := Aside0.mk (below_step (by repeat (first | (with_reducible first | exact HB.out | apply below_alloc | apply pw_below_drewN | apply below_drew1) | exact HB.out)) hb); clear HO425; clear HO428; clear HB; have HO425 := n0_; have HO428 := n1_; have HO432 := n2_; have HB := n3_; clear n0_ n1_ n2_ n3_; (try clear hb); (try clear hb2); (try clear hk); (try clear hi); (try clear ho0); obtain ⟨Ao38, co38, eo38⟩ := Kd.R_slice HO428.out; subst eo38) | ((with_reducible refine gate_callee (f := 35) rfl ?_); refine goesL_ (some 28) rfl rfl Try.func35 (by kernel_rfl) rfl #[.slice Ao38 t426.length co38, .int .i64 (l0.length : Int), .int .i64 100] rfl (by (try simp only [List.map_toArray, List.map_cons, List.map_nil]); first | done | rfl | (simp only [List.length_drop, List.length_take]; rfl)) ?_; (with_reducible refine (dict_Get.calls k _ _ t426 (l0.length : Int) 100 t433 true _ ?side1 ?side2 A7.out).mono ?_); (case side1 => repeat (first | exact (Kd.R_reads' HO428.out).2.2 | (with_reducible refine Kd.C_alloc ?_ _) | (with_reducible refine Kd.C_drewN ?_ _) | (with_reducible refine Kd.C_drew ?_))); (case side2 => exact (Kd.R_reads' HO428.out).2.1); rintro e w39 ⟨v435, rfl, ho0, hb⟩; refine ⟨_, rfl, ?_⟩; have n0_ := Aside0.mk (Kd.R_below (by (with_reducible repeat (first | apply Kd.R_alloc | apply Kd.R_drewN | apply Kd.R_drew)); exact HO425.out) hb); have n1_ := Aside0.mk (Kd.R_below (by (with_reducible repeat (first | apply Kd.R_alloc | apply Kd.R_drewN | apply Kd.R_drew)); exact HO428.out) hb); have n2_ := Aside0.mk (Kd.R_elder' (by (with_reducible repeat (first | apply Kd.R_alloc | apply Kd.R_drewN | apply Kd.R_drew)); exact HO432.out) (Kd.R_base ho0) hb); have n3_ := Aside0.mk (Kd.R_lower (Kd.R_new' ho0 (Kd.R_lt (by (with_reducible repeat (first | apply Kd.R_alloc | apply Kd.R_drewN | apply Kd.R_drew)); exact HO432.out))) (below_size (by repeat (first | (with_reducible first | exact HB.out | apply below_alloc | apply pw_below_drewN | apply below_drew1) | exact HB.out)))); have n4_ := Aside0.mk (below_step (by repeat (first | (with_reducible first | exact HB.out | apply below_alloc | apply pw_below_drewN | apply below_drew1) | exact HB.out)) hb); clear HO425; clear HO428; clear HO432; clear HB; have HO425 := n0_; have HO428 := n1_; have HO432 := n2_; have HO436 := n3_; have HB := n4_; clear n0_ n1_ n2_ n3_ n4_; (try clear hb); (try clear hb2); (try clear hk); (try clear hi); (try clear ho0)) | ((with_reducible refine gate_callee (f := 39) rfl ?_); refine goesL_ (some 33) rfl rfl Try.func39 (by kernel_rfl) rfl #[.slice A0 l0.length c0] rfl (by (try simp only [List.map_toArray, List.map_cons, List.map_nil]); first | done | rfl | (simp only [List.length_drop, List.length_take]; rfl)) ?_; (with_reducible refine (firkinref08_Plain.calls k _ _ l0 t437 _ ?side1 ?side2 A8.out).mono ?_); (case side1 => repeat (first | exact (Kd.C_below HR0.out HB.out) | (with_reducible refine Kd.C_alloc ?_ _) | (with_reducible refine Kd.C_drewN ?_ _) | (with_reducible refine Kd.C_drew ?_))); (case side2 => exact HC0.out); rintro e w40 ⟨v438, rfl, ho0, hb⟩; refine ⟨_, rfl, ?_⟩; have n0_ := Aside0.mk (Kd.R_elder' (by (with_reducible repeat (first | apply Kd.R_alloc | apply Kd.R_drewN | apply Kd.R_drew)); exact HO425.out) (Kd.R_base ho0) hb); have n1_ := Aside0.mk (Kd.R_elder' (by (with_reducible repeat (first | apply Kd.R_alloc | apply Kd.R_drewN | apply Kd.R_drew)); exact HO428.out) (Kd.R_base ho0) hb); have n2_ := Aside0.mk (Kd.R_below (by (with_reducible repeat (first | apply Kd.R_alloc | apply Kd.R_drewN | apply Kd.R_drew)); exact HO432.out) hb); have n3_ := Aside0.mk (Kd.R_below (by (with_reducible repeat (first | apply Kd.R_alloc | apply Kd.R_drewN | apply Kd.R_drew)); exact HO436.out) hb); have n4_ := Aside0.mk (Kd.R_lower (Kd.R_new' (Kd.R_new' ho0 (Kd.R_lt (by (with_reducible repeat (first | apply Kd.R_alloc | apply Kd.R_drewN | apply Kd.R_drew)); exact HO425.out))) (Kd.R_lt (by (with_reducible repeat (first | apply Kd.R_alloc | apply Kd.R_drewN | apply Kd.R_drew)); exact HO428.out))) (below_size (by repeat (first | (with_reducible first | exact HB.out | apply below_alloc | apply pw_below_drewN | apply below_drew1) | exact HB.out)))); have n5_ := Aside0.mk (below_step (by repeat (first | (with_reducible first | exact HB.out | apply below_alloc | apply pw_below_drewN | apply below_drew1) | exact HB.out)) hb); clear HO425; clear HO428; clear HO432; clear HO436; clear HB; have HO425 := n0_; have HO428 := n1_; have HO432 := n2_; have HO436 := n3_; have HO439 := n4_; have HB := n5_; clear n0_ n1_ n2_ n3_ n4_ n5_; (try clear hb); (try clear hb2); (try clear hk); (try clear hi); (try clear ho0); obtain ⟨Ao41, co41, eo41⟩ := Kd.R_slice HO439.out; subst eo41) | ((with_reducible refine gate_callee (f := 13) rfl ?_); refine goesL_ (some 34) rfl rfl Try.func13 (by kernel_rfl) rfl #[.slice Ao36 t423.length co36, .slice Ao41 t437.length co41] rfl (by (try simp only [List.map_toArray, List.map_cons, List.map_nil]); first | done | rfl | (simp only [List.length_drop, List.length_take]; rfl)) ?_; (with_reducible refine (firkinref01_Same.calls _ _ t423 _ _ t437 true _ ?side1 ?side2 ?side3 ?side4 A9.out).mono ?_); (case side1 => repeat (first | exact (Kd.R_reads' HO425.out).2.2 | (with_reducible refine Kd.C_alloc ?_ _) | (with_reducible refine Kd.C_drewN ?_ _) | (with_reducible refine Kd.C_drew ?_))); (case side2 => exact (Kd.R_reads' HO425.out).2.1); (case side3 => repeat (first | exact (Kd.R_reads' HO439.out).2.2 | (with_reducible refine Kd.C_alloc ?_ _) | (with_reducible refine Kd.C_drewN ?_ _) | (with_reducible refine Kd.C_drew ?_))); (case side4 => exact (Kd.R_reads' HO439.out).2.1); rintro e w' ⟨rfl, ⟨nd, rfl⟩⟩; refine ⟨_, rfl, ?_⟩) | (go_at_call 40; (with_reducible refine (firkinref08_Put.calls k _ _ l0 t441 _ ?side1 ?side2 A11.out).mono ?_); (case side1 => repeat (first | exact (Kd.C_below HR0.out (by repeat (first | (with_reducible first | exact HB.out | apply below_alloc | apply pw_below_drewN | apply below_drew1) | exact HB.out))) | (with_reducible refine Kd.C_alloc ?_ _) | (with_reducible refine Kd.C_drewN ?_ _) | (with_reducible refine Kd.C_drew ?_))); (case side2 => exact HC0.out); rintro e w42 ⟨v442, rfl, ho0, hb⟩; have n0_ := Aside0.mk (Kd.R_elder' (by (with_reducible repeat (first | apply Kd.R_alloc | apply Kd.R_drewN | apply Kd.R_drew)); exact HO425.out) (Kd.R_base ho0) hb); have n1_ := Aside0.mk (Kd.R_elder' (by (with_reducible repeat (first | apply Kd.R_alloc | apply Kd.R_drewN | apply Kd.R_drew)); exact HO428.out) (Kd.R_base ho0) hb); have n2_ := Aside0.mk (Kd.R_below (by (with_reducible repeat (first | apply Kd.R_alloc | apply Kd.R_drewN | apply Kd.R_drew)); exact HO432.out) hb); have n3_ := Aside0.mk (Kd.R_below (by (with_reducible repeat (first | apply Kd.R_alloc | apply Kd.R_drewN | apply Kd.R_drew)); exact HO436.out) hb); have n4_ := Aside0.mk (Kd.R_elder' (by (with_reducible repeat (first | apply Kd.R_alloc | apply Kd.R_drewN | apply Kd.R_drew)); exact HO439.out) (Kd.R_base ho0) hb); have n5_ := Aside0.mk (Kd.R_lower (Kd.R_new' (Kd.R_new' (Kd.R_new' ho0 (Kd.R_lt (by (with_reducible repeat (first | apply Kd.R_alloc | apply Kd.R_drewN | apply Kd.R_drew)); exact HO425.out))) (Kd.R_lt (by (with_reducible repeat (first | apply Kd.R_alloc | apply Kd.R_drewN | apply Kd.R_drew)); exact HO428.out))) (Kd.R_lt (by (with_reducible repeat (first | apply Kd.R_alloc | apply Kd.R_drewN | apply Kd.R_drew)); exact HO439.out))) (below_size (by repeat (first | (with_reducible first | exact HB.out | apply below_alloc | apply pw_below_drewN | apply below_drew1) | exact HB.out)))); have n6_ := Aside0.mk (below_step (by repeat (first | (with_reducible first | exact HB.out | apply below_alloc | apply pw_below_drewN | apply below_drew1) | exact HB.out)) hb); clear HO425; clear HO428; clear HO432; clear HO436; clear HO439; clear HB; have HO425 := n0_; have HO428 := n1_; have HO432 := n2_; have HO436 := n3_; have HO439 := n4_; have HO443 := n5_; have HB := n6_; clear n0_ n1_ n2_ n3_ n4_ n5_ n6_; (try clear hb); (try clear hb2); (try clear hk); (try clear hi); (try clear ho0); obtain ⟨Ao43, co43, eo43⟩ := Kd.R_slice HO443.out; subst eo43) | (go_at_call 13; (with_reducible refine (firkinref01_Same.calls _ _ t426 _ _ t441 true _ ?side1 ?side2 ?side3 ?side4 A12.out).mono ?_); (case side1 => repeat (first | exact (Kd.R_reads' HO428.out).2.2 | (with_reducible refine Kd.C_alloc ?_ _) | (with_reducible refine Kd.C_drewN ?_ _) | (with_reducible refine Kd.C_drew ?_))); (case side2 => exact (Kd.R_reads' HO428.out).2.1); (case side3 => repeat (first | exact (Kd.R_reads' HO443.out).2.2 | (with_reducible refine Kd.C_alloc ?_ _) | (with_reducible refine Kd.C_drewN ?_ _) | (with_reducible refine Kd.C_drew ?_))); (case side4 => exact (Kd.R_reads' HO443.out).2.1); rintro e w' ⟨rfl, ⟨nd, rfl⟩⟩; (try clear A12); obtain ⟨Ao44, co44, eo44⟩ := Kd.R_slice HO432.out; subst eo44) | (go_at_call 33; (with_reducible refine (firkinref01_Names.calls k _ _ t429 _ _ l0 true _ ?side1 ?side2 ?side3 ?side4 A16.out).mono ?_); (case side1 => repeat (first | exact (Kd.R_reads' HO432.out).2.2 | (with_reducible refine Kd.C_alloc ?_ _) | (with_reducible refine Kd.C_drewN ?_ _) | (with_reducible refine Kd.C_drew ?_))); (case side2 => exact (Kd.R_reads' HO432.out).2.1); (case side3 => repeat (first | exact (Kd.C_below HR0.out (by repeat (first | (with_reducible first | exact HB.out | apply below_alloc | apply pw_below_drewN | apply below_drew1) | exact HB.out))) | (with_reducible refine Kd.C_alloc ?_ _) | (with_reducible refine Kd.C_drewN ?_ _) | (with_reducible refine Kd.C_drew ?_))); (case side4 => exact HC0.out); rintro e w' ⟨rfl, ⟨nd, rfl⟩⟩; (try clear A16); obtain ⟨Ao45, co45, eo45⟩ := Kd.R_slice HO436.out; subst eo45) | (go_at_call 33; (with_reducible refine (firkinref01_Names.calls k _ _ t433 _ _ l0 false _ ?side1 ?side2 ?side3 ?side4 A18.out).mono ?_); (case side1 => repeat (first | exact (Kd.R_reads' HO436.out).2.2 | (with_reducible refine Kd.C_alloc ?_ _) | (with_reducible refine Kd.C_drewN ?_ _) | (with_reducible refine Kd.C_drew ?_))); (case side2 => exact (Kd.R_reads' HO436.out).2.1); (case side3 => repeat (first | exact (Kd.C_below HR0.out (by repeat (first | (with_reducible first | exact HB.out | apply below_alloc | apply pw_below_drewN | apply below_drew1) | exact HB.out))) | (with_reducible refine Kd.C_alloc ?_ _) | (with_reducible refine Kd.C_drewN ?_ _) | (with_reducible refine Kd.C_drew ?_))); (case side4 => exact HC0.out); rintro e w' ⟨rfl, ⟨nd, rfl⟩⟩; (try clear A18)))
                go_ret
                exact ⟨by first | rfl | (simp [errW_none, errW_some] <;> rfl) | (simp [*, errW_none, errW_some] <;> rfl), by repeat (first | (with_reducible first | exact HB.out | apply below_alloc | apply pw_below_drewN | apply below_drew1) | exact HB.out)⟩
            · replace c17 := Bool.eq_false_iff.mpr c17
              subst c17
              have H1 : (some false) = some r := by rw [if_neg (show ¬ (false = true) by decide)] at H; exact H
              clear H
              have H := H1
              clear H1
              obtain rfl := Option.some.inj H
              go_enter Try.func9, Try.ntmps9
              go_wp2_with (first | ((with_reducible refine gate_callee (f := 37) rfl ?_); refine goesL_ (some 10) rfl rfl Try.func37 (by kernel_rfl) rfl #[.slice A0 l0.length c0] rfl (by (try simp only [List.map_toArray, List.map_cons, List.map_nil]); first | done | rfl | (simp only [List.length_drop, List.length_take]; rfl)) ?_; (with_reducible refine (firkinlaw08_small.calls k _ _ l0 true _ ?side1 ?side2 A2.out).mono ?_); (case side1 => repeat (first | exact HR0.out | (with_reducible refine Kd.C_alloc ?_ _) | (with_reducible refine Kd.C_drewN ?_ _) | (with_reducible refine Kd.C_drew ?_))); (case side2 => exact HC0.out); rintro e w' ⟨rfl, ⟨nd, rfl⟩⟩; refine ⟨_, rfl, ?_⟩) | ((with_reducible refine gate_callee (f := 34) rfl ?_); refine goesL_ (some 14) rfl rfl Try.func34 (by kernel_rfl) rfl #[.slice A0 l0.length c0] rfl (by (try simp only [List.map_toArray, List.map_cons, List.map_nil]); first | done | rfl | (simp only [List.length_drop, List.length_take]; rfl)) ?_; (with_reducible refine (dict_Plain.calls k _ _ l0 t423 _ ?side1 ?side2 A4.out).mono ?_); (case side1 => repeat (first | exact HR0.out | (with_reducible refine Kd.C_alloc ?_ _) | (with_reducible refine Kd.C_drewN ?_ _) | (with_reducible refine Kd.C_drew ?_))); (case side2 => exact HC0.out); rintro e w46 ⟨v424, rfl, ho0, hb⟩; refine ⟨_, rfl, ?_⟩; have n0_ := Aside0.mk (Kd.R_lower ho0 (below_size (by repeat (first | (with_reducible first | exact HB.out | apply below_alloc | apply pw_below_drewN | apply below_drew1) | exact HB.out)))); have n1_ := Aside0.mk (below_step (by repeat (first | (with_reducible first | exact HB.out | apply below_alloc | apply pw_below_drewN | apply below_drew1) | exact HB.out)) hb); clear HB; have HO425 := n0_; have HB := n1_; clear n0_ n1_; (try clear hb); (try clear hb2); (try clear hk); (try clear hi); (try clear ho0)) | ((with_reducible refine gate_callee (f := 38) rfl ?_); refine goesL_ (some 16) rfl rfl Try.func38 (by kernel_rfl) rfl #[.slice A0 l0.length c0] rfl (by (try simp only [List.map_toArray, List.map_cons, List.map_nil]); first | done | rfl | (simp only [List.length_drop, List.length_take]; rfl)) ?_; (with_reducible refine (dict_Put.calls k _ _ l0 t426 _ ?side1 ?side2 A5.out).mono ?_); (case side1 => repeat (first | exact (Kd.C_below HR0.out HB.out) | (with_reducible refine Kd.C_alloc ?_ _) | (with_reducible refine Kd.C_drewN ?_ _) | (with_reducible refine Kd.C_drew ?_))); (case side2 => exact HC0.out); rintro e w47 ⟨v427, rfl, ho0, hb⟩; refine ⟨_, rfl, ?_⟩; have n0_ := Aside0.mk (Kd.R_elder' (by (with_reducible repeat (first | apply Kd.R_alloc | apply Kd.R_drewN | apply Kd.R_drew)); exact HO425.out) (Kd.R_base ho0) hb); have n1_ := Aside0.mk (Kd.R_lower (Kd.R_new' ho0 (Kd.R_lt (by (with_reducible repeat (first | apply Kd.R_alloc | apply Kd.R_drewN | apply Kd.R_drew)); exact HO425.out))) (below_size (by repeat (first | (with_reducible first | exact HB.out | apply below_alloc | apply pw_below_drewN | apply below_drew1) | exact HB.out)))); have n2_ := Aside0.mk (below_step (by repeat (first | (with_reducible first | exact HB.out | apply below_alloc | apply pw_below_drewN | apply below_drew1) | exact HB.out)) hb); clear HO425; clear HB; have HO425 := n0_; have HO428 := n1_; have HB := n2_; clear n0_ n1_ n2_; (try clear hb); (try clear hb2); (try clear hk); (try clear hi); (try clear ho0); obtain ⟨Ao48, co48, eo48⟩ := Kd.R_slice HO425.out; subst eo48) | ((with_reducible refine gate_callee (f := 31) rfl ?_); refine goesL_ (some 21) rfl rfl Try.func31 (by kernel_rfl) rfl #[.slice Ao48 t423.length co48, .int .i64 (l0.length : Int), .int .i64 100] rfl (by (try simp only [List.map_toArray, List.map_cons, List.map_nil]); first | done | rfl | (simp only [List.length_drop, List.length_take]; rfl)) ?_; (with_reducible refine (dict_Texts.calls k _ _ t423 (l0.length : Int) 100 t429 true _ ?side1 ?side2 A6.out).mono ?_); (case side1 => repeat (first | exact (Kd.R_reads' HO425.out).2.2 | (with_reducible refine Kd.C_alloc ?_ _) | (with_reducible refine Kd.C_drewN ?_ _) | (with_reducible refine Kd.C_drew ?_))); (case side2 => exact (Kd.R_reads' HO425.out).2.1); rintro e w49 ⟨v431, rfl, ho0, hb⟩; refine ⟨_, rfl, ?_⟩; have n0_ := Aside0.mk (Kd.R_below (by (with_reducible repeat (first | apply Kd.R_alloc | apply Kd.R_drewN | apply Kd.R_drew)); exact HO425.out) hb); have n1_ := Aside0.mk (Kd.R_below (by (with_reducible repeat (first | apply Kd.R_alloc | apply Kd.R_drewN | apply Kd.R_drew)); exact HO428.out) hb); have n2_ := Aside0.mk (Kd.R_lower ho0 (below_size (by repeat (first | (with_reducible first | exact HB.out | apply below_alloc | apply pw_below_drewN | apply below_drew1) | exact HB.out)))); have n3_ := Aside0.mk (below_step (by repeat (first | (with_reducible first | exact HB.out | apply below_alloc | apply pw_below_drewN | apply below_drew1) | exact HB.out)) hb); clear HO425; clear HO428; clear HB; have HO425 := n0_; have HO428 := n1_; have HO432 := n2_; have HB := n3_; clear n0_ n1_ n2_ n3_; (try clear hb); (try clear hb2); (try clear hk); (try clear hi); (try clear ho0); obtain ⟨Ao50, co50, eo50⟩ := Kd.R_slice HO428.out; subst eo50) | ((with_reducible refine gate_callee (f := 35) rfl ?_); refine goesL_ (some 28) rfl rfl Try.func35 (by kernel_rfl) rfl #[.slice Ao50 t426.length co50, .int .i64 (l0.length : Int), .int .i64 100] rfl (by (try simp only [List.map_toArray, List.map_cons, List.map_nil]); first | done | rfl | (simp only [List.length_drop, List.length_take]; rfl)) ?_; (with_reducible refine (dict_Get.calls k _ _ t426 (l0.length : Int) 100 t433 true _ ?side1 ?side2 A7.out).mono ?_); (case side1 => repeat (first | exact (Kd.R_reads' HO428.out).2.2 | (with_reducible refine Kd.C_alloc ?_ _) | (with_reducible refine Kd.C_drewN ?_ _) | (with_reducible refine Kd.C_drew ?_))); (case side2 => exact (Kd.R_reads' HO428.out).2.1); rintro e w51 ⟨v435, rfl, ho0, hb⟩; refine ⟨_, rfl, ?_⟩; have n0_ := Aside0.mk (Kd.R_below (by (with_reducible repeat (first | apply Kd.R_alloc | apply Kd.R_drewN | apply Kd.R_drew)); exact HO425.out) hb); have n1_ := Aside0.mk (Kd.R_below (by (with_reducible repeat (first | apply Kd.R_alloc | apply Kd.R_drewN | apply Kd.R_drew)); exact HO428.out) hb); have n2_ := Aside0.mk (Kd.R_elder' (by (with_reducible repeat (first | apply Kd.R_alloc | apply Kd.R_drewN | apply Kd.R_drew)); exact HO432.out) (Kd.R_base ho0) hb); have n3_ := Aside0.mk (Kd.R_lower (Kd.R_new' ho0 (Kd.R_lt (by (with_reducible repeat (first | apply Kd.R_alloc | apply Kd.R_drewN | apply Kd.R_drew)); exact HO432.out))) (below_size (by repeat (first | (with_reducible first | exact HB.out | apply below_alloc | apply pw_below_drewN | apply below_drew1) | exact HB.out)))); have n4_ := Aside0.mk (below_step (by repeat (first | (with_reducible first | exact HB.out | apply below_alloc | apply pw_below_drewN | apply below_drew1) | exact HB.out)) hb); clear HO425; clear HO428; clear HO432; clear HB; have HO425 := n0_; have HO428 := n1_; have HO432 := n2_; have HO436 := n3_; have HB := n4_; clear n0_ n1_ n2_ n3_ n4_; (try clear hb); (try clear hb2); (try clear hk); (try clear hi); (try clear ho0)) | ((with_reducible refine gate_callee (f := 39) rfl ?_); refine goesL_ (some 33) rfl rfl Try.func39 (by kernel_rfl) rfl #[.slice A0 l0.length c0] rfl (by (try simp only [List.map_toArray, List.map_cons, List.map_nil]); first | done | rfl | (simp only [List.length_drop, List.length_take]; rfl)) ?_; (with_reducible refine (firkinref08_Plain.calls k _ _ l0 t437 _ ?side1 ?side2 A8.out).mono ?_); (case side1 => repeat (first | exact (Kd.C_below HR0.out HB.out) | (with_reducible refine Kd.C_alloc ?_ _) | (with_reducible refine Kd.C_drewN ?_ _) | (with_reducible refine Kd.C_drew ?_))); (case side2 => exact HC0.out); rintro e w52 ⟨v438, rfl, ho0, hb⟩; refine ⟨_, rfl, ?_⟩; have n0_ := Aside0.mk (Kd.R_elder' (by (with_reducible repeat (first | apply Kd.R_alloc | apply Kd.R_drewN | apply Kd.R_drew)); exact HO425.out) (Kd.R_base ho0) hb); have n1_ := Aside0.mk (Kd.R_elder' (by (with_reducible repeat (first | apply Kd.R_alloc | apply Kd.R_drewN | apply Kd.R_drew)); exact HO428.out) (Kd.R_base ho0) hb); have n2_ := Aside0.mk (Kd.R_below (by (with_reducible repeat (first | apply Kd.R_alloc | apply Kd.R_drewN | apply Kd.R_drew)); exact HO432.out) hb); have n3_ := Aside0.mk (Kd.R_below (by (with_reducible repeat (first | apply Kd.R_alloc | apply Kd.R_drewN | apply Kd.R_drew)); exact HO436.out) hb); have n4_ := Aside0.mk (Kd.R_lower (Kd.R_new' (Kd.R_new' ho0 (Kd.R_lt (by (with_reducible repeat (first | apply Kd.R_alloc | apply Kd.R_drewN | apply Kd.R_drew)); exact HO425.out))) (Kd.R_lt (by (with_reducible repeat (first | apply Kd.R_alloc | apply Kd.R_drewN | apply Kd.R_drew)); exact HO428.out))) (below_size (by repeat (first | (with_reducible first | exact HB.out | apply below_alloc | apply pw_below_drewN | apply below_drew1) | exact HB.out)))); have n5_ := Aside0.mk (below_step (by repeat (first | (with_reducible first | exact HB.out | apply below_alloc | apply pw_below_drewN | apply below_drew1) | exact HB.out)) hb); clear HO425; clear HO428; clear HO432; clear HO436; clear HB; have HO425 := n0_; have HO428 := n1_; have HO432 := n2_; have HO436 := n3_; have HO439 := n4_; have HB := n5_; clear n0_ n1_ n2_ n3_ n4_ n5_; (try clear hb); (try clear hb2); (try clear hk); (try clear hi); (try clear ho0); obtain ⟨Ao53, co53, eo53⟩ := Kd.R_slice HO439.out; subst eo53) | ((with_reducible refine gate_callee (f := 13) rfl ?_); refine goesL_ (some 34) rfl rfl Try.func13 (by kernel_rfl) rfl #[.slice Ao48 t423.length co48, .slice Ao53 t437.length co53] rfl (by (try simp only [List.map_toArray, List.map_cons, List.map_nil]); first | done | rfl | (simp only [List.length_drop, List.length_take]; rfl)) ?_; (with_reducible refine (firkinref01_Same.calls _ _ t423 _ _ t437 true _ ?side1 ?side2 ?side3 ?side4 A9.out).mono ?_); (case side1 => repeat (first | exact (Kd.R_reads' HO425.out).2.2 | (with_reducible refine Kd.C_alloc ?_ _) | (with_reducible refine Kd.C_drewN ?_ _) | (with_reducible refine Kd.C_drew ?_))); (case side2 => exact (Kd.R_reads' HO425.out).2.1); (case side3 => repeat (first | exact (Kd.R_reads' HO439.out).2.2 | (with_reducible refine Kd.C_alloc ?_ _) | (with_reducible refine Kd.C_drewN ?_ _) | (with_reducible refine Kd.C_drew ?_))); (case side4 => exact (Kd.R_reads' HO439.out).2.1); rintro e w' ⟨rfl, ⟨nd, rfl⟩⟩; refine ⟨_, rfl, ?_⟩) | (go_at_call 40; (with_reducible refine (firkinref08_Put.calls k _ _ l0 t441 _ ?side1 ?side2 A11.out).mono ?_); (case side1 => repeat (first | exact (Kd.C_below HR0.out (by repeat (first | (with_reducible first | exact HB.out | apply below_alloc | apply pw_below_drewN | apply below_drew1) | exact HB.out))) | (with_reducible refine Kd.C_alloc ?_ _) | (with_reducible refine Kd.C_drewN ?_ _) | (with_reducible refine Kd.C_drew ?_))); (case side2 => exact HC0.out); rintro e w54 ⟨v442, rfl, ho0, hb⟩; have n0_ := Aside0.mk (Kd.R_elder' (by (with_reducible repeat (first | apply Kd.R_alloc | apply Kd.R_drewN | apply Kd.R_drew)); exact HO425.out) (Kd.R_base ho0) hb); have n1_ := Aside0.mk (Kd.R_elder' (by (with_reducible repeat (first | apply Kd.R_alloc | apply Kd.R_drewN | apply Kd.R_drew)); exact HO428.out) (Kd.R_base ho0) hb); have n2_ := Aside0.mk (Kd.R_below (by (with_reducible repeat (first | apply Kd.R_alloc | apply Kd.R_drewN | apply Kd.R_drew)); exact HO432.out) hb); have n3_ := Aside0.mk (Kd.R_below (by (with_reducible repeat (first | apply Kd.R_alloc | apply Kd.R_drewN | apply Kd.R_drew)); exact HO436.out) hb); have n4_ := Aside0.mk (Kd.R_elder' (by (with_reducible repeat (first | apply Kd.R_alloc | apply Kd.R_drewN | apply Kd.R_drew)); exact HO439.out) (Kd.R_base ho0) hb); have n5_ := Aside0.mk (Kd.R_lower (Kd.R_new' (Kd.R_new' (Kd.R_new' ho0 (Kd.R_lt (by (with_reducible repeat (first | apply Kd.R_alloc | apply Kd.R_drewN | apply Kd.R_drew)); exact HO425.out))) (Kd.R_lt (by (with_reducible repeat (first | apply Kd.R_alloc | apply Kd.R_drewN | apply Kd.R_drew)); exact HO428.out))) (Kd.R_lt (by (with_reducible repeat (first | apply Kd.R_alloc | apply Kd.R_drewN | apply Kd.R_drew)); exact HO439.out))) (below_size (by repeat (first | (with_reducible first | exact HB.out | apply below_alloc | apply pw_below_drewN | apply below_drew1) | exact HB.out)))); have n6_ := Aside0.mk (below_step (by repeat (first | (with_reducible first | exact HB.out | apply below_alloc | apply pw_below_drewN | apply below_drew1) | exact HB.out)) hb); clear HO425; clear HO428; clear HO432; clear HO436; clear HO439; clear HB; have HO425 := n0_; have HO428 := n1_; have HO432 := n2_; have HO436 := n3_; have HO439 := n4_; have HO443 := n5_; have HB := n6_; clear n0_ n1_ n2_ n3_ n4_ n5_ n6_; (try clear hb); (try clear hb2); (try clear hk); (try clear hi); (try clear ho0); obtain ⟨Ao55, co55, eo55⟩ := Kd.R_slice HO443.out; subst eo55) | (go_at_call 13; (with_reducible refine (firkinref01_Same.calls _ _ t426 _ _ t441 true _ ?side1 ?side2 ?side3 ?side4 A12.out).mono ?_); (case side1 => repeat (first | exact (Kd.R_reads' HO428.out).2.2 | (with_reducible refine Kd.C_alloc ?_ _) | (with_reducible refine Kd.C_drewN ?_ _) | (with_reducible refine Kd.C_drew ?_))); (case side2 => exact (Kd.R_reads' HO428.out).2.1); (case side3 => repeat (first | exact (Kd.R_reads' HO443.out).2.2 | (with_reducible refine Kd.C_alloc ?_ _) | (with_reducible refine Kd.C_drewN ?_ _) | (with_reducible refine Kd.C_drew ?_))); (case side4 => exact (Kd.R_reads' HO443.out).2.1); rintro e w' ⟨rfl, ⟨nd, rfl⟩⟩; (try clear A12); obtain ⟨Ao56, co56, eo56⟩ := Kd.R_slice HO432.out; subst eo56) | (go_at_call 33; (with_reducible refine (firkinref01_Names.calls k _ _ t429 _ _ l0 false _ ?side1 ?side2 ?side3 ?side4 A16.out).mono ?_); (case side1 => repeat (first | exact (Kd.R_reads' HO432.out).2.2 | (with_reducible refine Kd.C_alloc ?_ _) | (with_reducible refine Kd.C_drewN ?_ _) | (with_reducible refine Kd.C_drew ?_))); (case side2 => exact (Kd.R_reads' HO432.out).2.1); (case side3 => repeat (first | exact (Kd.C_below HR0.out (by repeat (first | (with_reducible first | exact HB.out | apply below_alloc | apply pw_below_drewN | apply below_drew1) | exact HB.out))) | (with_reducible refine Kd.C_alloc ?_ _) | (with_reducible refine Kd.C_drewN ?_ _) | (with_reducible refine Kd.C_drew ?_))); (case side4 => exact HC0.out); rintro e w' ⟨rfl, ⟨nd, rfl⟩⟩; (try clear A16)))
              go_ret
              exact ⟨by first | rfl | (simp [errW_none, errW_some] <;> rfl) | (simp [*, errW_none, errW_some] <;> rfl), by repeat (first | (with_reducible first | exact HB.out | apply below_alloc | apply pw_below_drewN | apply below_drew1) | exact HB.out)⟩
          · replace c15 := Bool.eq_false_iff.mpr c15
            subst c15
            have H1 : (some false) = some r := by rw [if_neg (show ¬ (false = true) by decide)] at H; exact H
            clear H
            have H := H1
            clear H1
            obtain rfl := Option.some.inj H
            go_enter Try.func9, Try.ntmps9
            go_wp2_with (first | ((with_reducible refine gate_callee (f := 37) rfl ?_); refine goesL_ (some 10) rfl rfl Try.func37 (by kernel_rfl) rfl #[.slice A0 l0.length c0] rfl (by (try simp only [List.map_toArray, List.map_cons, List.map_nil]); first | done | rfl | (simp only [List.length_drop, List.length_take]; rfl)) ?_; (with_reducible refine (firkinlaw08_small.calls k _ _ l0 true _ ?side1 ?side2 A2.out).mono ?_); (case side1 => repeat (first | exact HR0.out | (with_reducible refine Kd.C_alloc ?_ _) | (with_reducible refine Kd.C_drewN ?_ _) | (with_reducible refine Kd.C_drew ?_))); (case side2 => exact HC0.out); rintro e w' ⟨rfl, ⟨nd, rfl⟩⟩; refine ⟨_, rfl, ?_⟩) | ((with_reducible refine gate_callee (f := 34) rfl ?_); refine goesL_ (some 14) rfl rfl Try.func34 (by kernel_rfl) rfl #[.slice A0 l0.length c0] rfl (by (try simp only [List.map_toArray, List.map_cons, List.map_nil]); first | done | rfl | (simp only [List.length_drop, List.length_take]; rfl)) ?_; (with_reducible refine (dict_Plain.calls k _ _ l0 t423 _ ?side1 ?side2 A4.out).mono ?_); (case side1 => repeat (first | exact HR0.out | (with_reducible refine Kd.C_alloc ?_ _) | (with_reducible refine Kd.C_drewN ?_ _) | (with_reducible refine Kd.C_drew ?_))); (case side2 => exact HC0.out); rintro e w57 ⟨v424, rfl, ho0, hb⟩; refine ⟨_, rfl, ?_⟩; have n0_ := Aside0.mk (Kd.R_lower ho0 (below_size (by repeat (first | (with_reducible first | exact HB.out | apply below_alloc | apply pw_below_drewN | apply below_drew1) | exact HB.out)))); have n1_ := Aside0.mk (below_step (by repeat (first | (with_reducible first | exact HB.out | apply below_alloc | apply pw_below_drewN | apply below_drew1) | exact HB.out)) hb); clear HB; have HO425 := n0_; have HB := n1_; clear n0_ n1_; (try clear hb); (try clear hb2); (try clear hk); (try clear hi); (try clear ho0)) | ((with_reducible refine gate_callee (f := 38) rfl ?_); refine goesL_ (some 16) rfl rfl Try.func38 (by kernel_rfl) rfl #[.slice A0 l0.length c0] rfl (by (try simp only [List.map_toArray, List.map_cons, List.map_nil]); first | done | rfl | (simp only [List.length_drop, List.length_take]; rfl)) ?_; (with_reducible refine (dict_Put.calls k _ _ l0 t426 _ ?side1 ?side2 A5.out).mono ?_); (case side1 => repeat (first | exact (Kd.C_below HR0.out HB.out) | (with_reducible refine Kd.C_alloc ?_ _) | (with_reducible refine Kd.C_drewN ?_ _) | (with_reducible refine Kd.C_drew ?_))); (case side2 => exact HC0.out); rintro e w58 ⟨v427, rfl, ho0, hb⟩; refine ⟨_, rfl, ?_⟩; have n0_ := Aside0.mk (Kd.R_elder' (by (with_reducible repeat (first | apply Kd.R_alloc | apply Kd.R_drewN | apply Kd.R_drew)); exact HO425.out) (Kd.R_base ho0) hb); have n1_ := Aside0.mk (Kd.R_lower (Kd.R_new' ho0 (Kd.R_lt (by (with_reducible repeat (first | apply Kd.R_alloc | apply Kd.R_drewN | apply Kd.R_drew)); exact HO425.out))) (below_size (by repeat (first | (with_reducible first | exact HB.out | apply below_alloc | apply pw_below_drewN | apply below_drew1) | exact HB.out)))); have n2_ := Aside0.mk (below_step (by repeat (first | (with_reducible first | exact HB.out | apply below_alloc | apply pw_below_drewN | apply below_drew1) | exact HB.out)) hb); clear HO425; clear HB; have HO425 := n0_; have HO428 := n1_; have HB := n2_; clear n0_ n1_ n2_; (try clear hb); (try clear hb2); (try clear hk); (try clear hi); (try clear ho0); obtain ⟨Ao59, co59, eo59⟩ := Kd.R_slice HO425.out; subst eo59) | ((with_reducible refine gate_callee (f := 31) rfl ?_); refine goesL_ (some 21) rfl rfl Try.func31 (by kernel_rfl) rfl #[.slice Ao59 t423.length co59, .int .i64 (l0.length : Int), .int .i64 100] rfl (by (try simp only [List.map_toArray, List.map_cons, List.map_nil]); first | done | rfl | (simp only [List.length_drop, List.length_take]; rfl)) ?_; (with_reducible refine (dict_Texts.calls k _ _ t423 (l0.length : Int) 100 t429 true _ ?side1 ?side2 A6.out).mono ?_); (case side1 => repeat (first | exact (Kd.R_reads' HO425.out).2.2 | (with_reducible refine Kd.C_alloc ?_ _) | (with_reducible refine Kd.C_drewN ?_ _) | (with_reducible refine Kd.C_drew ?_))); (case side2 => exact (Kd.R_reads' HO425.out).2.1); rintro e w60 ⟨v431, rfl, ho0, hb⟩; refine ⟨_, rfl, ?_⟩; have n0_ := Aside0.mk (Kd.R_below (by (with_reducible repeat (first | apply Kd.R_alloc | apply Kd.R_drewN | apply Kd.R_drew)); exact HO425.out) hb); have n1_ := Aside0.mk (Kd.R_below (by (with_reducible repeat (first | apply Kd.R_alloc | apply Kd.R_drewN | apply Kd.R_drew)); exact HO428.out) hb); have n2_ := Aside0.mk (Kd.R_lower ho0 (below_size (by repeat (first | (with_reducible first | exact HB.out | apply below_alloc | apply pw_below_drewN | apply below_drew1) | exact HB.out)))); have n3_ := Aside0.mk (below_step (by repeat (first | (with_reducible first | exact HB.out | apply below_alloc | apply pw_below_drewN | apply below_drew1) | exact HB.out)) hb); clear HO425; clear HO428; clear HB; have HO425 := n0_; have HO428 := n1_; have HO432 := n2_; have HB := n3_; clear n0_ n1_ n2_ n3_; (try clear hb); (try clear hb2); (try clear hk); (try clear hi); (try clear ho0); obtain ⟨Ao61, co61, eo61⟩ := Kd.R_slice HO428.out; subst eo61) | ((with_reducible refine gate_callee (f := 35) rfl ?_); refine goesL_ (some 28) rfl rfl Try.func35 (by kernel_rfl) rfl #[.slice Ao61 t426.length co61, .int .i64 (l0.length : Int), .int .i64 100] rfl (by (try simp only [List.map_toArray, List.map_cons, List.map_nil]); first | done | rfl | (simp only [List.length_drop, List.length_take]; rfl)) ?_; (with_reducible refine (dict_Get.calls k _ _ t426 (l0.length : Int) 100 t433 false _ ?side1 ?side2 A7.out).mono ?_); (case side1 => repeat (first | exact (Kd.R_reads' HO428.out).2.2 | (with_reducible refine Kd.C_alloc ?_ _) | (with_reducible refine Kd.C_drewN ?_ _) | (with_reducible refine Kd.C_drew ?_))); (case side2 => exact (Kd.R_reads' HO428.out).2.1); rintro e w62 ⟨v435, rfl, ho0, hb⟩; refine ⟨_, rfl, ?_⟩; have n0_ := Aside0.mk (Kd.R_below (by (with_reducible repeat (first | apply Kd.R_alloc | apply Kd.R_drewN | apply Kd.R_drew)); exact HO425.out) hb); have n1_ := Aside0.mk (Kd.R_below (by (with_reducible repeat (first | apply Kd.R_alloc | apply Kd.R_drewN | apply Kd.R_drew)); exact HO428.out) hb); have n2_ := Aside0.mk (Kd.R_elder' (by (with_reducible repeat (first | apply Kd.R_alloc | apply Kd.R_drewN | apply Kd.R_drew)); exact HO432.out) (Kd.R_base ho0) hb); have n3_ := Aside0.mk (Kd.R_lower (Kd.R_new' ho0 (Kd.R_lt (by (with_reducible repeat (first | apply Kd.R_alloc | apply Kd.R_drewN | apply Kd.R_drew)); exact HO432.out))) (below_size (by repeat (first | (with_reducible first | exact HB.out | apply below_alloc | apply pw_below_drewN | apply below_drew1) | exact HB.out)))); have n4_ := Aside0.mk (below_step (by repeat (first | (with_reducible first | exact HB.out | apply below_alloc | apply pw_below_drewN | apply below_drew1) | exact HB.out)) hb); clear HO425; clear HO428; clear HO432; clear HB; have HO425 := n0_; have HO428 := n1_; have HO432 := n2_; have HO436 := n3_; have HB := n4_; clear n0_ n1_ n2_ n3_ n4_; (try clear hb); (try clear hb2); (try clear hk); (try clear hi); (try clear ho0)) | ((with_reducible refine gate_callee (f := 39) rfl ?_); refine goesL_ (some 33) rfl rfl Try.func39 (by kernel_rfl) rfl #[.slice A0 l0.length c0] rfl (by (try simp only [List.map_toArray, List.map_cons, List.map_nil]); first | done | rfl | (simp only [List.length_drop, List.length_take]; rfl)) ?_; (with_reducible refine (firkinref08_Plain.calls k _ _ l0 t437 _ ?side1 ?side2 A8.out).mono ?_); (case side1 => repeat (first | exact (Kd.C_below HR0.out HB.out) | (with_reducible refine Kd.C_alloc ?_ _) | (with_reducible refine Kd.C_drewN ?_ _) | (with_reducible refine Kd.C_drew ?_))); (case side2 => exact HC0.out); rintro e w63 ⟨v438, rfl, ho0, hb⟩; refine ⟨_, rfl, ?_⟩; have n0_ := Aside0.mk (Kd.R_elder' (by (with_reducible repeat (first | apply Kd.R_alloc | apply Kd.R_drewN | apply Kd.R_drew)); exact HO425.out) (Kd.R_base ho0) hb); have n1_ := Aside0.mk (Kd.R_elder' (by (with_reducible repeat (first | apply Kd.R_alloc | apply Kd.R_drewN | apply Kd.R_drew)); exact HO428.out) (Kd.R_base ho0) hb); have n2_ := Aside0.mk (Kd.R_below (by (with_reducible repeat (first | apply Kd.R_alloc | apply Kd.R_drewN | apply Kd.R_drew)); exact HO432.out) hb); have n3_ := Aside0.mk (Kd.R_below (by (with_reducible repeat (first | apply Kd.R_alloc | apply Kd.R_drewN | apply Kd.R_drew)); exact HO436.out) hb); have n4_ := Aside0.mk (Kd.R_lower (Kd.R_new' (Kd.R_new' ho0 (Kd.R_lt (by (with_reducible repeat (first | apply Kd.R_alloc | apply Kd.R_drewN | apply Kd.R_drew)); exact HO425.out))) (Kd.R_lt (by (with_reducible repeat (first | apply Kd.R_alloc | apply Kd.R_drewN | apply Kd.R_drew)); exact HO428.out))) (below_size (by repeat (first | (with_reducible first | exact HB.out | apply below_alloc | apply pw_below_drewN | apply below_drew1) | exact HB.out)))); have n5_ := Aside0.mk (below_step (by repeat (first | (with_reducible first | exact HB.out | apply below_alloc | apply pw_below_drewN | apply below_drew1) | exact HB.out)) hb); clear HO425; clear HO428; clear HO432; clear HO436; clear HB; have HO425 := n0_; have HO428 := n1_; have HO432 := n2_; have HO436 := n3_; have HO439 := n4_; have HB := n5_; clear n0_ n1_ n2_ n3_ n4_ n5_; (try clear hb); (try clear hb2); (try clear hk); (try clear hi); (try clear ho0); obtain ⟨Ao64, co64, eo64⟩ := Kd.R_slice HO439.out; subst eo64) | ((with_reducible refine gate_callee (f := 13) rfl ?_); refine goesL_ (some 34) rfl rfl Try.func13 (by kernel_rfl) rfl #[.slice Ao59 t423.length co59, .slice Ao64 t437.length co64] rfl (by (try simp only [List.map_toArray, List.map_cons, List.map_nil]); first | done | rfl | (simp only [List.length_drop, List.length_take]; rfl)) ?_; (with_reducible refine (firkinref01_Same.calls _ _ t423 _ _ t437 true _ ?side1 ?side2 ?side3 ?side4 A9.out).mono ?_); (case side1 => repeat (first | exact (Kd.R_reads' HO425.out).2.2 | (with_reducible refine Kd.C_alloc ?_ _) | (with_reducible refine Kd.C_drewN ?_ _) | (with_reducible refine Kd.C_drew ?_))); (case side2 => exact (Kd.R_reads' HO425.out).2.1); (case side3 => repeat (first | exact (Kd.R_reads' HO439.out).2.2 | (with_reducible refine Kd.C_alloc ?_ _) | (with_reducible refine Kd.C_drewN ?_ _) | (with_reducible refine Kd.C_drew ?_))); (case side4 => exact (Kd.R_reads' HO439.out).2.1); rintro e w' ⟨rfl, ⟨nd, rfl⟩⟩; refine ⟨_, rfl, ?_⟩) | (go_at_call 40; (with_reducible refine (firkinref08_Put.calls k _ _ l0 t441 _ ?side1 ?side2 A11.out).mono ?_); (case side1 => repeat (first | exact (Kd.C_below HR0.out (by repeat (first | (with_reducible first | exact HB.out | apply below_alloc | apply pw_below_drewN | apply below_drew1) | exact HB.out))) | (with_reducible refine Kd.C_alloc ?_ _) | (with_reducible refine Kd.C_drewN ?_ _) | (with_reducible refine Kd.C_drew ?_))); (case side2 => exact HC0.out); rintro e w65 ⟨v442, rfl, ho0, hb⟩; have n0_ := Aside0.mk (Kd.R_elder' (by (with_reducible repeat (first | apply Kd.R_alloc | apply Kd.R_drewN | apply Kd.R_drew)); exact HO425.out) (Kd.R_base ho0) hb); have n1_ := Aside0.mk (Kd.R_elder' (by (with_reducible repeat (first | apply Kd.R_alloc | apply Kd.R_drewN | apply Kd.R_drew)); exact HO428.out) (Kd.R_base ho0) hb); have n2_ := Aside0.mk (Kd.R_below (by (with_reducible repeat (first | apply Kd.R_alloc | apply Kd.R_drewN | apply Kd.R_drew)); exact HO432.out) hb); have n3_ := Aside0.mk (Kd.R_below (by (with_reducible repeat (first | apply Kd.R_alloc | apply Kd.R_drewN | apply Kd.R_drew)); exact HO436.out) hb); have n4_ := Aside0.mk (Kd.R_elder' (by (with_reducible repeat (first | apply Kd.R_alloc | apply Kd.R_drewN | apply Kd.R_drew)); exact HO439.out) (Kd.R_base ho0) hb); have n5_ := Aside0.mk (Kd.R_lower (Kd.R_new' (Kd.R_new' (Kd.R_new' ho0 (Kd.R_lt (by (with_reducible repeat (first | apply Kd.R_alloc | apply Kd.R_drewN | apply Kd.R_drew)); exact HO425.out))) (Kd.R_lt (by (with_reducible repeat (first | apply Kd.R_alloc | apply Kd.R_drewN | apply Kd.R_drew)); exact HO428.out))) (Kd.R_lt (by (with_reducible repeat (first | apply Kd.R_alloc | apply Kd.R_drewN | apply Kd.R_drew)); exact HO439.out))) (below_size (by repeat (first | (with_reducible first | exact HB.out | apply below_alloc | apply pw_below_drewN | apply below_drew1) | exact HB.out)))); have n6_ := Aside0.mk (below_step (by repeat (first | (with_reducible first | exact HB.out | apply below_alloc | apply pw_below_drewN | apply below_drew1) | exact HB.out)) hb); clear HO425; clear HO428; clear HO432; clear HO436; clear HO439; clear HB; have HO425 := n0_; have HO428 := n1_; have HO432 := n2_; have HO436 := n3_; have HO439 := n4_; have HO443 := n5_; have HB := n6_; clear n0_ n1_ n2_ n3_ n4_ n5_ n6_; (try clear hb); (try clear hb2); (try clear hk); (try clear hi); (try clear ho0); obtain ⟨Ao66, co66, eo66⟩ := Kd.R_slice HO443.out; subst eo66) | (go_at_call 13; (with_reducible refine (firkinref01_Same.calls _ _ t426 _ _ t441 true _ ?side1 ?side2 ?side3 ?side4 A12.out).mono ?_); (case side1 => repeat (first | exact (Kd.R_reads' HO428.out).2.2 | (with_reducible refine Kd.C_alloc ?_ _) | (with_reducible refine Kd.C_drewN ?_ _) | (with_reducible refine Kd.C_drew ?_))); (case side2 => exact (Kd.R_reads' HO428.out).2.1); (case side3 => repeat (first | exact (Kd.R_reads' HO443.out).2.2 | (with_reducible refine Kd.C_alloc ?_ _) | (with_reducible refine Kd.C_drewN ?_ _) | (with_reducible refine Kd.C_drew ?_))); (case side4 => exact (Kd.R_reads' HO443.out).2.1); rintro e w' ⟨rfl, ⟨nd, rfl⟩⟩; (try clear A12)))
            go_ret
            exact ⟨by first | rfl | (simp [errW_none, errW_some] <;> rfl) | (simp [*, errW_none, errW_some] <;> rfl), by repeat (first | (with_reducible first | exact HB.out | apply below_alloc | apply pw_below_drewN | apply below_drew1) | exact HB.out)⟩
        · replace c14 := Bool.eq_false_iff.mpr c14
          subst c14
          have H1 : (some false) = some r := by rw [if_neg (show ¬ (false = true) by decide)] at H; exact H
          clear H
          have H := H1
          clear H1
          obtain rfl := Option.some.inj H
          go_enter Try.func9, Try.ntmps9
          go_wp2_with (first | ((with_reducible refine gate_callee (f := 37) rfl ?_); refine goesL_ (some 10) rfl rfl Try.func37 (by kernel_rfl) rfl #[.slice A0 l0.length c0] rfl (by (try simp only [List.map_toArray, List.map_cons, List.map_nil]); first | done | rfl | (simp only [List.length_drop, List.length_take]; rfl)) ?_; (with_reducible refine (firkinlaw08_small.calls k _ _ l0 true _ ?side1 ?side2 A2.out).mono ?_); (case side1 => repeat (first | exact HR0.out | (with_reducible refine Kd.C_alloc ?_ _) | (with_reducible refine Kd.C_drewN ?_ _) | (with_reducible refine Kd.C_drew ?_))); (case side2 => exact HC0.out); rintro e w' ⟨rfl, ⟨nd, rfl⟩⟩; refine ⟨_, rfl, ?_⟩) | ((with_reducible refine gate_callee (f := 34) rfl ?_); refine goesL_ (some 14) rfl rfl Try.func34 (by kernel_rfl) rfl #[.slice A0 l0.length c0] rfl (by (try simp only [List.map_toArray, List.map_cons, List.map_nil]); first | done | rfl | (simp only [List.length_drop, List.length_take]; rfl)) ?_; (with_reducible refine (dict_Plain.calls k _ _ l0 t423 _ ?side1 ?side2 A4.out).mono ?_); (case side1 => repeat (first | exact HR0.out | (with_reducible refine Kd.C_alloc ?_ _) | (with_reducible refine Kd.C_drewN ?_ _) | (with_reducible refine Kd.C_drew ?_))); (case side2 => exact HC0.out); rintro e w67 ⟨v424, rfl, ho0, hb⟩; refine ⟨_, rfl, ?_⟩; have n0_ := Aside0.mk (Kd.R_lower ho0 (below_size (by repeat (first | (with_reducible first | exact HB.out | apply below_alloc | apply pw_below_drewN | apply below_drew1) | exact HB.out)))); have n1_ := Aside0.mk (below_step (by repeat (first | (with_reducible first | exact HB.out | apply below_alloc | apply pw_below_drewN | apply below_drew1) | exact HB.out)) hb); clear HB; have HO425 := n0_; have HB := n1_; clear n0_ n1_; (try clear hb); (try clear hb2); (try clear hk); (try clear hi); (try clear ho0)) | ((with_reducible refine gate_callee (f := 38) rfl ?_); refine goesL_ (some 16) rfl rfl Try.func38 (by kernel_rfl) rfl #[.slice A0 l0.length c0] rfl (by (try simp only [List.map_toArray, List.map_cons, List.map_nil]); first | done | rfl | (simp only [List.length_drop, List.length_take]; rfl)) ?_; (with_reducible refine (dict_Put.calls k _ _ l0 t426 _ ?side1 ?side2 A5.out).mono ?_); (case side1 => repeat (first | exact (Kd.C_below HR0.out HB.out) | (with_reducible refine Kd.C_alloc ?_ _) | (with_reducible refine Kd.C_drewN ?_ _) | (with_reducible refine Kd.C_drew ?_))); (case side2 => exact HC0.out); rintro e w68 ⟨v427, rfl, ho0, hb⟩; refine ⟨_, rfl, ?_⟩; have n0_ := Aside0.mk (Kd.R_elder' (by (with_reducible repeat (first | apply Kd.R_alloc | apply Kd.R_drewN | apply Kd.R_drew)); exact HO425.out) (Kd.R_base ho0) hb); have n1_ := Aside0.mk (Kd.R_lower (Kd.R_new' ho0 (Kd.R_lt (by (with_reducible repeat (first | apply Kd.R_alloc | apply Kd.R_drewN | apply Kd.R_drew)); exact HO425.out))) (below_size (by repeat (first | (with_reducible first | exact HB.out | apply below_alloc | apply pw_below_drewN | apply below_drew1) | exact HB.out)))); have n2_ := Aside0.mk (below_step (by repeat (first | (with_reducible first | exact HB.out | apply below_alloc | apply pw_below_drewN | apply below_drew1) | exact HB.out)) hb); clear HO425; clear HB; have HO425 := n0_; have HO428 := n1_; have HB := n2_; clear n0_ n1_ n2_; (try clear hb); (try clear hb2); (try clear hk); (try clear hi); (try clear ho0); obtain ⟨Ao69, co69, eo69⟩ := Kd.R_slice HO425.out; subst eo69) | ((with_reducible refine gate_callee (f := 31) rfl ?_); refine goesL_ (some 21) rfl rfl Try.func31 (by kernel_rfl) rfl #[.slice Ao69 t423.length co69, .int .i64 (l0.length : Int), .int .i64 100] rfl (by (try simp only [List.map_toArray, List.map_cons, List.map_nil]); first | done | rfl | (simp only [List.length_drop, List.length_take]; rfl)) ?_; (with_reducible refine (dict_Texts.calls k _ _ t423 (l0.length : Int) 100 t429 false _ ?side1 ?side2 A6.out).mono ?_); (case side1 => repeat (first | exact (Kd.R_reads' HO425.out).2.2 | (with_reducible refine Kd.C_alloc ?_ _) | (with_reducible refine Kd.C_drewN ?_ _) | (with_reducible refine Kd.C_drew ?_))); (case side2 => exact (Kd.R_reads' HO425.out).2.1); rintro e w70 ⟨v431, rfl, ho0, hb⟩; refine ⟨_, rfl, ?_⟩; have n0_ := Aside0.mk (Kd.R_below (by (with_reducible repeat (first | apply Kd.R_alloc | apply Kd.R_drewN | apply Kd.R_drew)); exact HO425.out) hb); have n1_ := Aside0.mk (Kd.R_below (by (with_reducible repeat (first | apply Kd.R_alloc | apply Kd.R_drewN | apply Kd.R_drew)); exact HO428.out) hb); have n2_ := Aside0.mk (Kd.R_lower ho0 (below_size (by repeat (first | (with_reducible first | exact HB.out | apply below_alloc | apply pw_below_drewN | apply below_drew1) | exact HB.out)))); have n3_ := Aside0.mk (below_step (by repeat (first | (with_reducible first | exact HB.out | apply below_alloc | apply pw_below_drewN | apply below_drew1) | exact HB.out)) hb); clear HO425; clear HO428; clear HB; have HO425 := n0_; have HO428 := n1_; have HO432 := n2_; have HB := n3_; clear n0_ n1_ n2_ n3_; (try clear hb); (try clear hb2); (try clear hk); (try clear hi); (try clear ho0); obtain ⟨Ao71, co71, eo71⟩ := Kd.R_slice HO428.out; subst eo71) | ((with_reducible refine gate_callee (f := 35) rfl ?_); refine goesL_ (some 28) rfl rfl Try.func35 (by kernel_rfl) rfl #[.slice Ao71 t426.length co71, .int .i64 (l0.length : Int), .int .i64 100] rfl (by (try simp only [List.map_toArray, List.map_cons, List.map_nil]); first | done | rfl | (simp only [List.length_drop, List.length_take]; rfl)) ?_; (with_reducible refine (dict_Get.calls k _ _ t426 (l0.length : Int) 100 t433 t434 _ ?side1 ?side2 A7.out).mono ?_); (case side1 => repeat (first | exact (Kd.R_reads' HO428.out).2.2 | (with_reducible refine Kd.C_alloc ?_ _) | (with_reducible refine Kd.C_drewN ?_ _) | (with_reducible refine Kd.C_drew ?_))); (case side2 => exact (Kd.R_reads' HO428.out).2.1); rintro e w72 ⟨v435, rfl, ho0, hb⟩; refine ⟨_, rfl, ?_⟩; have n0_ := Aside0.mk (Kd.R_below (by (with_reducible repeat (first | apply Kd.R_alloc | apply Kd.R_drewN | apply Kd.R_drew)); exact HO425.out) hb); have n1_ := Aside0.mk (Kd.R_below (by (with_reducible repeat (first | apply Kd.R_alloc | apply Kd.R_drewN | apply Kd.R_drew)); exact HO428.out) hb); have n2_ := Aside0.mk (Kd.R_elder' (by (with_reducible repeat (first | apply Kd.R_alloc | apply Kd.R_drewN | apply Kd.R_drew)); exact HO432.out) (Kd.R_base ho0) hb); have n3_ := Aside0.mk (Kd.R_lower (Kd.R_new' ho0 (Kd.R_lt (by (with_reducible repeat (first | apply Kd.R_alloc | apply Kd.R_drewN | apply Kd.R_drew)); exact HO432.out))) (below_size (by repeat (first | (with_reducible first | exact HB.out | apply below_alloc | apply pw_below_drewN | apply below_drew1) | exact HB.out)))); have n4_ := Aside0.mk (below_step (by repeat (first | (with_reducible first | exact HB.out | apply below_alloc | apply pw_below_drewN | apply below_drew1) | exact HB.out)) hb); clear HO425; clear HO428; clear HO432; clear HB; have HO425 := n0_; have HO428 := n1_; have HO432 := n2_; have HO436 := n3_; have HB := n4_; clear n0_ n1_ n2_ n3_ n4_; (try clear hb); (try clear hb2); (try clear hk); (try clear hi); (try clear ho0)) | ((with_reducible refine gate_callee (f := 39) rfl ?_); refine goesL_ (some 33) rfl rfl Try.func39 (by kernel_rfl) rfl #[.slice A0 l0.length c0] rfl (by (try simp only [List.map_toArray, List.map_cons, List.map_nil]); first | done | rfl | (simp only [List.length_drop, List.length_take]; rfl)) ?_; (with_reducible refine (firkinref08_Plain.calls k _ _ l0 t437 _ ?side1 ?side2 A8.out).mono ?_); (case side1 => repeat (first | exact (Kd.C_below HR0.out HB.out) | (with_reducible refine Kd.C_alloc ?_ _) | (with_reducible refine Kd.C_drewN ?_ _) | (with_reducible refine Kd.C_drew ?_))); (case side2 => exact HC0.out); rintro e w73 ⟨v438, rfl, ho0, hb⟩; refine ⟨_, rfl, ?_⟩; have n0_ := Aside0.mk (Kd.R_elder' (by (with_reducible repeat (first | apply Kd.R_alloc | apply Kd.R_drewN | apply Kd.R_drew)); exact HO425.out) (Kd.R_base ho0) hb); have n1_ := Aside0.mk (Kd.R_elder' (by (with_reducible repeat (first | apply Kd.R_alloc | apply Kd.R_drewN | apply Kd.R_drew)); exact HO428.out) (Kd.R_base ho0) hb); have n2_ := Aside0.mk (Kd.R_below (by (with_reducible repeat (first | apply Kd.R_alloc | apply Kd.R_drewN | apply Kd.R_drew)); exact HO432.out) hb); have n3_ := Aside0.mk (Kd.R_below (by (with_reducible repeat (first | apply Kd.R_alloc | apply Kd.R_drewN | apply Kd.R_drew)); exact HO436.out) hb); have n4_ := Aside0.mk (Kd.R_lower (Kd.R_new' (Kd.R_new' ho0 (Kd.R_lt (by (with_reducible repeat (first | apply Kd.R_alloc | apply Kd.R_drewN | apply Kd.R_drew)); exact HO425.out))) (Kd.R_lt (by (with_reducible repeat (first | apply Kd.R_alloc | apply Kd.R_drewN | apply Kd.R_drew)); exact HO428.out))) (below_size (by repeat (first | (with_reducible first | exact HB.out | apply below_alloc | apply pw_below_drewN | apply below_drew1) | exact HB.out)))); have n5_ := Aside0.mk (below_step (by repeat (first | (with_reducible first | exact HB.out | apply below_alloc | apply pw_below_drewN | apply below_drew1) | exact HB.out)) hb); clear HO425; clear HO428; clear HO432; clear HO436; clear HB; have HO425 := n0_; have HO428 := n1_; have HO432 := n2_; have HO436 := n3_; have HO439 := n4_; have HB := n5_; clear n0_ n1_ n2_ n3_ n4_ n5_; (try clear hb); (try clear hb2); (try clear hk); (try clear hi); (try clear ho0); obtain ⟨Ao74, co74, eo74⟩ := Kd.R_slice HO439.out; subst eo74) | ((with_reducible refine gate_callee (f := 13) rfl ?_); refine goesL_ (some 34) rfl rfl Try.func13 (by kernel_rfl) rfl #[.slice Ao69 t423.length co69, .slice Ao74 t437.length co74] rfl (by (try simp only [List.map_toArray, List.map_cons, List.map_nil]); first | done | rfl | (simp only [List.length_drop, List.length_take]; rfl)) ?_; (with_reducible refine (firkinref01_Same.calls _ _ t423 _ _ t437 true _ ?side1 ?side2 ?side3 ?side4 A9.out).mono ?_); (case side1 => repeat (first | exact (Kd.R_reads' HO425.out).2.2 | (with_reducible refine Kd.C_alloc ?_ _) | (with_reducible refine Kd.C_drewN ?_ _) | (with_reducible refine Kd.C_drew ?_))); (case side2 => exact (Kd.R_reads' HO425.out).2.1); (case side3 => repeat (first | exact (Kd.R_reads' HO439.out).2.2 | (with_reducible refine Kd.C_alloc ?_ _) | (with_reducible refine Kd.C_drewN ?_ _) | (with_reducible refine Kd.C_drew ?_))); (case side4 => exact (Kd.R_reads' HO439.out).2.1); rintro e w' ⟨rfl, ⟨nd, rfl⟩⟩; refine ⟨_, rfl, ?_⟩) | (go_at_call 40; (with_reducible refine (firkinref08_Put.calls k _ _ l0 t441 _ ?side1 ?side2 A11.out).mono ?_); (case side1 => repeat (first | exact (Kd.C_below HR0.out (by repeat (first | (with_reducible first | exact HB.out | apply below_alloc | apply pw_below_drewN | apply below_drew1) | exact HB.out))) | (with_reducible refine Kd.C_alloc ?_ _) | (with_reducible refine Kd.C_drewN ?_ _) | (with_reducible refine Kd.C_drew ?_))); (case side2 => exact HC0.out); rintro e w75 ⟨v442, rfl, ho0, hb⟩; have n0_ := Aside0.mk (Kd.R_elder' (by (with_reducible repeat (first | apply Kd.R_alloc | apply Kd.R_drewN | apply Kd.R_drew)); exact HO425.out) (Kd.R_base ho0) hb); have n1_ := Aside0.mk (Kd.R_elder' (by (with_reducible repeat (first | apply Kd.R_alloc | apply Kd.R_drewN | apply Kd.R_drew)); exact HO428.out) (Kd.R_base ho0) hb); have n2_ := Aside0.mk (Kd.R_below (by (with_reducible repeat (first | apply Kd.R_alloc | apply Kd.R_drewN | apply Kd.R_drew)); exact HO432.out) hb); have n3_ := Aside0.mk (Kd.R_below (by (with_reducible repeat (first | apply Kd.R_alloc | apply Kd.R_drewN | apply Kd.R_drew)); exact HO436.out) hb); have n4_ := Aside0.mk (Kd.R_elder' (by (with_reducible repeat (first | apply Kd.R_alloc | apply Kd.R_drewN | apply Kd.R_drew)); exact HO439.out) (Kd.R_base ho0) hb); have n5_ := Aside0.mk (Kd.R_lower (Kd.R_new' (Kd.R_new' (Kd.R_new' ho0 (Kd.R_lt (by (with_reducible repeat (first | apply Kd.R_alloc | apply Kd.R_drewN | apply Kd.R_drew)); exact HO425.out))) (Kd.R_lt (by (with_reducible repeat (first | apply Kd.R_alloc | apply Kd.R_drewN | apply Kd.R_drew)); exact HO428.out))) (Kd.R_lt (by (with_reducible repeat (first | apply Kd.R_alloc | apply Kd.R_drewN | apply Kd.R_drew)); exact HO439.out))) (below_size (by repeat (first | (with_reducible first | exact HB.out | apply below_alloc | apply pw_below_drewN | apply below_drew1) | exact HB.out)))); have n6_ := Aside0.mk (below_step (by repeat (first | (with_reducible first | exact HB.out | apply below_alloc | apply pw_below_drewN | apply below_drew1) | exact HB.out)) hb); clear HO425; clear HO428; clear HO432; clear HO436; clear HO439; clear HB; have HO425 := n0_; have HO428 := n1_; have HO432 := n2_; have HO436 := n3_; have HO439 := n4_; have HO443 := n5_; have HB := n6_; clear n0_ n1_ n2_ n3_ n4_ n5_ n6_; (try clear hb); (try clear hb2); (try clear hk); (try clear hi); (try clear ho0); obtain ⟨Ao76, co76, eo76⟩ := Kd.R_slice HO443.out; subst eo76) | (go_at_call 13; (with_reducible refine (firkinref01_Same.calls _ _ t426 _ _ t441 true _ ?side1 ?side2 ?side3 ?side4 A12.out).mono ?_); (case side1 => repeat (first | exact (Kd.R_reads' HO428.out).2.2 | (with_reducible refine Kd.C_alloc ?_ _) | (with_reducible refine Kd.C_drewN ?_ _) | (with_reducible refine Kd.C_drew ?_))); (case side2 => exact (Kd.R_reads' HO428.out).2.1); (case side3 => repeat (first | exact (Kd.R_reads' HO443.out).2.2 | (with_reducible refine Kd.C_alloc ?_ _) | (with_reducible refine Kd.C_drewN ?_ _) | (with_reducible refine Kd.C_drew ?_))); (case side4 => exact (Kd.R_reads' HO443.out).2.1); rintro e w' ⟨rfl, ⟨nd, rfl⟩⟩; (try clear A12)))
          go_ret
          exact ⟨by first | rfl | (simp [errW_none, errW_some] <;> rfl) | (simp [*, errW_none, errW_some] <;> rfl), by repeat (first | (with_reducible first | exact HB.out | apply below_alloc | apply pw_below_drewN | apply below_drew1) | exact HB.out)⟩
      · replace c13 := Bool.eq_false_iff.mpr c13
        subst c13
        have H1 : (some false) = some r := by rw [if_neg (show ¬ (false = true) by decide)] at H; exact H
        clear H
        have H := H1
        clear H1
        obtain rfl := Option.some.inj H
        go_enter Try.func9, Try.ntmps9
        go_wp2_with (first | ((with_reducible refine gate_callee (f := 37) rfl ?_); refine goesL_ (some 10) rfl rfl Try.func37 (by kernel_rfl) rfl #[.slice A0 l0.length c0] rfl (by (try simp only [List.map_toArray, List.map_cons, List.map_nil]); first | done | rfl | (simp only [List.length_drop, List.length_take]; rfl)) ?_; (with_reducible refine (firkinlaw08_small.calls k _ _ l0 true _ ?side1 ?side2 A2.out).mono ?_); (case side1 => repeat (first | exact HR0.out | (with_reducible refine Kd.C_alloc ?_ _) | (with_reducible refine Kd.C_drewN ?_ _) | (with_reducible refine Kd.C_drew ?_))); (case side2 => exact HC0.out); rintro e w' ⟨rfl, ⟨nd, rfl⟩⟩; refine ⟨_, rfl, ?_⟩) | ((with_reducible refine gate_callee (f := 34) rfl ?_); refine goesL_ (some 14) rfl rfl Try.func34 (by kernel_rfl) rfl #[.slice A0 l0.length c0] rfl (by (try simp only [List.map_toArray, List.map_cons, List.map_nil]); first | done | rfl | (simp only [List.length_drop, List.length_take]; rfl)) ?_; (with_reducible refine (dict_Plain.calls k _ _ l0 t423 _ ?side1 ?side2 A4.out).mono ?_); (case side1 => repeat (first | exact HR0.out | (with_reducible refine Kd.C_alloc ?_ _) | (with_reducible refine Kd.C_drewN ?_ _) | (with_reducible refine Kd.C_drew ?_))); (case side2 => exact HC0.out); rintro e w77 ⟨v424, rfl, ho0, hb⟩; refine ⟨_, rfl, ?_⟩; have n0_ := Aside0.mk (Kd.R_lower ho0 (below_size (by repeat (first | (with_reducible first | exact HB.out | apply below_alloc | apply pw_below_drewN | apply below_drew1) | exact HB.out)))); have n1_ := Aside0.mk (below_step (by repeat (first | (with_reducible first | exact HB.out | apply below_alloc | apply pw_below_drewN | apply below_drew1) | exact HB.out)) hb); clear HB; have HO425 := n0_; have HB := n1_; clear n0_ n1_; (try clear hb); (try clear hb2); (try clear hk); (try clear hi); (try clear ho0)) | ((with_reducible refine gate_callee (f := 38) rfl ?_); refine goesL_ (some 16) rfl rfl Try.func38 (by kernel_rfl) rfl #[.slice A0 l0.length c0] rfl (by (try simp only [List.map_toArray, List.map_cons, List.map_nil]); first | done | rfl | (simp only [List.length_drop, List.length_take]; rfl)) ?_; (with_reducible refine (dict_Put.calls k _ _ l0 t426 _ ?side1 ?side2 A5.out).mono ?_); (case side1 => repeat (first | exact (Kd.C_below HR0.out HB.out) | (with_reducible refine Kd.C_alloc ?_ _) | (with_reducible refine Kd.C_drewN ?_ _) | (with_reducible refine Kd.C_drew ?_))); (case side2 => exact HC0.out); rintro e w78 ⟨v427, rfl, ho0, hb⟩; refine ⟨_, rfl, ?_⟩; have n0_ := Aside0.mk (Kd.R_elder' (by (with_reducible repeat (first | apply Kd.R_alloc | apply Kd.R_drewN | apply Kd.R_drew)); exact HO425.out) (Kd.R_base ho0) hb); have n1_ := Aside0.mk (Kd.R_lower (Kd.R_new' ho0 (Kd.R_lt (by (with_reducible repeat (first | apply Kd.R_alloc | apply Kd.R_drewN | apply Kd.R_drew)); exact HO425.out))) (below_size (by repeat (first | (with_reducible first | exact HB.out | apply below_alloc | apply pw_below_drewN | apply below_drew1) | exact HB.out)))); have n2_ := Aside0.mk (below_step (by repeat (first | (with_reducible first | exact HB.out | apply below_alloc | apply pw_below_drewN | apply below_drew1) | exact HB.out)) hb); clear HO425; clear HB; have HO425 := n0_; have HO428 := n1_; have HB := n2_; clear n0_ n1_ n2_; (try clear hb); (try clear hb2); (try clear hk); (try clear hi); (try clear ho0); obtain ⟨Ao79, co79, eo79⟩ := Kd.R_slice HO425.out; subst eo79) | ((with_reducible refine gate_callee (f := 31) rfl ?_); refine goesL_ (some 21) rfl rfl Try.func31 (by kernel_rfl) rfl #[.slice Ao79 t423.length co79, .int .i64 (l0.length : Int), .int .i64 100] rfl (by (try simp only [List.map_toArray, List.map_cons, List.map_nil]); first | done | rfl | (simp only [List.length_drop, List.length_take]; rfl)) ?_; (with_reducible refine (dict_Texts.calls k _ _ t423 (l0.length : Int) 100 t429 t430 _ ?side1 ?side2 A6.out).mono ?_); (case side1 => repeat (first | exact (Kd.R_reads' HO425.out).2.2 | (with_reducible refine Kd.C_alloc ?_ _) | (with_reducible refine Kd.C_drewN ?_ _) | (with_reducible refine Kd.C_drew ?_))); (case side2 => exact (Kd.R_reads' HO425.out).2.1); rintro e w80 ⟨v431, rfl, ho0, hb⟩; refine ⟨_, rfl, ?_⟩; have n0_ := Aside0.mk (Kd.R_below (by (with_reducible repeat (first | apply Kd.R_alloc | apply Kd.R_drewN | apply Kd.R_drew)); exact HO425.out) hb); have n1_ := Aside0.mk (Kd.R_below (by (with_reducible repeat (first | apply Kd.R_alloc | apply Kd.R_drewN | apply Kd.R_drew)); exact HO428.out) hb); have n2_ := Aside0.mk (Kd.R_lower ho0 (below_size (by repeat (first | (with_reducible first | exact HB.out | apply below_alloc | apply pw_below_drewN | apply below_drew1) | exact HB.out)))); have n3_ := Aside0.mk (below_step (by repeat (first | (with_reducible first | exact HB.out | apply below_alloc | apply pw_below_drewN | apply below_drew1) | exact HB.out)) hb); clear HO425; clear HO428; clear HB; have HO425 := n0_; have HO428 := n1_; have HO432 := n2_; have HB := n3_; clear n0_ n1_ n2_ n3_; (try clear hb); (try clear hb2); (try clear hk); (try clear hi); (try clear ho0); obtain ⟨Ao81, co81, eo81⟩ := Kd.R_slice HO428.out; subst eo81) | ((with_reducible refine gate_callee (f := 35) rfl ?_); refine goesL_ (some 28) rfl rfl Try.func35 (by kernel_rfl) rfl #[.slice Ao81 t426.length co81, .int .i64 (l0.length : Int), .int .i64 100] rfl (by (try simp only [List.map_toArray, List.map_cons, List.map_nil]); first | done | rfl | (simp only [List.length_drop, List.length_take]; rfl)) ?_; (with_reducible refine (dict_Get.calls k _ _ t426 (l0.length : Int) 100 t433 t434 _ ?side1 ?side2 A7.out).mono ?_); (case side1 => repeat (first | exact (Kd.R_reads' HO428.out).2.2 | (with_reducible refine Kd.C_alloc ?_ _) | (with_reducible refine Kd.C_drewN ?_ _) | (with_reducible refine Kd.C_drew ?_))); (case side2 => exact (Kd.R_reads' HO428.out).2.1); rintro e w82 ⟨v435, rfl, ho0, hb⟩; refine ⟨_, rfl, ?_⟩; have n0_ := Aside0.mk (Kd.R_below (by (with_reducible repeat (first | apply Kd.R_alloc | apply Kd.R_drewN | apply Kd.R_drew)); exact HO425.out) hb); have n1_ := Aside0.mk (Kd.R_below (by (with_reducible repeat (first | apply Kd.R_alloc | apply Kd.R_drewN | apply Kd.R_drew)); exact HO428.out) hb); have n2_ := Aside0.mk (Kd.R_elder' (by (with_reducible repeat (first | apply Kd.R_alloc | apply Kd.R_drewN | apply Kd.R_drew)); exact HO432.out) (Kd.R_base ho0) hb); have n3_ := Aside0.mk (Kd.R_lower (Kd.R_new' ho0 (Kd.R_lt (by (with_reducible repeat (first | apply Kd.R_alloc | apply Kd.R_drewN | apply Kd.R_drew)); exact HO432.out))) (below_size (by repeat (first | (with_reducible first | exact HB.out | apply below_alloc | apply pw_below_drewN | apply below_drew1) | exact HB.out)))); have n4_ := Aside0.mk (below_step (by repeat (first | (with_reducible first | exact HB.out | apply below_alloc | apply pw_below_drewN | apply below_drew1) | exact HB.out)) hb); clear HO425; clear HO428; clear HO432; clear HB; have HO425 := n0_; have HO428 := n1_; have HO432 := n2_; have HO436 := n3_; have HB := n4_; clear n0_ n1_ n2_ n3_ n4_; (try clear hb); (try clear hb2); (try clear hk); (try clear hi); (try clear ho0)) | ((with_reducible refine gate_callee (f := 39) rfl ?_); refine goesL_ (some 33) rfl rfl Try.func39 (by kernel_rfl) rfl #[.slice A0 l0.length c0] rfl (by (try simp only [List.map_toArray, List.map_cons, List.map_nil]); first | done | rfl | (simp only [List.length_drop, List.length_take]; rfl)) ?_; (with_reducible refine (firkinref08_Plain.calls k _ _ l0 t437 _ ?side1 ?side2 A8.out).mono ?_); (case side1 => repeat (first | exact (Kd.C_below HR0.out HB.out) | (with_reducible refine Kd.C_alloc ?_ _) | (with_reducible refine Kd.C_drewN ?_ _) | (with_reducible refine Kd.C_drew ?_))); (case side2 => exact HC0.out); rintro e w83 ⟨v438, rfl, ho0, hb⟩; refine ⟨_, rfl, ?_⟩; have n0_ := Aside0.mk (Kd.R_elder' (by (with_reducible repeat (first | apply Kd.R_alloc | apply Kd.R_drewN | apply Kd.R_drew)); exact HO425.out) (Kd.R_base ho0) hb); have n1_ := Aside0.mk (Kd.R_elder' (by (with_reducible repeat (first | apply Kd.R_alloc | apply Kd.R_drewN | apply Kd.R_drew)); exact HO428.out) (Kd.R_base ho0) hb); have n2_ := Aside0.mk (Kd.R_below (by (with_reducible repeat (first | apply Kd.R_alloc | apply Kd.R_drewN | apply Kd.R_drew)); exact HO432.out) hb); have n3_ := Aside0.mk (Kd.R_below (by (with_reducible repeat (first | apply Kd.R_alloc | apply Kd.R_drewN | apply Kd.R_drew)); exact HO436.out) hb); have n4_ := Aside0.mk (Kd.R_lower (Kd.R_new' (Kd.R_new' ho0 (Kd.R_lt (by (with_reducible repeat (first | apply Kd.R_alloc | apply Kd.R_drewN | apply Kd.R_drew)); exact HO425.out))) (Kd.R_lt (by (with_reducible repeat (first | apply Kd.R_alloc | apply Kd.R_drewN | apply Kd.R_drew)); exact HO428.out))) (below_size (by repeat (first | (with_reducible first | exact HB.out | apply below_alloc | apply pw_below_drewN | apply below_drew1) | exact HB.out)))); have n5_ := Aside0.mk (below_step (by repeat (first | (with_reducible first | exact HB.out | apply below_alloc | apply pw_below_drewN | apply below_drew1) | exact HB.out)) hb); clear HO425; clear HO428; clear HO432; clear HO436; clear HB; have HO425 := n0_; have HO428 := n1_; have HO432 := n2_; have HO436 := n3_; have HO439 := n4_; have HB := n5_; clear n0_ n1_ n2_ n3_ n4_ n5_; (try clear hb); (try clear hb2); (try clear hk); (try clear hi); (try clear ho0); obtain ⟨Ao84, co84, eo84⟩ := Kd.R_slice HO439.out; subst eo84) | ((with_reducible refine gate_callee (f := 13) rfl ?_); refine goesL_ (some 34) rfl rfl Try.func13 (by kernel_rfl) rfl #[.slice Ao79 t423.length co79, .slice Ao84 t437.length co84] rfl (by (try simp only [List.map_toArray, List.map_cons, List.map_nil]); first | done | rfl | (simp only [List.length_drop, List.length_take]; rfl)) ?_; (with_reducible refine (firkinref01_Same.calls _ _ t423 _ _ t437 true _ ?side1 ?side2 ?side3 ?side4 A9.out).mono ?_); (case side1 => repeat (first | exact (Kd.R_reads' HO425.out).2.2 | (with_reducible refine Kd.C_alloc ?_ _) | (with_reducible refine Kd.C_drewN ?_ _) | (with_reducible refine Kd.C_drew ?_))); (case side2 => exact (Kd.R_reads' HO425.out).2.1); (case side3 => repeat (first | exact (Kd.R_reads' HO439.out).2.2 | (with_reducible refine Kd.C_alloc ?_ _) | (with_reducible refine Kd.C_drewN ?_ _) | (with_reducible refine Kd.C_drew ?_))); (case side4 => exact (Kd.R_reads' HO439.out).2.1); rintro e w' ⟨rfl, ⟨nd, rfl⟩⟩; refine ⟨_, rfl, ?_⟩) | (go_at_call 40; (with_reducible refine (firkinref08_Put.calls k _ _ l0 t441 _ ?side1 ?side2 A11.out).mono ?_); (case side1 => repeat (first | exact (Kd.C_below HR0.out (by repeat (first | (with_reducible first | exact HB.out | apply below_alloc | apply pw_below_drewN | apply below_drew1) | exact HB.out))) | (with_reducible refine Kd.C_alloc ?_ _) | (with_reducible refine Kd.C_drewN ?_ _) | (with_reducible refine Kd.C_drew ?_))); (case side2 => exact HC0.out); rintro e w85 ⟨v442, rfl, ho0, hb⟩; have n0_ := Aside0.mk (Kd.R_elder' (by (with_reducible repeat (first | apply Kd.R_alloc | apply Kd.R_drewN | apply Kd.R_drew)); exact HO425.out) (Kd.R_base ho0) hb); have n1_ := Aside0.mk (Kd.R_elder' (by (with_reducible repeat (first | apply Kd.R_alloc | apply Kd.R_drewN | apply Kd.R_drew)); exact HO428.out) (Kd.R_base ho0) hb); have n2_ := Aside0.mk (Kd.R_below (by (with_reducible repeat (first | apply Kd.R_alloc | apply Kd.R_drewN | apply Kd.R_drew)); exact HO432.out) hb); have n3_ := Aside0.mk (Kd.R_below (by (with_reducible repeat (first | apply Kd.R_alloc | apply Kd.R_drewN | apply Kd.R_drew)); exact HO436.out) hb); have n4_ := Aside0.mk (Kd.R_elder' (by (with_reducible repeat (first | apply Kd.R_alloc | apply Kd.R_drewN | apply Kd.R_drew)); exact HO439.out) (Kd.R_base ho0) hb); have n5_ := Aside0.mk (Kd.R_lower (Kd.R_new' (Kd.R_new' (Kd.R_new' ho0 (Kd.R_lt (by (with_reducible repeat (first | apply Kd.R_alloc | apply Kd.R_drewN | apply Kd.R_drew)); exact HO425.out))) (Kd.R_lt (by (with_reducible repeat (first | apply Kd.R_alloc | apply Kd.R_drewN | apply Kd.R_drew)); exact HO428.out))) (Kd.R_lt (by (with_reducible repeat (first | apply Kd.R_alloc | apply Kd.R_drewN | apply Kd.R_drew)); exact HO439.out))) (below_size (by repeat (first | (with_reducible first | exact HB.out | apply below_alloc | apply pw_below_drewN | apply below_drew1) | exact HB.out)))); have n6_ := Aside0.mk (below_step (by repeat (first | (with_reducible first | exact HB.out | apply below_alloc | apply pw_below_drewN | apply below_drew1) | exact HB.out)) hb); clear HO425; clear HO428; clear HO432; clear HO436; clear HO439; clear HB; have HO425 := n0_; have HO428 := n1_; have HO432 := n2_; have HO436 := n3_; have HO439 := n4_; have HO443 := n5_; have HB := n6_; clear n0_ n1_ n2_ n3_ n4_ n5_ n6_; (try clear hb); (try clear hb2); (try clear hk); (try clear hi); (try clear ho0); obtain ⟨Ao86, co86, eo86⟩ := Kd.R_slice HO443.out; subst eo86) | (go_at_call 13; (with_reducible refine (firkinref01_Same.calls _ _ t426 _ _ t441 false _ ?side1 ?side2 ?side3 ?side4 A12.out).mono ?_); (case side1 => repeat (first | exact (Kd.R_reads' HO428.out).2.2 | (with_reducible refine Kd.C_alloc ?_ _) | (with_reducible refine Kd.C_drewN ?_ _) | (with_reducible refine Kd.C_drew ?_))); (case side2 => exact (Kd.R_reads' HO428.out).2.1); (case side3 => repeat (first | exact (Kd.R_reads' HO443.out).2.2 | (with_reducible refine Kd.C_alloc ?_ _) | (with_reducible refine Kd.C_drewN ?_ _) | (with_reducible refine Kd.C_drew ?_))); (case side4 => exact (Kd.R_reads' HO443.out).2.1); rintro e w' ⟨rfl, ⟨nd, rfl⟩⟩; (try clear A12)))
        go_ret
        exact ⟨by first | rfl | (simp [errW_none, errW_some] <;> rfl) | (simp [*, errW_none, errW_some] <;> rfl), by repeat (first | (with_reducible first | exact HB.out | apply below_alloc | apply pw_below_drewN | apply below_drew1) | exact HB.out)⟩
    · replace c10 := Bool.eq_false_iff.mpr c10
      subst c10
      have H1 : (some false) = some r := by rw [if_neg (show ¬ (false = true) by decide)] at H; exact H
      clear H
      have H := H1
      clear H1
      obtain rfl := Option.some.inj H
      go_enter Try.func9, Try.ntmps9
      go_wp2_with (first | ((with_reducible refine gate_callee (f := 37) rfl ?_); refine goesL_ (some 10) rfl rfl Try.func37 (by kernel_rfl) rfl #[.slice A0 l0.length c0] rfl (by (try simp only [List.map_toArray, List.map_cons, List.map_nil]); first | done | rfl | (simp only [List.length_drop, List.length_take]; rfl)) ?_; (with_reducible refine (firkinlaw08_small.calls k _ _ l0 true _ ?side1 ?side2 A2.out).mono ?_); (case side1 => repeat (first | exact HR0.out | (with_reducible refine Kd.C_alloc ?_ _) | (with_reducible refine Kd.C_drewN ?_ _) | (with_reducible refine Kd.C_drew ?_))); (case side2 => exact HC0.out); rintro e w' ⟨rfl, ⟨nd, rfl⟩⟩; refine ⟨_, rfl, ?_⟩) | ((with_reducible refine gate_callee (f := 34) rfl ?_); refine goesL_ (some 14) rfl rfl Try.func34 (by kernel_rfl) rfl #[.slice A0 l0.length c0] rfl (by (try simp only [List.map_toArray, List.map_cons, List.map_nil]); first | done | rfl | (simp only [List.length_drop, List.length_take]; rfl)) ?_; (with_reducible refine (dict_Plain.calls k _ _ l0 t423 _ ?side1 ?side2 A4.out).mono ?_); (case side1 => repeat (first | exact HR0.out | (with_reducible refine Kd.C_alloc ?_ _) | (with_reducible refine Kd.C_drewN ?_ _) | (with_reducible refine Kd.C_drew ?_))); (case side2 => exact HC0.out); rintro e w87 ⟨v424, rfl, ho0, hb⟩; refine ⟨_, rfl, ?_⟩; have n0_ := Aside0.mk (Kd.R_lower ho0 (below_size (by repeat (first | (with_reducible first | exact HB.out | apply below_alloc | apply pw_below_drewN | apply below_drew1) | exact HB.out)))); have n1_ := Aside0.mk (below_step (by repeat (first | (with_reducible first | exact HB.out | apply below_alloc | apply pw_below_drewN | apply below_drew1) | exact HB.out)) hb); clear HB; have HO425 := n0_; have HB := n1_; clear n0_ n1_; (try clear hb); (try clear hb2); (try clear hk); (try clear hi); (try clear ho0)) | ((with_reducible refine gate_callee (f := 38) rfl ?_); refine goesL_ (some 16) rfl rfl Try.func38 (by kernel_rfl) rfl #[.slice A0 l0.length c0] rfl (by (try simp only [List.map_toArray, List.map_cons, List.map_nil]); first | done | rfl | (simp only [List.length_drop, List.length_take]; rfl)) ?_; (with_reducible refine (dict_Put.calls k _ _ l0 t426 _ ?side1 ?side2 A5.out).mono ?_); (case side1 => repeat (first | exact (Kd.C_below HR0.out HB.out) | (with_reducible refine Kd.C_alloc ?_ _) | (with_reducible refine Kd.C_drewN ?_ _) | (with_reducible refine Kd.C_drew ?_))); (case side2 => exact HC0.out); rintro e w88 ⟨v427, rfl, ho0, hb⟩; refine ⟨_, rfl, ?_⟩; have n0_ := Aside0.mk (Kd.R_elder' (by (with_reducible repeat (first | apply Kd.R_alloc | apply Kd.R_drewN | apply Kd.R_drew)); exact HO425.out) (Kd.R_base ho0) hb); have n1_ := Aside0.mk (Kd.R_lower (Kd.R_new' ho0 (Kd.R_lt (by (with_reducible repeat (first | apply Kd.R_alloc | apply Kd.R_drewN | apply Kd.R_drew)); exact HO425.out))) (below_size (by repeat (first | (with_reducible first | exact HB.out | apply below_alloc | apply pw_below_drewN | apply below_drew1) | exact HB.out)))); have n2_ := Aside0.mk (below_step (by repeat (first | (with_reducible first | exact HB.out | apply below_alloc | apply pw_below_drewN | apply below_drew1) | exact HB.out)) hb); clear HO425; clear HB; have HO425 := n0_; have HO428 := n1_; have HB := n2_; clear n0_ n1_ n2_; (try clear hb); (try clear hb2); (try clear hk); (try clear hi); (try clear ho0); obtain ⟨Ao89, co89, eo89⟩ := Kd.R_slice HO425.out; subst eo89) | ((with_reducible refine gate_callee (f := 31) rfl ?_); refine goesL_ (some 21) rfl rfl Try.func31 (by kernel_rfl) rfl #[.slice Ao89 t423.length co89, .int .i64 (l0.length : Int), .int .i64 100] rfl (by (try simp only [List.map_toArray, List.map_cons, List.map_nil]); first | done | rfl | (simp only [List.length_drop, List.length_take]; rfl)) ?_; (with_reducible refine (dict_Texts.calls k _ _ t423 (l0.length : Int) 100 t429 t430 _ ?side1 ?side2 A6.out).mono ?_); (case side1 => repeat (first | exact (Kd.R_reads' HO425.out).2.2 | (with_reducible refine Kd.C_alloc ?_ _) | (with_reducible refine Kd.C_drewN ?_ _) | (with_reducible refine Kd.C_drew ?_))); (case side2 => exact (Kd.R_reads' HO425.out).2.1); rintro e w90 ⟨v431, rfl, ho0, hb⟩; refine ⟨_, rfl, ?_⟩; have n0_ := Aside0.mk (Kd.R_below (by (with_reducible repeat (first | apply Kd.R_alloc | apply Kd.R_drewN | apply Kd.R_drew)); exact HO425.out) hb); have n1_ := Aside0.mk (Kd.R_below (by (with_reducible repeat (first | apply Kd.R_alloc | apply Kd.R_drewN | apply Kd.R_drew)); exact HO428.out) hb); have n2_ := Aside0.mk (Kd.R_lower ho0 (below_size (by repeat (first | (with_reducible first | exact HB.out | apply below_alloc | apply pw_below_drewN | apply below_drew1) | exact HB.out)))); have n3_ := Aside0.mk (below_step (by repeat (first | (with_reducible first | exact HB.out | apply below_alloc | apply pw_below_drewN | apply below_drew1) | exact HB.out)) hb); clear HO425; clear HO428; clear HB; have HO425 := n0_; have HO428 := n1_; have HO432 := n2_; have HB := n3_; clear n0_ n1_ n2_ n3_; (try clear hb); (try clear hb2); (try clear hk); (try clear hi); (try clear ho0); obtain ⟨Ao91, co91, eo91⟩ := Kd.R_slice HO428.out; subst eo91) | ((with_reducible refine gate_callee (f := 35) rfl ?_); refine goesL_ (some 28) rfl rfl Try.func35 (by kernel_rfl) rfl #[.slice Ao91 t426.length co91, .int .i64 (l0.length : Int), .int .i64 100] rfl (by (try simp only [List.map_toArray, List.map_cons, List.map_nil]); first | done | rfl | (simp only [List.length_drop, List.length_take]; rfl)) ?_; (with_reducible refine (dict_Get.calls k _ _ t426 (l0.length : Int) 100 t433 t434 _ ?side1 ?side2 A7.out).mono ?_); (case side1 => repeat (first | exact (Kd.R_reads' HO428.out).2.2 | (with_reducible refine Kd.C_alloc ?_ _) | (with_reducible refine Kd.C_drewN ?_ _) | (with_reducible refine Kd.C_drew ?_))); (case side2 => exact (Kd.R_reads' HO428.out).2.1); rintro e w92 ⟨v435, rfl, ho0, hb⟩; refine ⟨_, rfl, ?_⟩; have n0_ := Aside0.mk (Kd.R_below (by (with_reducible repeat (first | apply Kd.R_alloc | apply Kd.R_drewN | apply Kd.R_drew)); exact HO425.out) hb); have n1_ := Aside0.mk (Kd.R_below (by (with_reducible repeat (first | apply Kd.R_alloc | apply Kd.R_drewN | apply Kd.R_drew)); exact HO428.out) hb); have n2_ := Aside0.mk (Kd.R_elder' (by (with_reducible repeat (first | apply Kd.R_alloc | apply Kd.R_drewN | apply Kd.R_drew)); exact HO432.out) (Kd.R_base ho0) hb); have n3_ := Aside0.mk (Kd.R_lower (Kd.R_new' ho0 (Kd.R_lt (by (with_reducible repeat (first | apply Kd.R_alloc | apply Kd.R_drewN | apply Kd.R_drew)); exact HO432.out))) (below_size (by repeat (first | (with_reducible first | exact HB.out | apply below_alloc | apply pw_below_drewN | apply below_drew1) | exact HB.out)))); have n4_ := Aside0.mk (below_step (by repeat (first | (with_reducible first | exact HB.out | apply below_alloc | apply pw_below_drewN | apply below_drew1) | exact HB.out)) hb); clear HO425; clear HO428; clear HO432; clear HB; have HO425 := n0_; have HO428 := n1_; have HO432 := n2_; have HO436 := n3_; have HB := n4_; clear n0_ n1_ n2_ n3_ n4_; (try clear hb); (try clear hb2); (try clear hk); (try clear hi); (try clear ho0)) | ((with_reducible refine gate_callee (f := 39) rfl ?_); refine goesL_ (some 33) rfl rfl Try.func39 (by kernel_rfl) rfl #[.slice A0 l0.length c0] rfl (by (try simp only [List.map_toArray, List.map_cons, List.map_nil]); first | done | rfl | (simp only [List.length_drop, List.length_take]; rfl)) ?_; (with_reducible refine (firkinref08_Plain.calls k _ _ l0 t437 _ ?side1 ?side2 A8.out).mono ?_); (case side1 => repeat (first | exact (Kd.C_below HR0.out HB.out) | (with_reducible refine Kd.C_alloc ?_ _) | (with_reducible refine Kd.C_drewN ?_ _) | (with_reducible refine Kd.C_drew ?_))); (case side2 => exact HC0.out); rintro e w93 ⟨v438, rfl, ho0, hb⟩; refine ⟨_, rfl, ?_⟩; have n0_ := Aside0.mk (Kd.R_elder' (by (with_reducible repeat (first | apply Kd.R_alloc | apply Kd.R_drewN | apply Kd.R_drew)); exact HO425.out) (Kd.R_base ho0) hb); have n1_ := Aside0.mk (Kd.R_elder' (by (with_reducible repeat (first | apply Kd.R_alloc | apply Kd.R_drewN | apply Kd.R_drew)); exact HO428.out) (Kd.R_base ho0) hb); have n2_ := Aside0.mk (Kd.R_below (by (with_reducible repeat (first | apply Kd.R_alloc | apply Kd.R_drewN | apply Kd.R_drew)); exact HO432.out) hb); have n3_ := Aside0.mk (Kd.R_below (by (with_reducible repeat (first | apply Kd.R_alloc | apply Kd.R_drewN | apply Kd.R_drew)); exact HO436.out) hb); have n4_ := Aside0.mk (Kd.R_lower (Kd.R_new' (Kd.R_new' ho0 (Kd.R_lt (by (with_reducible repeat (first | apply Kd.R_alloc | apply Kd.R_drewN | apply Kd.R_drew)); exact HO425.out))) (Kd.R_lt (by (with_reducible repeat (first | apply Kd.R_alloc | apply Kd.R_drewN | apply Kd.R_drew)); exact HO428.out))) (below_size (by repeat (first | (with_reducible first | exact HB.out | apply below_alloc | apply pw_below_drewN | apply below_drew1) | exact HB.out)))); have n5_ := Aside0.mk (below_step (by repeat (first | (with_reducible first | exact HB.out | apply below_alloc | apply pw_below_drewN | apply below_drew1) | exact HB.out)) hb); clear HO425; clear HO428; clear HO432; clear HO436; clear HB; have HO425 := n0_; have HO428 := n1_; have HO432 := n2_; have HO436 := n3_; have HO439 := n4_; have HB := n5_; clear n0_ n1_ n2_ n3_ n4_ n5_; (try clear hb); (try clear hb2); (try clear hk); (try clear hi); (try clear ho0); obtain ⟨Ao94, co94, eo94⟩ := Kd.R_slice HO439.out; subst eo94) | ((with_reducible refine gate_callee (f := 13) rfl ?_); refine goesL_ (some 34) rfl rfl Try.func13 (by kernel_rfl) rfl #[.slice Ao89 t423.length co89, .slice Ao94 t437.length co94] rfl (by (try simp only [List.map_toArray, List.map_cons, List.map_nil]); first | done | rfl | (simp only [List.length_drop, List.length_take]; rfl)) ?_; (with_reducible refine (firkinref01_Same.calls _ _ t423 _ _ t437 false _ ?side1 ?side2 ?side3 ?side4 A9.out).mono ?_); (case side1 => repeat (first | exact (Kd.R_reads' HO425.out).2.2 | (with_reducible refine Kd.C_alloc ?_ _) | (with_reducible refine Kd.C_drewN ?_ _) | (with_reducible refine Kd.C_drew ?_))); (case side2 => exact (Kd.R_reads' HO425.out).2.1); (case side3 => repeat (first | exact (Kd.R_reads' HO439.out).2.2 | (with_reducible refine Kd.C_alloc ?_ _) | (with_reducible refine Kd.C_drewN ?_ _) | (with_reducible refine Kd.C_drew ?_))); (case side4 => exact (Kd.R_reads' HO439.out).2.1); rintro e w' ⟨rfl, ⟨nd, rfl⟩⟩; refine ⟨_, rfl, ?_⟩))
      go_ret
      exact ⟨by first | rfl | (simp [errW_none, errW_some] <;> rfl) | (simp [*, errW_none, errW_some] <;> rfl), by repeat (first | (with_reducible first | exact HB.out | apply below_alloc | apply pw_below_drewN | apply below_drew1) | exact HB.out)⟩
  · replace c3 := Bool.eq_false_iff.mpr c3
    subst c3
    have H1 : ((firkinlaw08_live.f k).bind fun t422 => (some t422)) = some r := by rw [if_neg (show ¬ (false = true) by decide)] at H; exact H
    clear H
    have H := H1
    clear H1
    replace H := Option.bind_eq_some_iff.mp H
    obtain ⟨t422, A950, H⟩ := H
    replace H : (some t422) = some r := H
    have A95 := Aside0.mk A950
    clear A950
    obtain rfl := Option.some.inj H
    go_enter Try.func9, Try.ntmps9
    go_wp2_with (first | ((with_reducible refine gate_callee (f := 37) rfl ?_); refine goesL_ (some 10) rfl rfl Try.func37 (by kernel_rfl) rfl #[.slice A0 l0.length c0] rfl (by (try simp only [List.map_toArray, List.map_cons, List.map_nil]); first | done | rfl | (simp only [List.length_drop, List.length_take]; rfl)) ?_; (with_reducible refine (firkinlaw08_small.calls k _ _ l0 false _ ?side1 ?side2 A2.out).mono ?_); (case side1 => repeat (first | exact HR0.out | (with_reducible refine Kd.C_alloc ?_ _) | (with_reducible refine Kd.C_drewN ?_ _) | (with_reducible refine Kd.C_drew ?_))); (case side2 => exact HC0.out); rintro e w' ⟨rfl, ⟨nd, rfl⟩⟩; refine ⟨_, rfl, ?_⟩) | ((with_reducible refine gate_callee (f := 30) rfl ?_); refine goesL_ (some 12) rfl rfl Try.func30 (by kernel_rfl) rfl #[] rfl (by (try simp only [List.map_toArray, List.map_cons, List.map_nil]); first | done | rfl | (simp only [List.length_drop, List.length_take]; rfl)) ?_; (with_reducible refine (firkinlaw08_live.calls k  t422 _ A95.out).mono ?_); rintro e w96 ⟨rfl, hb⟩; refine ⟨_, rfl, ?_⟩; have n0_ := Aside0.mk (below_step (by repeat (first | (with_reducible first | exact HB.out | apply below_alloc | apply pw_below_drewN | apply below_drew1) | exact HB.out)) hb); clear HB; have HB := n0_; clear n0_; (try clear hb); (try clear hb2); (try clear hk); (try clear hi)))
    go_ret
    exact ⟨by first | rfl | (simp [errW_none, errW_some] <;> rfl) | (simp [*, errW_none, errW_some] <;> rfl), by repeat (first | (with_reducible first | exact HB.out | apply below_alloc | apply pw_below_drewN | apply below_drew1) | exact HB.out)⟩

end Go.Proofs.Ytbbffnlefmogbaa.X
/- A number's bytes, plain law: the code's and the document's are the same. -/
namespace Go.Proofs.Ytbbffnlefmogbaa.Enc
open Go.RowKit Go.Proofs.Ytbbffnlefmogbaa.X Go.Proofs.Ytbbffnlefmogbaa.Dec Go.Proofs.YtbbffnlefmogbaaW.PrintWords Go.Proofs.YtbbffnlefmogbaaW.PrintLast Go.Proofs.YtbbffnlefmogbaaW.PrintMore
set_option linter.unusedVariables false
theorem num_loop (n G : Nat) (hG : 1 ≤ G) (hG2 : G ≤ 10) (d : Nat) : ∀ (k i : Nat), i + d = G → d < k →
    vint_Num.l0 k (n : Int) (G : Int) (laid n G i) (G : Int) (i : Int) = some (encL n G) := by
  induction d with
  | zero =>
    intro k i hd hk
    obtain ⟨k, rfl⟩ : ∃ m, k = m + 1 := ⟨k - 1, by omega⟩
    obtain rfl : i = G := by omega
    rw [vint_Num.l0, if_neg (by omega), w64 (by omega) (by omega), if_pos (by omega), if_pos (by rw [laid_length]; omega)]
    rw [show ((i : Int) - 1) = ((i - 1 : Nat) : Int) by omega, rd_nat, Int.toNat_natCast]
    have hg : (laid n i i).getD (i - 1) 0 = ((n / 2 ^ (7 * (i - 1)) % 128 + 128 : Nat) : Int) := by
      simp only [laid, List.getD]
      rw [List.getElem?_map, List.getElem?_range (by omega)]
      simp; omega
    rw [hg, last_seven _ (Nat.mod_lt _ (by decide)), laid_end n i hG]
  | succ d ih =>
    intro k i hd hk
    obtain ⟨k, rfl⟩ : ∃ m, k = m + 1 := ⟨k - 1, by omega⟩
    rw [vint_Num.l0, if_pos (by omega), w64 (x := 7 * (i : Int)) (by omega) (by omega), if_pos (by omega), if_pos (by omega), if_pos (by rw [laid_length]; omega)]
    rw [show (7 * (i : Int)) = ((7 * i : Nat) : Int) by omega, shr_nat n i (by omega), seven, Int.toNat_natCast, laid_set n G i (by omega), w64 (by omega) (by omega), show ((i : Int) + 1) = ((i + 1 : Nat) : Int) by omega]
    exact ih k (i + 1) (by omega) (by omega)
theorem num_is (n : Nat) (h : n < 18446744073709551616) (k : Nat) (hk : 10 < k) : vint_Num.f k (n : Int) = some (enc n) := by
  have hl := len_le n h
  have hg := grp_le (n := n) h
  unfold vint_Num.f bits_Len64.f
  rw [if_pos ⟨by omega, by omega⟩, Option.bind_some, Int.toNat_natCast]
  have e : mx 1 (wrap64 (Int.tdiv (wrap64 ((wrap64 (((Lib.bitLen n : Nat) : Int) + 7)) - 1)) 7)) = ((grp n : Nat) : Int) := by
    rw [w64 (x := ((Lib.bitLen n : Nat) : Int) + 7) (by omega) (by omega), w64 (x := ((Lib.bitLen n : Nat) : Int) + 7 - 1) (by omega) (by omega), Int.tdiv_eq_ediv_of_nonneg (by omega), w64 (by omega) (by omega)]
    unfold mx grp
    split <;> omega
  rw [e]
  rw [if_pos (by omega), Int.toNat_natCast, if_pos (by omega), Option.bind_some, List.length_replicate, ← laid_zero n]
  have := num_loop n (grp n) (grp_has h).1 hg (grp n) k 0 (by omega) (by omega)
  exact this
theorem rnum_loop (n G : Nat) (hn : Has n G) (hlt : n < 18446744073709551616) (hG : G ≤ 10) (d : Nat) : ∀ (k i : Nat) (acc : List Int), i + d = G → 1 ≤ d → d < k → acc = (encL n G).take i →
    firkinref01_Num.l0 k ((n / 2 ^ (7 * i) : Nat) : Int) acc = some (encL n G) := by
  induction d with
  | zero => intro k i acc hd h1; omega
  | succ d ih =>
    intro k i acc hd _ hk hacc
    obtain ⟨k, rfl⟩ : ∃ m, k = m + 1 := ⟨k - 1, by omega⟩
    have hq : n / 2 ^ (7 * i) < 18446744073709551616 := Nat.lt_of_le_of_lt (Nat.div_le_self _ _) hlt
    have hlen : acc.length ≤ 10 := by rw [hacc, List.length_take, encL_length]; omega
    have hget : (encL n G)[i]? = some ((encByte n G i : Nat) : Int) := by
      rw [encL, List.getElem?_map, List.getElem?_range (by omega)]; rfl
    have hsnoc : (encL n G).take i ++ [((encByte n G i : Nat) : Int)] = (encL n G).take (i + 1) := by
      have hi : i < (encL n G).length := by rw [encL_length]; omega
      rw [List.take_succ_eq_append_getElem hi]
      congr 1
      rw [List.getElem?_eq_getElem hi] at hget
      rw [Option.some.inj hget]
    have hpow : 2 ^ (7 * (i + 1)) = 2 ^ (7 * i) * 128 := by rw [show 7 * (i + 1) = 7 * i + 7 by omega, Nat.pow_add]
    rw [firkinref01_Num.l0]
    by_cases hd0 : d = 0
    · have hi : i + 1 = G := by omega
      have hsm : n / 2 ^ (7 * i) < 128 := by
        have := hn.2.1
        rw [← hi, hpow] at this
        exact Nat.div_lt_of_lt_mul this
      rw [if_neg (by omega), if_pos (by omega), hacc]
      have he : encByte n G i = n / 2 ^ (7 * i) := by unfold encByte; rw [if_neg (by omega), Nat.mod_eq_of_lt hsm, Nat.add_zero]
      rw [show (((n / 2 ^ (7 * i) : Nat) : Int) % 256) = ((n / 2 ^ (7 * i) : Nat) : Int) by omega, ← he, hsnoc, List.take_of_length_le (by rw [encL_length]; omega)]
    · have hbig : 128 ≤ n / 2 ^ (7 * i) := by
        have h1 := hn.2.2 (by omega)
        have h2 : 2 ^ (7 * (i + 1)) ≤ 2 ^ (7 * (G - 1)) := Nat.pow_le_pow_right (by decide) (by omega)
        rw [hpow] at h2
        rw [Nat.le_div_iff_mul_le (Nat.two_pow_pos _), Nat.mul_comm]
        omega
      have he : encByte n G i = n / 2 ^ (7 * i) % 128 + 128 := by unfold encByte; rw [if_pos (by omega)]
      have hdd : n / 2 ^ (7 * i) / 128 = n / 2 ^ (7 * (i + 1)) := by rw [Nat.div_div_eq_div_mul, hpow]
      rw [if_pos (by omega), if_pos (by omega), Int.tdiv_eq_ediv_of_nonneg (by omega), Int.tmod_eq_emod_of_nonneg (by omega)]
      rw [IntKind.wrap_u64, IntKind.wrap_u64]
      rw [show ((((n / 2 ^ (7 * i) : Nat) : Int) / 128) % 18446744073709551616) = ((n / 2 ^ (7 * i) / 128 : Nat) : Int) by omega, hdd]
      rw [show (((((n / 2 ^ (7 * i) : Nat) : Int) % 128 + 128) % 18446744073709551616) % 256) = ((n / 2 ^ (7 * i) % 128 + 128 : Nat) : Int) by omega, ← he]
      exact ih k (i + 1) _ (by omega) (by omega) (by omega) (by rw [hacc, hsnoc])
theorem rnum_is (n : Nat) (h : n < 18446744073709551616) (k : Nat) (hk : 11 < k) : firkinref01_Num.f k (n : Int) = some (enc n) := by
  unfold firkinref01_Num.f
  have hg := grp_le (n := n) h
  have := rnum_loop n (grp n) (grp_has h) h hg (grp n) k 0 [] (by omega) (grp_has h).1 (by omega) (by simp)
  rw [Nat.mul_zero, Nat.pow_zero, Nat.div_one] at this
  exact this
end Go.Proofs.Ytbbffnlefmogbaa.Enc
/- A signed number's bytes, plain law: the code's and the document's are the same. -/
namespace Go.Proofs.Ytbbffnlefmogbaa.Enc
open Go.RowKit Go.Proofs.Ytbbffnlefmogbaa.X Go.Proofs.Ytbbffnlefmogbaa.Dec Go.Proofs.YtbbffnlefmogbaaW.PrintWords Go.Proofs.YtbbffnlefmogbaaW.PrintLast Go.Proofs.YtbbffnlefmogbaaW.PrintMore
set_option linter.unusedVariables false
theorem int_is (n : Int) (h0 : -9223372036854775808 ≤ n) (h1 : n < 9223372036854775808) (k : Nat) (hk : 10 < k) : vint_Int.f k n = some (enc (zig n)) := by
  unfold vint_Int.f
  have hz := zig_lt h0 h1
  have e : Go.bits .xor .u64 (IntKind.u64.wrap ((IntKind.u64.wrap n) * 2)) (IntKind.u64.wrap (n / 9223372036854775808)) = ((zig n : Nat) : Int) := by
    rw [IntKind.wrap_u64, IntKind.wrap_u64, IntKind.wrap_u64]
    by_cases hn : n < 0
    · have e1 : n / 9223372036854775808 = -1 := by omega
      rw [e1, show ((-1 : Int) % 18446744073709551616) = 18446744073709551615 by decide, u64_xor _ _ (by omega) (by omega) (by omega) (by omega), show (18446744073709551615 : Int).toNat = 18446744073709551615 by decide, xor_all _ (by omega)]
      unfold zig
      rw [if_pos hn]
      omega
    · have e1 : n / 9223372036854775808 = 0 := by omega
      rw [e1, show ((0 : Int) % 18446744073709551616) = 0 by decide, u64_xor _ _ (by omega) (by omega) (by omega) (by omega), show (0 : Int).toNat = 0 from rfl, Nat.xor_zero]
      unfold zig
      rw [if_neg hn]
      omega
  rw [e, num_is _ hz k hk]; rfl
theorem rint_is (n : Int) (h0 : -9223372036854775808 ≤ n) (h1 : n < 9223372036854775808) (k : Nat) (hk : 11 < k) : firkinref01_Int.f k n = some (enc (zig n)) := by
  unfold firkinref01_Int.f
  have hz := zig_lt h0 h1
  simp only [IntKind.wrap_u64]
  by_cases hn : n < 0
  · rw [if_pos hn]
    have e : ((2 * ((-(n % 18446744073709551616)) % 18446744073709551616)) % 18446744073709551616 - 1) % 18446744073709551616 = ((zig n : Nat) : Int) := by
      unfold zig; rw [if_pos hn]; omega
    rw [e, rnum_is _ hz k hk]; rfl
  · rw [if_neg hn]
    have e : (2 * (n % 18446744073709551616)) % 18446744073709551616 = ((zig n : Nat) : Int) := by
      unfold zig; rw [if_neg hn]; omega
    rw [e, rnum_is _ hz k hk]; rfl
end Go.Proofs.Ytbbffnlefmogbaa.Enc
/- What is read of a source, plain law: numbers, numbers below another one: the code's source and the document's read the same. -/
namespace Go.Proofs.Ytbbffnlefmogbaa.Read
open Go Go.RowKit Go.Proofs.Ytbbffnlefmogbaa.X Go.Proofs.Ytbbffnlefmogbaa.Dec Go.Proofs.Ytbbffnlefmogbaa.Enc Go.Proofs.Ytbbffnlefmogbaa.Round Go.Proofs.YtbbffnlefmogbaaW.PrintWords Go.Proofs.YtbbffnlefmogbaaW.PrintLast Go.Proofs.YtbbffnlefmogbaaW.PrintMore
set_option linter.unusedVariables false
/-- A source as it can be: of one that failed nothing is left. -/
def GoodS (l : List Int) (bad : Bool) : Prop := Fit l ∧ (bad = true → l = [])
theorem GoodS.nil (b : Bool) : GoodS [] b := ⟨Fit.nil, fun _ => rfl⟩
theorem GoodS.of {l : List Int} (h : Fit l) : GoodS l false := ⟨h, fun h => by cases h⟩
theorem GoodS.drop {l : List Int} {b : Bool} (h : GoodS l b) (k : Nat) : GoodS (l.drop k) b := ⟨h.1.drop k, fun e => by rw [h.2 e]; exact List.drop_nil⟩
def gNum (l : List Int) (bad : Bool) : Int × List Int × Bool :=
  if bad = true ∨ szS 0 l = 0 then (0, [], true) else (((valS 0 (l.take (szS 0 l)) : Nat) : Int), l.drop (szS 0 l), false)
theorem gNum_good {l : List Int} {b : Bool} (h : GoodS l b) : GoodS (gNum l b).2.1 (gNum l b).2.2 := by
  unfold gNum; split
  · exact GoodS.nil _
  · exact GoodS.of (h.1.drop _)
theorem gNum_len (l : List Int) (b : Bool) : (gNum l b).2.1.length ≤ l.length := by
  unfold gNum; split <;> simp
theorem gNum_range {l : List Int} {b : Bool} (h : GoodS l b) : 0 ≤ (gNum l b).1 ∧ (gNum l b).1 < 18446744073709551616 := by
  unfold gNum; split
  · simp
  · have := val_lt h.1.1 (Nat.le_refl (szS 0 l))
    show 0 ≤ ((_ : Nat) : Int) ∧ ((_ : Nat) : Int) < _
    omega
theorem num_g {l : List Int} {b : Bool} (h : GoodS l b) : vint_Source_Num.f l b = some (gNum l b) := by
  unfold vint_Source_Num.f numS gNum
  rw [if_pos h.1]
  cases b with
  | true => rw [if_pos rfl, if_pos (.inl rfl), h.2 rfl]
  | false =>
    rw [if_neg (by decide)]
    by_cases hz : szS 0 l = 0
    · rw [if_pos hz, if_pos (.inr hz)]
    · rw [if_neg hz, if_neg (by simp [hz])]
theorem rnum_g {l : List Int} {b : Bool} (h : GoodS l b) : firkinref01_S_Num.f l b = some (gNum l b) := by
  unfold firkinref01_S_Num.f rnumS gNum
  rw [if_pos h.1]
  cases b with
  | true => obtain rfl := h.2 rfl; rfl
  | false =>
    by_cases hz : szS 0 l = 0
    · rw [if_pos hz, if_pos (.inr hz)]
    · rw [if_neg hz, if_neg (by simp [hz])]
def gBelow (l : List Int) (bad : Bool) (n : Int) : Int × List Int × Bool :=
  if (gNum l bad).2.2 = true ∨ n ≤ 0 ∨ n ≤ (gNum l bad).1 then (0, [], true) else gNum l bad
theorem gBelow_good {l : List Int} {b : Bool} (h : GoodS l b) (n : Int) : GoodS (gBelow l b n).2.1 (gBelow l b n).2.2 := by
  unfold gBelow; split
  · exact GoodS.nil _
  · exact gNum_good h
theorem gBelow_len (l : List Int) (b : Bool) (n : Int) : (gBelow l b n).2.1.length ≤ l.length := by
  unfold gBelow; split
  · simp
  · exact gNum_len l b
theorem gBelow_range {l : List Int} {b : Bool} (h : GoodS l b) (n : Int) : 0 ≤ (gBelow l b n).1 ∧ ((gBelow l b n).1 < n ∨ (gBelow l b n).1 = 0) := by
  unfold gBelow; split
  · simp
  · have := gNum_range h; omega
theorem wrap_u64_of {n : Int} (h0 : 0 ≤ n) (h1 : n < 18446744073709551616) : IntKind.u64.wrap n = n := by rw [IntKind.wrap_u64]; omega
theorem below_g {l : List Int} {b : Bool} (h : GoodS l b) (n : Int) (hn : n < 9223372036854775808) : vint_Source_Below.f l b n = some (gBelow l b n) := by
  unfold vint_Source_Below.f vint_Source_Ok.f vint_Source_Fail.f
  rw [num_g h, Option.bind_some]
  obtain ⟨h0, h1⟩ := gNum_range h
  unfold gBelow
  generalize gNum l b = g at h0 h1 ⊢
  obtain ⟨x, l', b'⟩ := g
  simp only [Option.bind_some] at h0 h1 ⊢
  cases b' with
  | true => simp
  | false =>
    by_cases hn0 : n > 0
    · rw [wrap_u64_of (by omega) (by omega)]
      by_cases hx : x < n
      · have hw : wrap64 x = x := w64 (by omega) (by omega)
        have : ¬ n ≤ 0 := by omega
        simp [hn0, hx, hw, this]
      · have : n ≤ x := by omega
        simp [hn0, hx, this]
    · have : n ≤ 0 := by omega
      simp [hn0, this]
theorem rbelow_g {l : List Int} {b : Bool} (h : GoodS l b) (n : Int) (hn : n < 9223372036854775808) : firkinref01_S_Below.f l b n = some (gBelow l b n) := by
  unfold firkinref01_S_Below.f firkinref01_S_Fail.f
  rw [rnum_g h, Option.bind_some]
  obtain ⟨h0, h1⟩ := gNum_range h
  unfold gBelow
  generalize gNum l b = g at h0 h1 ⊢
  obtain ⟨x, l', b'⟩ := g
  simp only [Option.bind_some] at h0 h1 ⊢
  cases b' with
  | true => simp
  | false =>
    by_cases hn0 : n < 1
    · have : n ≤ 0 := by omega
      simp [hn0, this]
    · have hn2 : ¬ n ≤ 0 := by omega
      rw [wrap_u64_of (by omega) (by omega)]
      by_cases hx : x ≥ n
      · have : n ≤ x := by omega
        simp [hn0, hn2, this]
      · have hw : wrap64 x = x := w64 (by omega) (by omega)
        have : ¬ n ≤ x := by omega
        simp [hn0, hn2, hw, this]
end Go.Proofs.Ytbbffnlefmogbaa.Read
/- Signed numbers that are read, plain law. -/
namespace Go.Proofs.Ytbbffnlefmogbaa.Read
open Go Go.RowKit Go.Proofs.Ytbbffnlefmogbaa.X Go.Proofs.Ytbbffnlefmogbaa.Dec Go.Proofs.Ytbbffnlefmogbaa.Enc Go.Proofs.Ytbbffnlefmogbaa.Round Go.Proofs.YtbbffnlefmogbaaW.PrintWords Go.Proofs.YtbbffnlefmogbaaW.PrintLast Go.Proofs.YtbbffnlefmogbaaW.PrintMore
set_option linter.unusedVariables false
def gInt (l : List Int) (bad : Bool) : Int × List Int × Bool := (zag (gNum l bad).1.toNat, (gNum l bad).2.1, (gNum l bad).2.2)
theorem int_g {l : List Int} {b : Bool} (h : GoodS l b) : vint_Source_Int.f l b = some (gInt l b) := by
  unfold vint_Source_Int.f
  rw [num_g h, Option.bind_some]
  obtain ⟨h0, h1⟩ := gNum_range h
  have e := int_val (gNum l b).1.toNat (by omega)
  rw [Int.toNat_of_nonneg h0] at e
  rw [e]
  rfl
theorem rint_val (n : Int) (h0 : 0 ≤ n) (h1 : n < 18446744073709551616) :
    (if Int.tmod n 2 = 1 then wrap64 ((wrap64 (-(wrap64 (IntKind.u64.wrap (Int.tdiv n 2))))) - 1) else wrap64 (IntKind.u64.wrap (Int.tdiv n 2))) = zag n.toNat := by
  rw [Int.tmod_eq_emod_of_nonneg h0, Int.tdiv_eq_ediv_of_nonneg h0, IntKind.wrap_u64]
  unfold zag wrap64
  split <;> split <;> omega
theorem rint_g {l : List Int} {b : Bool} (h : GoodS l b) : firkinref01_S_Int.f l b = some (gInt l b) := by
  unfold firkinref01_S_Int.f
  rw [rnum_g h, Option.bind_some]
  obtain ⟨h0, h1⟩ := gNum_range h
  have e := rint_val _ h0 h1
  unfold gInt
  rw [← e]
  by_cases hc : Int.tmod (gNum l b).1 2 = 1
  · rw [if_pos hc, if_pos hc]
  · rw [if_neg hc, if_neg hc]
end Go.Proofs.Ytbbffnlefmogbaa.Read
/- What is read of a source, plain law: bytes; the code's source and the document's read the same. -/
namespace Go.Proofs.Ytbbffnlefmogbaa.Read
open Go Go.RowKit Go.Proofs.Ytbbffnlefmogbaa.X Go.Proofs.Ytbbffnlefmogbaa.Dec Go.Proofs.Ytbbffnlefmogbaa.Enc Go.Proofs.Ytbbffnlefmogbaa.Round Go.Proofs.YtbbffnlefmogbaaW.PrintWords Go.Proofs.YtbbffnlefmogbaaW.PrintLast Go.Proofs.YtbbffnlefmogbaaW.PrintMore
set_option linter.unusedVariables false
def gTake (l : List Int) (bad : Bool) (n : Int) : List Int × List Int × Bool :=
  if bad = true ∨ n < 0 ∨ (l.length : Int) < n then ([], [], true) else (l.take n.toNat, l.drop n.toNat, false)
theorem gTake_good {l : List Int} {b : Bool} (h : GoodS l b) (n : Int) : GoodS (gTake l b n).2.1 (gTake l b n).2.2 := by
  unfold gTake; split
  · exact GoodS.nil _
  · exact GoodS.of (h.1.drop _)
theorem gTake_len (l : List Int) (b : Bool) (n : Int) : (gTake l b n).2.1.length ≤ l.length := by unfold gTake; split <;> simp
theorem gTake_bytes {l : List Int} {b : Bool} (h : GoodS l b) (n : Int) : IsBytes (gTake l b n).1 := by
  unfold gTake; split
  · intro x hx; simp at hx
  · exact h.1.1.take _
theorem take_g {l : List Int} {b : Bool} (h : GoodS l b) (n : Int) : vint_Source_Take.f l b n = some (gTake l b n) := by
  unfold vint_Source_Take.f; rw [if_pos h.1.2]; rfl
theorem rtake_g {l : List Int} {b : Bool} (h : GoodS l b) (n : Int) : firkinref01_S_Take.f l b n = some (gTake l b n) := by
  unfold firkinref01_S_Take.f; rw [if_pos h.1.2]; rfl
end Go.Proofs.Ytbbffnlefmogbaa.Read
/- tight, plain law: Put and Get always answer; what they answer is of so many numbers, and is put again. -/
namespace Go.Proofs.Ytbbffnlefmogbaa.Tight
open Go Go.RowKit Go.Proofs.Ytbbffnlefmogbaa.X Go.Proofs.Ytbbffnlefmogbaa.Dec Go.Proofs.Ytbbffnlefmogbaa.Enc Go.Proofs.Ytbbffnlefmogbaa.Round Go.Proofs.Ytbbffnlefmogbaa.Read Go.Proofs.YtbbffnlefmogbaaW.PrintWords Go.Proofs.YtbbffnlefmogbaaW.PrintLast Go.Proofs.YtbbffnlefmogbaaW.PrintMore
set_option linter.unusedVariables false
set_option linter.unusedSimpArgs false
def I64 (x : Int) : Prop := -9223372036854775808 ≤ x ∧ x < 9223372036854775808
theorem min_loop (l : List Int) (hl : l.length ≤ 4096) : ∀ (d k i : Nat) (m : Int), i + d = l.length → d < k → slices_Min_int64_int64.l0 k l m (i : Int) = some ((l.drop i).foldl mn m) := by
  intro d
  induction d with
  | zero =>
    intro k i m h hk
    obtain ⟨k, rfl⟩ : ∃ q, k = q + 1 := ⟨k - 1, by omega⟩
    rw [slices_Min_int64_int64.l0, if_neg (by omega), List.drop_eq_nil_of_le (by omega)]; rfl
  | succ d ih =>
    intro k i m h hk
    obtain ⟨k, rfl⟩ : ∃ q, k = q + 1 := ⟨k - 1, by omega⟩
    have hi : i < l.length := by omega
    have e : rd l (i : Int) = l[i] := by unfold rd; simp [hi]
    rw [slices_Min_int64_int64.l0, if_pos (by omega), if_pos (by omega), e, show wrap64 ((i : Int) + 1) = ((i + 1 : Nat) : Int) by unfold wrap64; omega, ih k (i + 1) _ (by omega) (by omega), List.drop_eq_getElem_cons hi, List.foldl_cons]
theorem max_loop (l : List Int) (hl : l.length ≤ 4096) : ∀ (d k i : Nat) (m : Int), i + d = l.length → d < k → slices_Max_int64_int64.l0 k l m (i : Int) = some ((l.drop i).foldl mx m) := by
  intro d
  induction d with
  | zero =>
    intro k i m h hk
    obtain ⟨k, rfl⟩ : ∃ q, k = q + 1 := ⟨k - 1, by omega⟩
    rw [slices_Max_int64_int64.l0, if_neg (by omega), List.drop_eq_nil_of_le (by omega)]; rfl
  | succ d ih =>
    intro k i m h hk
    obtain ⟨k, rfl⟩ : ∃ q, k = q + 1 := ⟨k - 1, by omega⟩
    have hi : i < l.length := by omega
    have e : rd l (i : Int) = l[i] := by unfold rd; simp [hi]
    rw [slices_Max_int64_int64.l0, if_pos (by omega), if_pos (by omega), e, show wrap64 ((i : Int) + 1) = ((i + 1 : Nat) : Int) by unfold wrap64; omega, ih k (i + 1) _ (by omega) (by omega), List.drop_eq_getElem_cons hi, List.foldl_cons]
def lowOf (l : List Int) : Int := (l.drop 1).foldl mn (rd l 0)
def highOf (l : List Int) : Int := (l.drop 1).foldl mx (rd l 0)
theorem min_is (l : List Int) (hl : l.length ≤ 4096) (h0 : l ≠ []) (k : Nat) (hk : 4096 < k) : slices_Min_int64_int64.f k l = some (lowOf l) := by
  have hp := List.length_pos_iff.mpr h0
  unfold slices_Min_int64_int64.f
  rw [if_neg (by omega), if_pos (by omega)]
  exact min_loop l hl (l.length - 1) k 1 _ (by omega) (by omega)
theorem max_is (l : List Int) (hl : l.length ≤ 4096) (h0 : l ≠ []) (k : Nat) (hk : 4096 < k) : slices_Max_int64_int64.f k l = some (highOf l) := by
  have hp := List.length_pos_iff.mpr h0
  unfold slices_Max_int64_int64.f
  rw [if_neg (by omega), if_pos (by omega)]
  exact max_loop l hl (l.length - 1) k 1 _ (by omega) (by omega)
theorem fold_mn : ∀ (l : List Int) (m : Int), I64 m → (∀ x ∈ l, I64 x) → I64 (l.foldl mn m) ∧ l.foldl mn m ≤ m ∧ ∀ x ∈ l, l.foldl mn m ≤ x
  | [], m, h, _ => ⟨h, Int.le_refl _, fun _ h => by cases h⟩
  | x :: l, m, h, hl => by
    rw [List.foldl_cons]
    have hx := hl x List.mem_cons_self
    have hm : I64 (mn m x) ∧ mn m x ≤ m ∧ mn m x ≤ x := by unfold mn; split <;> (refine ⟨?_, ?_, ?_⟩ <;> first | assumption | omega)
    obtain ⟨h1, h2, h3⟩ := fold_mn l (mn m x) hm.1 (fun y hy => hl y (List.mem_cons_of_mem _ hy))
    refine ⟨h1, by omega, ?_⟩
    intro y hy
    rcases List.mem_cons.mp hy with rfl | hy
    · omega
    · exact h3 y hy
theorem fold_mx : ∀ (l : List Int) (m : Int), I64 m → (∀ x ∈ l, I64 x) → I64 (l.foldl mx m) ∧ m ≤ l.foldl mx m ∧ ∀ x ∈ l, x ≤ l.foldl mx m
  | [], m, h, _ => ⟨h, Int.le_refl _, fun _ h => by cases h⟩
  | x :: l, m, h, hl => by
    rw [List.foldl_cons]
    have hx := hl x List.mem_cons_self
    have hm : I64 (mx m x) ∧ m ≤ mx m x ∧ x ≤ mx m x := by unfold mx; split <;> (refine ⟨?_, ?_, ?_⟩ <;> first | assumption | omega)
    obtain ⟨h1, h2, h3⟩ := fold_mx l (mx m x) hm.1 (fun y hy => hl y (List.mem_cons_of_mem _ hy))
    refine ⟨h1, by omega, ?_⟩
    intro y hy
    rcases List.mem_cons.mp hy with rfl | hy
    · omega
    · exact h3 y hy
theorem low_high (l : List Int) (h0 : l ≠ []) (hl : ∀ x ∈ l, I64 x) : I64 (lowOf l) ∧ I64 (highOf l) ∧ ∀ x ∈ l, lowOf l ≤ x ∧ x ≤ highOf l := by
  obtain ⟨a, t, rfl⟩ : ∃ a t, l = a :: t := by cases l with | nil => exact absurd rfl h0 | cons a t => exact ⟨a, t, rfl⟩
  have ea : rd (a :: t) 0 = a := rfl
  have ha := hl a List.mem_cons_self
  have ht : ∀ x ∈ t, I64 x := fun x hx => hl x (List.mem_cons_of_mem _ hx)
  obtain ⟨p1, p2, p3⟩ := fold_mn t a ha ht
  obtain ⟨q1, q2, q3⟩ := fold_mx t a ha ht
  unfold lowOf highOf
  rw [ea, List.drop_one, List.tail_cons]
  refine ⟨p1, q1, ?_⟩
  intro x hx
  rcases List.mem_cons.mp hx with rfl | hx
  · exact ⟨p2, q2⟩
  · exact ⟨p3 x hx, q3 x hx⟩
theorem bitLenAux_le : ∀ f x, Lib.bitLenAux f x ≤ f
  | 0, _ => Nat.le_refl _
  | f + 1, x => by rw [Lib.bitLenAux]; split; omega; have := bitLenAux_le f (x / 2); omega
theorem above_range (x low : Int) : 0 ≤ above x low ∧ above x low < 18446744073709551616 := by unfold above; rw [IntKind.wrap_u64]; omega
/-- How wide the numbers are. -/
def wideOf (l : List Int) : Nat := Lib.bitLen (above (highOf l) (lowOf l)).toNat
theorem wide_le (l : List Int) : wideOf l ≤ 64 := bitLenAux_le 64 _
theorem putGo_len (lo : Int) (n : Nat) : ∀ (l b : List Int) (a : Nat), b.length = (a + 7) / 8 → (putGo lo n l b a).length = (a + l.length * n + 7) / 8
  | [], b, a, h => by rw [putGo, h]; simp
  | x :: l, b, a, h => by rw [putGo, putGo_len lo n l _ _ (bitsGo_len _ _ _ _ _ h), List.length_cons, Nat.succ_mul, show a + n + l.length * n = a + (l.length * n + n) by omega]
theorem enc_le (n : Nat) (h : n < 18446744073709551616) : (enc n).length ≤ 10 := by
  have : (enc n).length = grp n := encL_length _ _
  rw [this]; exact grp_le h
def putL (l : List Int) : List Int := if l = [] then [] else enc (zig (lowOf l)) ++ ((wideOf l : Nat) : Int) :: putGo (lowOf l) (wideOf l) l [] 0
theorem put_is (l : List Int) (hl : l.length ≤ 4096) (hz : ∀ x ∈ l, I64 x) (k : Nat) (hk : 4096 < k) : tight_Put.f k l = some (putL l) := by
  unfold tight_Put.f putL
  by_cases h0 : l = []
  · rw [if_pos h0, if_pos h0]
  · obtain ⟨h1, h2, h3⟩ := low_high l h0 hz
    have ha := above_range (highOf l) (lowOf l)
    have hw := wide_le l
    have hlen := putGo_len (lowOf l) (wideOf l) l [] 0 rfl
    have hm : l.length * wideOf l ≤ 4096 * 64 := Nat.mul_le_mul hl hw
    have he := enc_le (zig (lowOf l)) (zig_lt h1.1 h1.2)
    rw [if_neg h0, if_neg h0, min_is l hl h0 k hk, Option.bind_some, max_is l hl h0 k hk, Option.bind_some]
    unfold bits_Len64.f
    rw [if_pos (by omega), Option.bind_some, int_is _ h1.1 h1.2 k (by omega), Option.bind_some]
    show (if l.length < 1000000 ∧ 0 ≤ ((wideOf l : Nat) : Int) ∧ ((wideOf l : Nat) : Int) ≤ 64 then slices_Concat_byte.f [enc (zig (lowOf l)), [IntKind.u8.wrap ((wideOf l : Nat) : Int)], putGo (lowOf l) ((wideOf l : Nat) : Int).toNat l [] 0] else none) = _
    rw [if_pos (by omega), Int.toNat_natCast, show IntKind.u8.wrap ((wideOf l : Nat) : Int) = ((wideOf l : Nat) : Int) by rw [IntKind.wrap_u8]; omega]
    unfold slices_Concat_byte.f
    have hf : [enc (zig (lowOf l)), [((wideOf l : Nat) : Int)], putGo (lowOf l) (wideOf l) l [] 0].flatten = enc (zig (lowOf l)) ++ ((wideOf l : Nat) : Int) :: putGo (lowOf l) (wideOf l) l [] 0 := by simp
    rw [hf, if_pos (by rw [List.length_append, List.length_cons, hlen]; omega)]
theorem nextOf_i64 (lo u : Int) : I64 (nextOf lo u) := by unfold nextOf I64; rw [IntKind.wrap_i64]; omega
theorem getGo_i64 (lo : Int) (m : Nat) (b : List Int) : ∀ d a, ∀ x ∈ getGo lo m b d a, I64 x
  | 0, _, x, h => by cases h
  | d + 1, a, x, h => by
    rw [getGo] at h
    rcases List.mem_cons.mp h with rfl | h
    · exact nextOf_i64 _ _
    · exact getGo_i64 lo m b d _ x h
theorem fits_mul {n y L : Nat} (h : fits n y L = true) : n * y ≤ 8 * L := by
  unfold fits at h
  by_cases hy : y = 0
  · rw [hy, Nat.mul_zero]; omega
  · rw [if_neg hy] at h
    simp only [Bool.and_eq_true, decide_eq_true_eq] at h
    have h1 := h.1.1
    have := (Nat.le_div_iff_mul_le (by omega)).mp h1
    exact this
/-- What bytes are opened as. -/
def openL (l : List Int) (n : Nat) : Option (Int × Int × List Int × Bool) :=
  let a := gInt l false
  let t := gTake a.2.1 a.2.2 1
  if t.2.2 = true then none else if rd t.1 0 > 64 then none else some (a.1, rd t.1 0, t.2.1, fits n (rd t.1 0).toNat t.2.1.length)
theorem open_is (l : List Int) (hb : IsBytes l) (hl : l.length ≤ 100000) (n : Nat) (h1 : 1 ≤ n) (h2 : n ≤ 4096) : tight_open.f l n = some (openL l n) := by
  have hg : GoodS l false := GoodS.of ⟨hb, by omega⟩
  have hg1 : GoodS (gInt l false).2.1 (gInt l false).2.2 := gNum_good hg
  have hn1 : (gInt l false).2.1.length ≤ l.length := gNum_len l false
  have hg2 := gTake_good hg1 1
  have hn2 := gTake_len (gInt l false).2.1 (gInt l false).2.2 1
  have hby := gTake_bytes hg1 1
  unfold tight_open.f openL
  rw [if_pos ⟨by omega, h1, h2⟩, int_g hg, Option.bind_some, take_g hg1, Option.bind_some]
  simp only
  generalize gTake (gInt l false).2.1 (gInt l false).2.2 1 = t at *
  obtain ⟨t1, l2, b2⟩ := t
  simp only at *
  cases b2 with
  | true => rw [if_pos rfl, if_pos rfl]
  | false =>
    simp only [Bool.false_eq_true, if_false]
    by_cases h64 : rd t1 0 > 64
    · rw [if_pos h64, if_pos h64]
    · have h0 : 0 ≤ rd t1 0 := by
        cases t1 with
        | nil => exact Int.le_refl _
        | cons a r => exact (hby a List.mem_cons_self).1
      rw [if_neg h64, if_neg h64, if_pos h0]
      have e1 : vint_Source_Left.f l2 false = some ((l2.length : Int), l2, false) := rfl
      rw [e1, Option.bind_some]
      simp only
      have e2 : vint_Source_Take.f l2 false (l2.length : Int) = some (l2, [], false) := by
        unfold vint_Source_Take.f takeS
        rw [if_pos (by omega), if_neg (by simp), Int.toNat_natCast, List.take_of_length_le (Nat.le_refl _), List.drop_eq_nil_of_le (Nat.le_refl _)]
      rw [e2, Option.bind_some]
      simp only
      rw [if_pos (by omega)]
/-- Get always answers; what it says are numbers: so many, and put again. -/
theorem get_is (b : List Int) (hb : IsBytes b) (hl : b.length ≤ 400) (n : Int) (hn : n ≤ 400) (k : Nat) (hk : 4096 < k) :
    ∃ x t, tight_Get.f k b n = some (x, t) ∧ (t = false → x = []) ∧ (t = true → (x.length : Int) = n ∧ (∀ z ∈ x, I64 z) ∧ tight_Put.f k x = some (putL x) ∧ ((strOfNums (putL x)).toList == (strOfNums b).toList) = true) := by
  unfold tight_Get.f
  by_cases h0 : n ≤ 0 ∨ n > 4096
  · refine ⟨[], _, if_pos h0, fun _ => rfl, fun ht => ?_⟩
    simp only [Bool.and_eq_true, decide_eq_true_eq, beq_iff_eq] at ht
    obtain ⟨rfl, hz⟩ := ht
    obtain rfl : b = [] := List.eq_nil_of_length_eq_zero hz
    exact ⟨rfl, by simp, rfl, by simp [putL]⟩
  · rw [if_neg h0, open_is b hb (by omega) n.toNat (by omega) (by omega), Option.bind_some]
    cases ho : openL b n.toNat with
    | none => exact ⟨[], false, rfl, fun _ => rfl, nofun⟩
    | some q =>
      obtain ⟨lo, y, u, t⟩ := q
      simp only
      cases t with
      | false => exact ⟨[], false, by rw [if_pos rfl], fun _ => rfl, nofun⟩
      | true =>
        rw [if_neg (by decide)]
        have hq : 0 ≤ y ∧ y ≤ 64 ∧ n.toNat * y.toNat ≤ 8 * u.length ∧ u.length < 1000000000 := by
          have hg : GoodS b false := GoodS.of ⟨hb, by omega⟩
          have hg1 : GoodS (gInt b false).2.1 (gInt b false).2.2 := gNum_good hg
          have hn1 : (gInt b false).2.1.length ≤ b.length := gNum_len b false
          have hn2 := gTake_len (gInt b false).2.1 (gInt b false).2.2 1
          have hby := gTake_bytes hg1 1
          unfold openL at ho
          simp only at ho
          generalize gTake (gInt b false).2.1 (gInt b false).2.2 1 = t at *
          obtain ⟨t1, l2, b2⟩ := t
          simp only at *
          split at ho
          · cases ho
          split at ho
          · cases ho
          rename_i h64
          simp only [Option.some.injEq, Prod.mk.injEq] at ho
          obtain ⟨_, rfl, rfl, hf⟩ := ho
          refine ⟨?_, by omega, fits_mul hf, by omega⟩
          cases t1 with
          | nil => exact Int.le_refl _
          | cons a r => exact (hby a List.mem_cons_self).1
        rw [if_pos hq, put_is _ (by rw [getGo_len]; omega) (getGo_i64 _ _ _ _ _) k hk, Option.bind_some]
        unfold bytes_Equal.f
        rw [Option.bind_some]
        by_cases he : ((strOfNums (putL (getGo lo y.toNat u n.toNat 0))).toList == (strOfNums b).toList) = true
        · rw [if_pos he]
          exact ⟨_, _, rfl, nofun, fun _ => ⟨by rw [getGo_len]; omega, getGo_i64 _ _ _ _ _, put_is _ (by rw [getGo_len]; omega) (getGo_i64 _ _ _ _ _) k hk, he⟩⟩
        · rw [if_neg he]
          exact ⟨_, _, rfl, fun _ => rfl, nofun⟩
end Go.Proofs.Ytbbffnlefmogbaa.Tight
/- A text's bytes, plain law: the code's and the document's are the same. -/
namespace Go.Proofs.Ytbbffnlefmogbaa.EncText
open Go Go.RowKit Go.Proofs.Ytbbffnlefmogbaa.X Go.Proofs.Ytbbffnlefmogbaa.Dec Go.Proofs.Ytbbffnlefmogbaa.Enc Go.Proofs.YtbbffnlefmogbaaW.PrintWords Go.Proofs.YtbbffnlefmogbaaW.PrintLast Go.Proofs.YtbbffnlefmogbaaW.PrintMore
set_option linter.unusedVariables false
/-- A text's bytes, behind how many there are. -/
def encT (s : ByteArray) : List Int := enc s.size ++ bytesOf s
theorem bytesOf_bytes (s : ByteArray) : IsBytes (bytesOf s) := by
  intro x hx
  obtain ⟨y, _, rfl⟩ := List.mem_map.1 hx
  have := y.toNat_lt
  omega
theorem encT_bytes (s : ByteArray) : IsBytes (encT s) := by
  intro x hx
  rcases List.mem_append.1 hx with h | h
  · exact enc_bytes _ x h
  · exact bytesOf_bytes _ x h
theorem enc_len (n : Nat) (h : n < 18446744073709551616) : (enc n).length ≤ 10 := by
  unfold enc; rw [encL_length]; exact grp_le h
theorem encT_len (s : ByteArray) (h : s.size < 1000000000000) : (encT s).length ≤ s.size + 10 := by
  unfold encT; rw [List.length_append, bytesOf_length]; have := enc_len s.size (by omega); omega
theorem text_is (s : ByteArray) (h : s.size < 1000000000000) (k : Nat) (hk : 11 < k) : vint_Text.f k s = some (encT s) := by
  have hl := encT_len s h
  unfold vint_Text.f
  rw [num_is s.size (by omega) k (by omega), Option.bind_some, if_pos (by omega)]
  unfold vint_joined.f bytes_Join.f
  unfold encT at hl
  rw [if_pos ⟨rfl, by simp, by simpa using by rw [List.length_append] at hl; omega⟩]
  simp [encT]
theorem wrap_size (s : ByteArray) (h : s.size < 1000000000000) : IntKind.u64.wrap (s.size : Int) = (s.size : Int) := by rw [IntKind.wrap_u64]; omega
theorem rtext_is (s : ByteArray) (h : s.size < 1000000000000) (k : Nat) (hk : 11 < k) : firkinref01_Text.f k s = some (encT s) := by
  have hl := encT_len s h
  unfold encT at hl
  rw [List.length_append, bytesOf_length] at hl
  unfold firkinref01_Text.f
  rw [wrap_size s h, rnum_is s.size (by omega) k hk, Option.bind_some, if_pos (by omega)]
  rfl
theorem same_self (l : List Int) : firkinref01_Same.f l l = some true := by unfold firkinref01_Same.f; simp
end Go.Proofs.Ytbbffnlefmogbaa.EncText
/- Texts that are read, plain law. -/
namespace Go.Proofs.Ytbbffnlefmogbaa.Read
open Go Go.RowKit Go.Proofs.Ytbbffnlefmogbaa.X Go.Proofs.Ytbbffnlefmogbaa.Dec Go.Proofs.Ytbbffnlefmogbaa.Enc Go.Proofs.Ytbbffnlefmogbaa.Round Go.Proofs.YtbbffnlefmogbaaW.PrintWords Go.Proofs.YtbbffnlefmogbaaW.PrintLast Go.Proofs.YtbbffnlefmogbaaW.PrintMore
set_option linter.unusedVariables false
def gText (l : List Int) (bad : Bool) (most : Int) : ByteArray × List Int × Bool :=
  if (gNum l bad).2.2 = true ∨ most < 0 ∨ most < (gNum l bad).1 ∨ ((gNum l bad).2.1.length : Int) < (gNum l bad).1 then (⟨#[]⟩, [], true)
  else (strOfNums ((gNum l bad).2.1.take (gNum l bad).1.toNat), (gNum l bad).2.1.drop (gNum l bad).1.toNat, false)
theorem gText_good {l : List Int} {b : Bool} (h : GoodS l b) (n : Int) : GoodS (gText l b n).2.1 (gText l b n).2.2 := by
  unfold gText; split
  · exact GoodS.nil _
  · exact GoodS.of ((gNum_good h).1.drop _)
theorem gText_len (l : List Int) (b : Bool) (n : Int) : (gText l b n).2.1.length ≤ l.length := by
  have := gNum_len l b
  unfold gText; split
  · simp
  · simp; omega
theorem len_u64 {l : List Int} (h : Fit l) : IntKind.u64.wrap ((l.length : Int)) = (l.length : Int) := wrap_u64_of (by omega) (by have := h.2; omega)
theorem text_g {l : List Int} {b : Bool} (h : GoodS l b) (n : Int) (hn : n < 9223372036854775808) (k : Nat) : vint_Source_Text.f (k + 1) l b n = some (gText l b n) := by
  unfold vint_Source_Text.f vint_Source_Ok.f
  rw [num_g h, Option.bind_some]
  obtain ⟨h0, h1⟩ := gNum_range h
  have hg := gNum_good h
  unfold gText
  generalize gNum l b = g at h0 h1 hg ⊢
  obtain ⟨x, l', b'⟩ := g
  simp only [Option.bind_some] at h0 h1 hg ⊢
  have hj : ∀ y, vint_Source_Text.j0 (k + 1) x true y b' = some (⟨#[]⟩, [], true) := fun y => by rw [vint_Source_Text.j0, if_pos rfl]; rfl
  rw [hj]
  cases b' with
  | true => simp
  | false =>
    have hlen := hg.1.2
    by_cases hn0 : n < 0
    · simp [hn0]
    · rw [wrap_u64_of (by omega) (by omega), len_u64 hg.1]
      by_cases hx : x > n
      · have : n < x := hx
        simp [hn0, this]
      · have hx2 : ¬ n < x := hx
        by_cases hz : x > (l'.length : Int)
        · have hz2 : ((l'.length : Int) < x) := hz
          simp [hn0, hx2, hz2, hj]
        · have hz2 : ¬ ((l'.length : Int) < x) := hz
          have hw : wrap64 x = x := w64 (by omega) (by omega)
          rw [if_pos (by rfl), if_neg hn0, if_neg hx, decide_eq_false hz, vint_Source_Text.j0, if_neg (by decide), hw, take_g hg]
          unfold gTake
          have hx0 : ¬ x < 0 := by omega
          simp [hn0, hx2, hz2, hx0]
theorem rtext_g {l : List Int} {b : Bool} (h : GoodS l b) (n : Int) (hn : n < 9223372036854775808) (k : Nat) : firkinref01_S_Text.f (k + 1) l b n = some (gText l b n) := by
  unfold firkinref01_S_Text.f firkinref01_S_Fail.f
  obtain ⟨h0, h1⟩ := gNum_range h
  have hg := gNum_good h
  unfold gText
  rw [rnum_g h]
  generalize gNum l b = g at h0 h1 hg ⊢
  obtain ⟨x, l', b'⟩ := g
  simp only [Option.bind_some] at h0 h1 hg ⊢
  have hj : ∀ y, firkinref01_S_Text.j0 (k + 1) x true y b' = some (⟨#[]⟩, [], true) := fun y => by rw [firkinref01_S_Text.j0, if_pos rfl]; rfl
  rw [hj]
  by_cases hn0 : n < 0
  · simp [hn0]
  rw [if_neg hn0]
  cases b' with
  | true => simp
  | false =>
    have hlen := hg.1.2
    rw [wrap_u64_of (by omega) (by omega), len_u64 hg.1]
    by_cases hx : x > n
    · have : n < x := hx
      simp [hn0, this]
    · have hx2 : ¬ n < x := hx
      by_cases hz : x > (l'.length : Int)
      · have hz2 : ((l'.length : Int) < x) := hz
        simp [hn0, hx2, hz2, hj]
      · have hz2 : ¬ ((l'.length : Int) < x) := hz
        have hw : wrap64 x = x := w64 (by omega) (by omega)
        rw [if_neg (by decide), if_neg hx, decide_eq_false hz, firkinref01_S_Text.j0, if_neg (by decide), hw, rtake_g hg]
        unfold gTake
        have hx0 : ¬ x < 0 := by omega
        simp [hn0, hx2, hz2, hx0]
end Go.Proofs.Ytbbffnlefmogbaa.Read
/- What was written is read again: numbers. -/
namespace Go.Proofs.Ytbbffnlefmogbaa.Read
open Go Go.RowKit Go.Proofs.Ytbbffnlefmogbaa.X Go.Proofs.Ytbbffnlefmogbaa.Dec Go.Proofs.Ytbbffnlefmogbaa.Enc Go.Proofs.Ytbbffnlefmogbaa.Round Go.Proofs.YtbbffnlefmogbaaW.PrintWords Go.Proofs.YtbbffnlefmogbaaW.PrintLast Go.Proofs.YtbbffnlefmogbaaW.PrintMore
set_option linter.unusedVariables false
theorem gNum_enc {n : Nat} (h : n < 18446744073709551616) (rest : List Int) : gNum (enc n ++ rest) false = ((n : Int), rest, false) := by
  have h1 := num_enc h rest
  unfold numS at h1
  rw [if_neg (by decide)] at h1
  unfold gNum
  by_cases hz : szS 0 (enc n ++ rest) = 0
  · rw [if_pos hz] at h1; simp at h1
  · rw [if_neg hz] at h1
    rw [if_neg (by simp [hz])]
    exact h1
theorem gBelow_enc {n : Nat} {m : Int} (h : (n : Int) < m) (hm : m < 9223372036854775808) (rest : List Int) : gBelow (enc n ++ rest) false m = ((n : Int), rest, false) := by
  unfold gBelow
  rw [gNum_enc (by omega)]
  rw [if_neg]
  simp only [not_or]
  exact ⟨by decide, by omega, by omega⟩
end Go.Proofs.Ytbbffnlefmogbaa.Read
/- What was written is read again, plain law: texts. -/
namespace Go.Proofs.Ytbbffnlefmogbaa.Read
open Go Go.RowKit Go.Proofs.Ytbbffnlefmogbaa.X Go.Proofs.Ytbbffnlefmogbaa.Dec Go.Proofs.Ytbbffnlefmogbaa.Enc Go.Proofs.Ytbbffnlefmogbaa.Round Go.Proofs.Ytbbffnlefmogbaa.EncText Go.Proofs.YtbbffnlefmogbaaW.PrintWords Go.Proofs.YtbbffnlefmogbaaW.PrintLast Go.Proofs.YtbbffnlefmogbaaW.PrintMore
set_option linter.unusedVariables false
theorem strOfNums_bytesOf (s : ByteArray) : strOfNums (bytesOf s) = s := by
  unfold strOfNums bytesOf
  rw [List.map_map]
  have : ((fun n : Int => UInt8.ofNat n.toNat) ∘ fun b : UInt8 => (b.toNat : Int)) = id := by funext b; simp
  rw [this, List.map_id]
theorem gText_enc {s : ByteArray} {m : Int} (h : (s.size : Int) ≤ m) (hm : m < 9223372036854775808) (rest : List Int) : gText (encT s ++ rest) false m = (s, rest, false) := by
  unfold gText encT
  rw [List.append_assoc, gNum_enc (by omega)]
  have hl : ((bytesOf s ++ rest).length : Int) = s.size + rest.length := by rw [List.length_append, bytesOf_length]; omega
  rw [if_neg]
  · have e1 : ((s.size : Nat) : Int).toNat = (bytesOf s).length := by rw [bytesOf_length]; rfl
    simp only [e1, List.take_left, List.drop_left, strOfNums_bytesOf]
  · simp only [not_or]
    exact ⟨by decide, by omega, by omega, by rw [hl]; omega⟩
end Go.Proofs.Ytbbffnlefmogbaa.Read
/- Whether all was read, plain law. -/
namespace Go.Proofs.Ytbbffnlefmogbaa.Read
open Go Go.RowKit Go.Proofs.Ytbbffnlefmogbaa.X Go.Proofs.Ytbbffnlefmogbaa.Dec Go.Proofs.Ytbbffnlefmogbaa.Enc Go.Proofs.Ytbbffnlefmogbaa.Round Go.Proofs.YtbbffnlefmogbaaW.PrintWords Go.Proofs.YtbbffnlefmogbaaW.PrintLast Go.Proofs.YtbbffnlefmogbaaW.PrintMore
set_option linter.unusedVariables false
def gEnd (l : List Int) (b : Bool) : Bool := !b && l.isEmpty
theorem isEmpty_len (l : List Int) : (((l.length : Int) == 0) : Bool) = l.isEmpty := by cases l <;> simp; omega
theorem end_g (l : List Int) (b : Bool) : vint_Source_End.f l b = some (gEnd l b, l, b) := by
  unfold vint_Source_End.f vint_Source_Ok.f gEnd
  cases b <;> simp [isEmpty_len]
theorem rend_g (l : List Int) (b : Bool) : firkinref01_S_End.f l b = some (gEnd l b, l, b) := by
  unfold firkinref01_S_End.f gEnd
  cases b <;> simp [isEmpty_len]
end Go.Proofs.Ytbbffnlefmogbaa.Read
/- How much is left of a source, plain law. -/
namespace Go.Proofs.Ytbbffnlefmogbaa.Read
open Go Go.RowKit Go.Proofs.Ytbbffnlefmogbaa.X Go.Proofs.Ytbbffnlefmogbaa.Dec Go.Proofs.Ytbbffnlefmogbaa.Enc Go.Proofs.Ytbbffnlefmogbaa.Round Go.Proofs.YtbbffnlefmogbaaW.PrintWords Go.Proofs.YtbbffnlefmogbaaW.PrintLast Go.Proofs.YtbbffnlefmogbaaW.PrintMore
set_option linter.unusedVariables false
theorem left_g {l : List Int} {b : Bool} (h : GoodS l b) : vint_Source_Left.f l b = some ((l.length : Int), l, b) := by
  unfold vint_Source_Left.f vint_Source_Ok.f
  cases b with
  | true => rw [h.2 rfl]; rfl
  | false => rfl
end Go.Proofs.Ytbbffnlefmogbaa.Read
