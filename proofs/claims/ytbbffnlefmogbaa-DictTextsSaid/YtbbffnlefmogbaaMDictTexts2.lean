/- DictTexts: for every input the call returns true, and each argument reads behind the call as it read before it. No condition. (Part 3 of 5: this session's texts, laid together by wip/merge.py.) -/
import Derived.Test.YtbbffnlefmogbaaX0
import Derived.Test.YtbbffnlefmogbaaMem
import Derived.Deep.QuietTactic
import Derived.BigQuiet
import Derived.Test.YtbbffnlefmogbaaMDictTexts0
import Derived.Test.YtbbffnlefmogbaaMDictTexts1
-- Printed for this claim by a program of this session (wip/xprint.py) over the kit's printer; Lean checks it.
namespace Go.Proofs.Ytbbffnlefmogbaa.X
open Go.RowKit Go.Proofs.YtbbffnlefmogbaaW.PrintWords Go.Proofs.YtbbffnlefmogbaaW.PrintLast Go.Proofs.YtbbffnlefmogbaaW.PrintMore
attribute [local go_sem] max2_int min2_int max_two min_two max_three min_three max_four min_four   -- for this text's walks alone
set_option linter.unusedVariables false
set_option linter.unusedSimpArgs false

/-! ### firkinlaw08_DictTexts: function 7 -/
def firkinlaw08_DictTexts.j0 : Nat → List Int → Int → Int → Bool → Option (Bool)
  | 0, _, _, _, _ => none
  | k + 1, x0, x1, x2, x17 => if x17 = true then ((firkinlaw08_live.f k).bind fun t218 => (some t218)) else ((dict_Texts.f k x0 x1 x2).bind fun bt219 => ((firkinref08_Texts.f k x0 x1 x2).bind fun bt223 => (if (bt219.2 == bt223.2) = true then ((firkinref01_Names.f k bt219.1 bt223.1).bind fun t227 => (if t227 = true then (if bt219.2 = true then ((dict_Plain.f k bt219.1).bind fun t228 => ((firkinref01_Same.f t228 x0).bind fun t231 => (if t231 = true then ((firkinlaw08_live.f k).bind fun t232 => (some t232)) else (some false)))) else ((firkinlaw08_live.f k).bind fun t233 => (some t233))) else (some false))) else (some false))))
def firkinlaw08_DictTexts.f (k : Nat) (l0 : List Int) (a1 : Int) (a2 : Int) : Option (Bool) := if (l0.length : Int) > 400 then (firkinlaw08_DictTexts.j0 k l0 a1 a2 true) else (firkinlaw08_DictTexts.j0 k l0 a1 a2 (decide (a1 > 400)))
theorem firkinlaw08_DictTexts.mono_l : ∀ k, (∀ y0 y1 y2 y3, LeO (firkinlaw08_DictTexts.j0 k y0 y1 y2 y3) (firkinlaw08_DictTexts.j0 (k + 1) y0 y1 y2 y3))
  | 0 => fun _ _ _ _ r h => by simp [firkinlaw08_DictTexts.j0] at h
  | k + 1 => by
    have ih0 := firkinlaw08_DictTexts.mono_l k
    · intro y0 y1 y2 y3
      unfold firkinlaw08_DictTexts.j0
      repeat' first
      | (with_reducible exact ih0 _ _ _ _)
      | (with_reducible exact dict_Plain.mono _ _)
      | (with_reducible exact dict_Texts.mono _ _ _ _)
      | (with_reducible exact firkinlaw08_live.mono _)
      | (with_reducible exact firkinref01_Names.mono _ _ _)
      | (with_reducible exact firkinref08_Texts.mono _ _ _ _)
      | (with_reducible exact LeO.refl _)
      | (with_reducible exact LeO.none _)
      | (with_reducible refine LeO.ite ?_ ?_)
      | (with_reducible refine LeO.bind ?_ (fun _ => ?_))
      | exact ih0 _ _ _ _
      | exact dict_Plain.mono _ _
      | exact dict_Texts.mono _ _ _ _
      | exact firkinlaw08_live.mono _
      | exact firkinref01_Names.mono _ _ _
      | exact firkinref08_Texts.mono _ _ _ _
      | exact LeO.none _
      | refine LeO.ite ?_ ?_
      | refine LeO.bind ?_ (fun _ => ?_)
theorem firkinlaw08_DictTexts.mono : ∀ a0 a1 a2 k, LeO (firkinlaw08_DictTexts.f k a0 a1 a2) (firkinlaw08_DictTexts.f (k + 1) a0 a1 a2) := by
  intro a0 a1 a2 k
  have ih0 := firkinlaw08_DictTexts.mono_l k
  unfold firkinlaw08_DictTexts.f
  repeat' first
      | (with_reducible exact ih0 _ _ _ _)
      | (with_reducible exact dict_Plain.mono _ _)
      | (with_reducible exact dict_Texts.mono _ _ _ _)
      | (with_reducible exact firkinlaw08_live.mono _)
      | (with_reducible exact firkinref01_Names.mono _ _ _)
      | (with_reducible exact firkinref08_Texts.mono _ _ _ _)
      | (with_reducible exact LeO.refl _)
      | (with_reducible exact LeO.none _)
      | (with_reducible refine LeO.ite ?_ ?_)
      | (with_reducible refine LeO.bind ?_ (fun _ => ?_))
      | exact ih0 _ _ _ _
      | exact dict_Plain.mono _ _
      | exact dict_Texts.mono _ _ _ _
      | exact firkinlaw08_live.mono _
      | exact firkinref01_Names.mono _ _ _
      | exact firkinref08_Texts.mono _ _ _ _
      | exact LeO.none _
      | refine LeO.ite ?_ ?_
      | refine LeO.bind ?_ (fun _ => ?_)
set_option maxHeartbeats 8000000 in
set_option maxRecDepth 100000 in
theorem firkinlaw08_DictTexts.calls (k : Nat) (A0 : Option Addr) (c0 : Nat) (l0 : List Int) (a1 : Int) (a2 : Int) (r : Bool) (w : World) (hr0 : Kd.C (Kd.int .u8) w A0 l0.length l0) (hc0 : l0.length ≤ c0) (h : firkinlaw08_DictTexts.f k l0 a1 a2 = some r) :
    Calls Try.prog 7 #[.slice A0 l0.length c0, .int .i64 a1, .int .i64 a2] w fun e w' => e = .returned (.bool r) ∧ Below w.heap.size w w' := by
  have HR0 := Aside0.mk hr0
  have HC0 := Aside0.mk hc0
  clear hr0 hc0
  have HB := Aside0.mk (Below.refl w.heap.size w)
  have H : (if (l0.length : Int) > 400 then (firkinlaw08_DictTexts.j0 k l0 a1 a2 true) else (firkinlaw08_DictTexts.j0 k l0 a1 a2 (decide (a1 > 400)))) = some r := h
  clear h
  have HC4 := Aside0.mk H
  clear H
  go_enter Try.func7, Try.ntmps7
  go_upto_region 1 with (fail)
  go_cut [17] (fun v17 wc => ∃ (kq : Nat) (x17_3 : Bool), v17 = .bool x17_3 ∧ Aside0 (firkinlaw08_DictTexts.j0 kq l0 a1 a2 x17_3 = some r) ∧ Aside0 (kq ≤ k) ∧ Aside0 (Below w.heap.size w wc))
  case first =>
    have H := HC4.out
    clear HC4
    by_cases c5 : (l0.length : Int) > 400
    · rw [if_pos c5] at H
      have c5b0 : decide (400 < (l0.length : Int)) = true := decide_eq_true c5
      have c5b1 : decide (400 < l0.length) = true := decide_eq_true (by omega)
      clear c5
      (first | rw [c5b0] | (simp only [i64_w, i32_w]; rw [c5b0]) | skip)
      have H' := Aside0.mk H
      clear H
      go_wp2
      go_meet
      case rel => exact ⟨_, (true), (by first | rfl | (simp; done) | (simp [*]; done)), H', ⟨by first | omega | exact Nat.le_refl _⟩, ⟨by repeat (first | (with_reducible first | exact HB.out | apply below_alloc | apply pw_below_drewN | apply below_drew1) | exact HB.out)⟩⟩
    · rw [if_neg c5] at H
      have c5b0 : decide (400 < (l0.length : Int)) = false := decide_eq_false c5
      have c5b1 : decide (400 < l0.length) = false := decide_eq_false (by omega)
      clear c5
      (first | rw [c5b0] | (simp only [i64_w, i32_w]; rw [c5b0]) | skip)
      have H' := Aside0.mk H
      clear H
      go_wp2
      go_meet
      case rel => exact ⟨_, (decide (a1 > 400)), (by first | rfl | (simp; done) | (simp [*]; done)), H', ⟨by first | omega | exact Nat.le_refl _⟩, ⟨by repeat (first | (with_reducible first | exact HB.out | apply below_alloc | apply pw_below_drewN | apply below_drew1) | exact HB.out)⟩⟩
  case rest =>
    clear HC4
    try clear p2
    try clear c5
    try clear c5b0
    try clear c5b1
    obtain ⟨kq, x17_3, rfl, HA, HJ3, HB⟩ := hcut
    cases kq with
    | zero => exact absurd HA.out (by simp [firkinlaw08_DictTexts.j0])
    | succ kj3 =>
      have H := HA.out
      clear HA
      simp only [firkinlaw08_DictTexts.j0] at H
      by_cases c6 : x17_3 = true
      · subst c6
        have H1 : ((firkinlaw08_live.f kj3).bind fun t218 => (some t218)) = some r := by rw [if_pos rfl] at H; exact H
        clear H
        have H := H1
        clear H1
        replace H := Option.bind_eq_some_iff.mp H
        obtain ⟨t218, A70, H⟩ := H
        replace H : (some t218) = some r := H
        have A7 := Aside0.mk A70
        clear A70
        obtain rfl := Option.some.inj H
        go_wp2_with (first | ((with_reducible refine gate_callee (f := 30) rfl ?_); refine goesL_ (some 18) rfl rfl Try.func30 (by kernel_rfl) rfl #[] rfl (by (try simp only [List.map_toArray, List.map_cons, List.map_nil]); first | done | rfl | (simp only [List.length_drop, List.length_take]; rfl)) ?_; (with_reducible refine (firkinlaw08_live.calls kj3  t218 _ A7.out).mono ?_); rintro e w8 ⟨rfl, hb⟩; refine ⟨_, rfl, ?_⟩; have n0_ := Aside0.mk (below_step (by repeat (first | (with_reducible first | exact HB.out | apply below_alloc | apply pw_below_drewN | apply below_drew1) | exact HB.out)) hb); clear HB; have HB := n0_; clear n0_; (try clear hb); (try clear hb2); (try clear hk); (try clear hi)))
        go_ret
        exact ⟨by first | rfl | (simp [errW_none, errW_some] <;> rfl) | (simp [*, errW_none, errW_some] <;> rfl), by repeat (first | (with_reducible first | exact HB.out | apply below_alloc | apply pw_below_drewN | apply below_drew1) | exact HB.out)⟩
      · replace c6 := Bool.eq_false_iff.mpr c6
        subst c6
        have H1 : ((dict_Texts.f kj3 l0 a1 a2).bind fun bt219 => ((firkinref08_Texts.f kj3 l0 a1 a2).bind fun bt223 => (if (bt219.2 == bt223.2) = true then ((firkinref01_Names.f kj3 bt219.1 bt223.1).bind fun t227 => (if t227 = true then (if bt219.2 = true then ((dict_Plain.f kj3 bt219.1).bind fun t228 => ((firkinref01_Same.f t228 l0).bind fun t231 => (if t231 = true then ((firkinlaw08_live.f kj3).bind fun t232 => (some t232)) else (some false)))) else ((firkinlaw08_live.f kj3).bind fun t233 => (some t233))) else (some false))) else (some false)))) = some r := by rw [if_neg (show ¬ (false = true) by decide)] at H; exact H
        clear H
        have H := H1
        clear H1
        replace H := Option.bind_eq_some_iff.mp H
        obtain ⟨⟨t219, t220⟩, A90, H⟩ := H
        replace H : ((firkinref08_Texts.f kj3 l0 a1 a2).bind fun bt223 => (if (t220 == bt223.2) = true then ((firkinref01_Names.f kj3 t219 bt223.1).bind fun t227 => (if t227 = true then (if t220 = true then ((dict_Plain.f kj3 t219).bind fun t228 => ((firkinref01_Same.f t228 l0).bind fun t231 => (if t231 = true then ((firkinlaw08_live.f kj3).bind fun t232 => (some t232)) else (some false)))) else ((firkinlaw08_live.f kj3).bind fun t233 => (some t233))) else (some false))) else (some false))) = some r := H
        have A9 := Aside0.mk A90
        clear A90
        replace H := Option.bind_eq_some_iff.mp H
        obtain ⟨⟨t223, t224⟩, A100, H⟩ := H
        replace H : (if (t220 == t224) = true then ((firkinref01_Names.f kj3 t219 t223).bind fun t227 => (if t227 = true then (if t220 = true then ((dict_Plain.f kj3 t219).bind fun t228 => ((firkinref01_Same.f t228 l0).bind fun t231 => (if t231 = true then ((firkinlaw08_live.f kj3).bind fun t232 => (some t232)) else (some false)))) else ((firkinlaw08_live.f kj3).bind fun t233 => (some t233))) else (some false))) else (some false)) = some r := H
        have A10 := Aside0.mk A100
        clear A100
        by_cases c11 : (t220 == t224) = true
        · rw [if_pos c11] at H
          have c11b0 : (t220 == t224) = true := c11
          (try (have c11b1 : decide (t220 = t224) = true := by simpa using c11))
          (try (have c11b2 : (t220 == t224) = true := by simpa using c11))
          clear c11
          replace H := Option.bind_eq_some_iff.mp H
          obtain ⟨t227, A120, H⟩ := H
          replace H : (if t227 = true then (if t220 = true then ((dict_Plain.f kj3 t219).bind fun t228 => ((firkinref01_Same.f t228 l0).bind fun t231 => (if t231 = true then ((firkinlaw08_live.f kj3).bind fun t232 => (some t232)) else (some false)))) else ((firkinlaw08_live.f kj3).bind fun t233 => (some t233))) else (some false)) = some r := H
          have A12 := Aside0.mk A120
          clear A120
          by_cases c13 : t227 = true
          · subst c13
            have H1 : (if t220 = true then ((dict_Plain.f kj3 t219).bind fun t228 => ((firkinref01_Same.f t228 l0).bind fun t231 => (if t231 = true then ((firkinlaw08_live.f kj3).bind fun t232 => (some t232)) else (some false)))) else ((firkinlaw08_live.f kj3).bind fun t233 => (some t233))) = some r := by rw [if_pos rfl] at H; exact H
            clear H
            have H := H1
            clear H1
            by_cases c14 : t220 = true
            · subst c14
              have H1 : ((dict_Plain.f kj3 t219).bind fun t228 => ((firkinref01_Same.f t228 l0).bind fun t231 => (if t231 = true then ((firkinlaw08_live.f kj3).bind fun t232 => (some t232)) else (some false)))) = some r := by rw [if_pos rfl] at H; exact H
              clear H
              have H := H1
              clear H1
              replace H := Option.bind_eq_some_iff.mp H
              obtain ⟨t228, A150, H⟩ := H
              replace H : ((firkinref01_Same.f t228 l0).bind fun t231 => (if t231 = true then ((firkinlaw08_live.f kj3).bind fun t232 => (some t232)) else (some false))) = some r := H
              have A15 := Aside0.mk A150
              clear A150
              replace H := Option.bind_eq_some_iff.mp H
              obtain ⟨t231, A160, H⟩ := H
              replace H : (if t231 = true then ((firkinlaw08_live.f kj3).bind fun t232 => (some t232)) else (some false)) = some r := H
              have A16 := Aside0.mk A160
              clear A160
              by_cases c17 : t231 = true
              · subst c17
                have H1 : ((firkinlaw08_live.f kj3).bind fun t232 => (some t232)) = some r := by rw [if_pos rfl] at H; exact H
                clear H
                have H := H1
                clear H1
                replace H := Option.bind_eq_some_iff.mp H
                obtain ⟨t232, A180, H⟩ := H
                replace H : (some t232) = some r := H
                have A18 := Aside0.mk A180
                clear A180
                obtain rfl := Option.some.inj H
                go_wp2_with (first | ((with_reducible refine gate_callee (f := 31) rfl ?_); refine goesL_ (some 23) rfl rfl Try.func31 (by kernel_rfl) rfl #[.slice A0 l0.length c0, .int .i64 a1, .int .i64 a2] rfl (by (try simp only [List.map_toArray, List.map_cons, List.map_nil]); first | done | rfl | (simp only [List.length_drop, List.length_take]; rfl)) ?_; (with_reducible refine (dict_Texts.calls kj3 _ _ l0 a1 a2 t219 true _ ?side1 ?side2 A9.out).mono ?_); (case side1 => repeat (first | exact (Kd.C_below HR0.out HB.out) | (with_reducible refine Kd.C_alloc ?_ _) | (with_reducible refine Kd.C_drewN ?_ _) | (with_reducible refine Kd.C_drew ?_))); (case side2 => exact HC0.out); rintro e w19 ⟨v221, rfl, ho0, hb⟩; refine ⟨_, rfl, ?_⟩; have n0_ := Aside0.mk (Kd.R_lower ho0 (below_size (by repeat (first | (with_reducible first | exact HB.out | apply below_alloc | apply pw_below_drewN | apply below_drew1) | exact HB.out)))); have n1_ := Aside0.mk (below_step (by repeat (first | (with_reducible first | exact HB.out | apply below_alloc | apply pw_below_drewN | apply below_drew1) | exact HB.out)) hb); clear HB; have HO222 := n0_; have HB := n1_; clear n0_ n1_; (try clear hb); (try clear hb2); (try clear hk); (try clear hi); (try clear ho0)) | ((with_reducible refine gate_callee (f := 32) rfl ?_); refine goesL_ (some 30) rfl rfl Try.func32 (by kernel_rfl) rfl #[.slice A0 l0.length c0, .int .i64 a1, .int .i64 a2] rfl (by (try simp only [List.map_toArray, List.map_cons, List.map_nil]); first | done | rfl | (simp only [List.length_drop, List.length_take]; rfl)) ?_; (with_reducible refine (firkinref08_Texts.calls kj3 _ _ l0 a1 a2 t223 t224 _ ?side1 ?side2 A10.out).mono ?_); (case side1 => repeat (first | exact (Kd.C_below HR0.out HB.out) | (with_reducible refine Kd.C_alloc ?_ _) | (with_reducible refine Kd.C_drewN ?_ _) | (with_reducible refine Kd.C_drew ?_))); (case side2 => exact HC0.out); rintro e w20 ⟨v225, rfl, ho0, hb⟩; refine ⟨_, rfl, ?_⟩; have n0_ := Aside0.mk (Kd.R_elder' (by (with_reducible repeat (first | apply Kd.R_alloc | apply Kd.R_drewN | apply Kd.R_drew)); exact HO222.out) (Kd.R_base ho0) hb); have n1_ := Aside0.mk (Kd.R_lower (Kd.R_new' ho0 (Kd.R_lt (by (with_reducible repeat (first | apply Kd.R_alloc | apply Kd.R_drewN | apply Kd.R_drew)); exact HO222.out))) (below_size (by repeat (first | (with_reducible first | exact HB.out | apply below_alloc | apply pw_below_drewN | apply below_drew1) | exact HB.out)))); have n2_ := Aside0.mk (below_step (by repeat (first | (with_reducible first | exact HB.out | apply below_alloc | apply pw_below_drewN | apply below_drew1) | exact HB.out)) hb); clear HO222; clear HB; have HO222 := n0_; have HO226 := n1_; have HB := n2_; clear n0_ n1_ n2_; (try clear hb); (try clear hb2); (try clear hk); (try clear hi); (try clear ho0); obtain ⟨Ao21, co21, eo21⟩ := Kd.R_slice HO222.out; subst eo21; obtain ⟨Ao22, co22, eo22⟩ := Kd.R_slice HO226.out; subst eo22) | (go_at_call 33; (with_reducible refine (firkinref01_Names.calls kj3 _ _ t219 _ _ t223 true _ ?side1 ?side2 ?side3 ?side4 A12.out).mono ?_); (case side1 => repeat (first | exact (Kd.R_reads' HO222.out).2.2 | (with_reducible refine Kd.C_alloc ?_ _) | (with_reducible refine Kd.C_drewN ?_ _) | (with_reducible refine Kd.C_drew ?_))); (case side2 => exact (Kd.R_reads' HO222.out).2.1); (case side3 => repeat (first | exact (Kd.R_reads' HO226.out).2.2 | (with_reducible refine Kd.C_alloc ?_ _) | (with_reducible refine Kd.C_drewN ?_ _) | (with_reducible refine Kd.C_drew ?_))); (case side4 => exact (Kd.R_reads' HO226.out).2.1); rintro e w' ⟨rfl, ⟨nd, rfl⟩⟩) | (go_at_call 34; (with_reducible refine (dict_Plain.calls kj3 _ _ t219 t228 _ ?side1 ?side2 A15.out).mono ?_); (case side1 => repeat (first | exact (Kd.R_reads' HO222.out).2.2 | (with_reducible refine Kd.C_alloc ?_ _) | (with_reducible refine Kd.C_drewN ?_ _) | (with_reducible refine Kd.C_drew ?_))); (case side2 => exact (Kd.R_reads' HO222.out).2.1); rintro e w23 ⟨v229, rfl, ho0, hb⟩; have n0_ := Aside0.mk (Kd.R_below (by (with_reducible repeat (first | apply Kd.R_alloc | apply Kd.R_drewN | apply Kd.R_drew)); exact HO222.out) hb); have n1_ := Aside0.mk (Kd.R_below (by (with_reducible repeat (first | apply Kd.R_alloc | apply Kd.R_drewN | apply Kd.R_drew)); exact HO226.out) hb); have n2_ := Aside0.mk (Kd.R_lower ho0 (below_size (by repeat (first | (with_reducible first | exact HB.out | apply below_alloc | apply pw_below_drewN | apply below_drew1) | exact HB.out)))); have n3_ := Aside0.mk (below_step (by repeat (first | (with_reducible first | exact HB.out | apply below_alloc | apply pw_below_drewN | apply below_drew1) | exact HB.out)) hb); clear HO222; clear HO226; clear HB; have HO222 := n0_; have HO226 := n1_; have HO230 := n2_; have HB := n3_; clear n0_ n1_ n2_ n3_; (try clear hb); (try clear hb2); (try clear hk); (try clear hi); (try clear ho0); obtain ⟨Ao24, co24, eo24⟩ := Kd.R_slice HO230.out; subst eo24) | (go_at_call 13; (with_reducible refine (firkinref01_Same.calls _ _ t228 _ _ l0 true _ ?side1 ?side2 ?side3 ?side4 A16.out).mono ?_); (case side1 => repeat (first | exact (Kd.R_reads' HO230.out).2.2 | (with_reducible refine Kd.C_alloc ?_ _) | (with_reducible refine Kd.C_drewN ?_ _) | (with_reducible refine Kd.C_drew ?_))); (case side2 => exact (Kd.R_reads' HO230.out).2.1); (case side3 => repeat (first | exact (Kd.C_below HR0.out HB.out) | (with_reducible refine Kd.C_alloc ?_ _) | (with_reducible refine Kd.C_drewN ?_ _) | (with_reducible refine Kd.C_drew ?_))); (case side4 => exact HC0.out); rintro e w' ⟨rfl, ⟨nd, rfl⟩⟩) | (go_at_call 30; (with_reducible refine (firkinlaw08_live.calls kj3  t232 _ A18.out).mono ?_); rintro e w25 ⟨rfl, hb⟩; have n0_ := Aside0.mk (Kd.R_below (by (with_reducible repeat (first | apply Kd.R_alloc | apply Kd.R_drewN | apply Kd.R_drew)); exact HO222.out) hb); have n1_ := Aside0.mk (Kd.R_below (by (with_reducible repeat (first | apply Kd.R_alloc | apply Kd.R_drewN | apply Kd.R_drew)); exact HO226.out) hb); have n2_ := Aside0.mk (Kd.R_below (by (with_reducible repeat (first | apply Kd.R_alloc | apply Kd.R_drewN | apply Kd.R_drew)); exact HO230.out) hb); have n3_ := Aside0.mk (below_step (by repeat (first | (with_reducible first | exact HB.out | apply below_alloc | apply pw_below_drewN | apply below_drew1) | exact HB.out)) hb); clear HO222; clear HO226; clear HO230; clear HB; have HO222 := n0_; have HO226 := n1_; have HO230 := n2_; have HB := n3_; clear n0_ n1_ n2_ n3_; (try clear hb); (try clear hb2); (try clear hk); (try clear hi); (try clear A18)))
                go_ret
                exact ⟨by first | rfl | (simp [errW_none, errW_some] <;> rfl) | (simp [*, errW_none, errW_some] <;> rfl), by repeat (first | (with_reducible first | exact HB.out | apply below_alloc | apply pw_below_drewN | apply below_drew1) | exact HB.out)⟩
              · replace c17 := Bool.eq_false_iff.mpr c17
                subst c17
                have H1 : (some false) = some r := by rw [if_neg (show ¬ (false = true) by decide)] at H; exact H
                clear H
                have H := H1
                clear H1
                obtain rfl := Option.some.inj H
                go_wp2_with (first | ((with_reducible refine gate_callee (f := 31) rfl ?_); refine goesL_ (some 23) rfl rfl Try.func31 (by kernel_rfl) rfl #[.slice A0 l0.length c0, .int .i64 a1, .int .i64 a2] rfl (by (try simp only [List.map_toArray, List.map_cons, List.map_nil]); first | done | rfl | (simp only [List.length_drop, List.length_take]; rfl)) ?_; (with_reducible refine (dict_Texts.calls kj3 _ _ l0 a1 a2 t219 true _ ?side1 ?side2 A9.out).mono ?_); (case side1 => repeat (first | exact (Kd.C_below HR0.out HB.out) | (with_reducible refine Kd.C_alloc ?_ _) | (with_reducible refine Kd.C_drewN ?_ _) | (with_reducible refine Kd.C_drew ?_))); (case side2 => exact HC0.out); rintro e w26 ⟨v221, rfl, ho0, hb⟩; refine ⟨_, rfl, ?_⟩; have n0_ := Aside0.mk (Kd.R_lower ho0 (below_size (by repeat (first | (with_reducible first | exact HB.out | apply below_alloc | apply pw_below_drewN | apply below_drew1) | exact HB.out)))); have n1_ := Aside0.mk (below_step (by repeat (first | (with_reducible first | exact HB.out | apply below_alloc | apply pw_below_drewN | apply below_drew1) | exact HB.out)) hb); clear HB; have HO222 := n0_; have HB := n1_; clear n0_ n1_; (try clear hb); (try clear hb2); (try clear hk); (try clear hi); (try clear ho0)) | ((with_reducible refine gate_callee (f := 32) rfl ?_); refine goesL_ (some 30) rfl rfl Try.func32 (by kernel_rfl) rfl #[.slice A0 l0.length c0, .int .i64 a1, .int .i64 a2] rfl (by (try simp only [List.map_toArray, List.map_cons, List.map_nil]); first | done | rfl | (simp only [List.length_drop, List.length_take]; rfl)) ?_; (with_reducible refine (firkinref08_Texts.calls kj3 _ _ l0 a1 a2 t223 t224 _ ?side1 ?side2 A10.out).mono ?_); (case side1 => repeat (first | exact (Kd.C_below HR0.out HB.out) | (with_reducible refine Kd.C_alloc ?_ _) | (with_reducible refine Kd.C_drewN ?_ _) | (with_reducible refine Kd.C_drew ?_))); (case side2 => exact HC0.out); rintro e w27 ⟨v225, rfl, ho0, hb⟩; refine ⟨_, rfl, ?_⟩; have n0_ := Aside0.mk (Kd.R_elder' (by (with_reducible repeat (first | apply Kd.R_alloc | apply Kd.R_drewN | apply Kd.R_drew)); exact HO222.out) (Kd.R_base ho0) hb); have n1_ := Aside0.mk (Kd.R_lower (Kd.R_new' ho0 (Kd.R_lt (by (with_reducible repeat (first | apply Kd.R_alloc | apply Kd.R_drewN | apply Kd.R_drew)); exact HO222.out))) (below_size (by repeat (first | (with_reducible first | exact HB.out | apply below_alloc | apply pw_below_drewN | apply below_drew1) | exact HB.out)))); have n2_ := Aside0.mk (below_step (by repeat (first | (with_reducible first | exact HB.out | apply below_alloc | apply pw_below_drewN | apply below_drew1) | exact HB.out)) hb); clear HO222; clear HB; have HO222 := n0_; have HO226 := n1_; have HB := n2_; clear n0_ n1_ n2_; (try clear hb); (try clear hb2); (try clear hk); (try clear hi); (try clear ho0); obtain ⟨Ao28, co28, eo28⟩ := Kd.R_slice HO222.out; subst eo28; obtain ⟨Ao29, co29, eo29⟩ := Kd.R_slice HO226.out; subst eo29) | (go_at_call 33; (with_reducible refine (firkinref01_Names.calls kj3 _ _ t219 _ _ t223 true _ ?side1 ?side2 ?side3 ?side4 A12.out).mono ?_); (case side1 => repeat (first | exact (Kd.R_reads' HO222.out).2.2 | (with_reducible refine Kd.C_alloc ?_ _) | (with_reducible refine Kd.C_drewN ?_ _) | (with_reducible refine Kd.C_drew ?_))); (case side2 => exact (Kd.R_reads' HO222.out).2.1); (case side3 => repeat (first | exact (Kd.R_reads' HO226.out).2.2 | (with_reducible refine Kd.C_alloc ?_ _) | (with_reducible refine Kd.C_drewN ?_ _) | (with_reducible refine Kd.C_drew ?_))); (case side4 => exact (Kd.R_reads' HO226.out).2.1); rintro e w' ⟨rfl, ⟨nd, rfl⟩⟩) | (go_at_call 34; (with_reducible refine (dict_Plain.calls kj3 _ _ t219 t228 _ ?side1 ?side2 A15.out).mono ?_); (case side1 => repeat (first | exact (Kd.R_reads' HO222.out).2.2 | (with_reducible refine Kd.C_alloc ?_ _) | (with_reducible refine Kd.C_drewN ?_ _) | (with_reducible refine Kd.C_drew ?_))); (case side2 => exact (Kd.R_reads' HO222.out).2.1); rintro e w30 ⟨v229, rfl, ho0, hb⟩; have n0_ := Aside0.mk (Kd.R_below (by (with_reducible repeat (first | apply Kd.R_alloc | apply Kd.R_drewN | apply Kd.R_drew)); exact HO222.out) hb); have n1_ := Aside0.mk (Kd.R_below (by (with_reducible repeat (first | apply Kd.R_alloc | apply Kd.R_drewN | apply Kd.R_drew)); exact HO226.out) hb); have n2_ := Aside0.mk (Kd.R_lower ho0 (below_size (by repeat (first | (with_reducible first | exact HB.out | apply below_alloc | apply pw_below_drewN | apply below_drew1) | exact HB.out)))); have n3_ := Aside0.mk (below_step (by repeat (first | (with_reducible first | exact HB.out | apply below_alloc | apply pw_below_drewN | apply below_drew1) | exact HB.out)) hb); clear HO222; clear HO226; clear HB; have HO222 := n0_; have HO226 := n1_; have HO230 := n2_; have HB := n3_; clear n0_ n1_ n2_ n3_; (try clear hb); (try clear hb2); (try clear hk); (try clear hi); (try clear ho0); obtain ⟨Ao31, co31, eo31⟩ := Kd.R_slice HO230.out; subst eo31) | (go_at_call 13; (with_reducible refine (firkinref01_Same.calls _ _ t228 _ _ l0 false _ ?side1 ?side2 ?side3 ?side4 A16.out).mono ?_); (case side1 => repeat (first | exact (Kd.R_reads' HO230.out).2.2 | (with_reducible refine Kd.C_alloc ?_ _) | (with_reducible refine Kd.C_drewN ?_ _) | (with_reducible refine Kd.C_drew ?_))); (case side2 => exact (Kd.R_reads' HO230.out).2.1); (case side3 => repeat (first | exact (Kd.C_below HR0.out HB.out) | (with_reducible refine Kd.C_alloc ?_ _) | (with_reducible refine Kd.C_drewN ?_ _) | (with_reducible refine Kd.C_drew ?_))); (case side4 => exact HC0.out); rintro e w' ⟨rfl, ⟨nd, rfl⟩⟩))
                go_ret
                exact ⟨by first | rfl | (simp [errW_none, errW_some] <;> rfl) | (simp [*, errW_none, errW_some] <;> rfl), by repeat (first | (with_reducible first | exact HB.out | apply below_alloc | apply pw_below_drewN | apply below_drew1) | exact HB.out)⟩
            · replace c14 := Bool.eq_false_iff.mpr c14
              subst c14
              have H1 : ((firkinlaw08_live.f kj3).bind fun t233 => (some t233)) = some r := by rw [if_neg (show ¬ (false = true) by decide)] at H; exact H
              clear H
              have H := H1
              clear H1
              replace H := Option.bind_eq_some_iff.mp H
              obtain ⟨t233, A320, H⟩ := H
              replace H : (some t233) = some r := H
              have A32 := Aside0.mk A320
              clear A320
              obtain rfl := Option.some.inj H
              go_wp2_with (first | ((with_reducible refine gate_callee (f := 31) rfl ?_); refine goesL_ (some 23) rfl rfl Try.func31 (by kernel_rfl) rfl #[.slice A0 l0.length c0, .int .i64 a1, .int .i64 a2] rfl (by (try simp only [List.map_toArray, List.map_cons, List.map_nil]); first | done | rfl | (simp only [List.length_drop, List.length_take]; rfl)) ?_; (with_reducible refine (dict_Texts.calls kj3 _ _ l0 a1 a2 t219 false _ ?side1 ?side2 A9.out).mono ?_); (case side1 => repeat (first | exact (Kd.C_below HR0.out HB.out) | (with_reducible refine Kd.C_alloc ?_ _) | (with_reducible refine Kd.C_drewN ?_ _) | (with_reducible refine Kd.C_drew ?_))); (case side2 => exact HC0.out); rintro e w33 ⟨v221, rfl, ho0, hb⟩; refine ⟨_, rfl, ?_⟩; have n0_ := Aside0.mk (Kd.R_lower ho0 (below_size (by repeat (first | (with_reducible first | exact HB.out | apply below_alloc | apply pw_below_drewN | apply below_drew1) | exact HB.out)))); have n1_ := Aside0.mk (below_step (by repeat (first | (with_reducible first | exact HB.out | apply below_alloc | apply pw_below_drewN | apply below_drew1) | exact HB.out)) hb); clear HB; have HO222 := n0_; have HB := n1_; clear n0_ n1_; (try clear hb); (try clear hb2); (try clear hk); (try clear hi); (try clear ho0)) | ((with_reducible refine gate_callee (f := 32) rfl ?_); refine goesL_ (some 30) rfl rfl Try.func32 (by kernel_rfl) rfl #[.slice A0 l0.length c0, .int .i64 a1, .int .i64 a2] rfl (by (try simp only [List.map_toArray, List.map_cons, List.map_nil]); first | done | rfl | (simp only [List.length_drop, List.length_take]; rfl)) ?_; (with_reducible refine (firkinref08_Texts.calls kj3 _ _ l0 a1 a2 t223 t224 _ ?side1 ?side2 A10.out).mono ?_); (case side1 => repeat (first | exact (Kd.C_below HR0.out HB.out) | (with_reducible refine Kd.C_alloc ?_ _) | (with_reducible refine Kd.C_drewN ?_ _) | (with_reducible refine Kd.C_drew ?_))); (case side2 => exact HC0.out); rintro e w34 ⟨v225, rfl, ho0, hb⟩; refine ⟨_, rfl, ?_⟩; have n0_ := Aside0.mk (Kd.R_elder' (by (with_reducible repeat (first | apply Kd.R_alloc | apply Kd.R_drewN | apply Kd.R_drew)); exact HO222.out) (Kd.R_base ho0) hb); have n1_ := Aside0.mk (Kd.R_lower (Kd.R_new' ho0 (Kd.R_lt (by (with_reducible repeat (first | apply Kd.R_alloc | apply Kd.R_drewN | apply Kd.R_drew)); exact HO222.out))) (below_size (by repeat (first | (with_reducible first | exact HB.out | apply below_alloc | apply pw_below_drewN | apply below_drew1) | exact HB.out)))); have n2_ := Aside0.mk (below_step (by repeat (first | (with_reducible first | exact HB.out | apply below_alloc | apply pw_below_drewN | apply below_drew1) | exact HB.out)) hb); clear HO222; clear HB; have HO222 := n0_; have HO226 := n1_; have HB := n2_; clear n0_ n1_ n2_; (try clear hb); (try clear hb2); (try clear hk); (try clear hi); (try clear ho0); obtain ⟨Ao35, co35, eo35⟩ := Kd.R_slice HO222.out; subst eo35; obtain ⟨Ao36, co36, eo36⟩ := Kd.R_slice HO226.out; subst eo36) | (go_at_call 33; (with_reducible refine (firkinref01_Names.calls kj3 _ _ t219 _ _ t223 true _ ?side1 ?side2 ?side3 ?side4 A12.out).mono ?_); (case side1 => repeat (first | exact (Kd.R_reads' HO222.out).2.2 | (with_reducible refine Kd.C_alloc ?_ _) | (with_reducible refine Kd.C_drewN ?_ _) | (with_reducible refine Kd.C_drew ?_))); (case side2 => exact (Kd.R_reads' HO222.out).2.1); (case side3 => repeat (first | exact (Kd.R_reads' HO226.out).2.2 | (with_reducible refine Kd.C_alloc ?_ _) | (with_reducible refine Kd.C_drewN ?_ _) | (with_reducible refine Kd.C_drew ?_))); (case side4 => exact (Kd.R_reads' HO226.out).2.1); rintro e w' ⟨rfl, ⟨nd, rfl⟩⟩) | (go_at_call 30; (with_reducible refine (firkinlaw08_live.calls kj3  t233 _ A32.out).mono ?_); rintro e w37 ⟨rfl, hb⟩; have n0_ := Aside0.mk (Kd.R_below (by (with_reducible repeat (first | apply Kd.R_alloc | apply Kd.R_drewN | apply Kd.R_drew)); exact HO222.out) hb); have n1_ := Aside0.mk (Kd.R_below (by (with_reducible repeat (first | apply Kd.R_alloc | apply Kd.R_drewN | apply Kd.R_drew)); exact HO226.out) hb); have n2_ := Aside0.mk (below_step (by repeat (first | (with_reducible first | exact HB.out | apply below_alloc | apply pw_below_drewN | apply below_drew1) | exact HB.out)) hb); clear HO222; clear HO226; clear HB; have HO222 := n0_; have HO226 := n1_; have HB := n2_; clear n0_ n1_ n2_; (try clear hb); (try clear hb2); (try clear hk); (try clear hi); (try clear A32)))
              go_ret
              exact ⟨by first | rfl | (simp [errW_none, errW_some] <;> rfl) | (simp [*, errW_none, errW_some] <;> rfl), by repeat (first | (with_reducible first | exact HB.out | apply below_alloc | apply pw_below_drewN | apply below_drew1) | exact HB.out)⟩
          · replace c13 := Bool.eq_false_iff.mpr c13
            subst c13
            have H1 : (some false) = some r := by rw [if_neg (show ¬ (false = true) by decide)] at H; exact H
            clear H
            have H := H1
            clear H1
            obtain rfl := Option.some.inj H
            go_wp2_with (first | ((with_reducible refine gate_callee (f := 31) rfl ?_); refine goesL_ (some 23) rfl rfl Try.func31 (by kernel_rfl) rfl #[.slice A0 l0.length c0, .int .i64 a1, .int .i64 a2] rfl (by (try simp only [List.map_toArray, List.map_cons, List.map_nil]); first | done | rfl | (simp only [List.length_drop, List.length_take]; rfl)) ?_; (with_reducible refine (dict_Texts.calls kj3 _ _ l0 a1 a2 t219 t220 _ ?side1 ?side2 A9.out).mono ?_); (case side1 => repeat (first | exact (Kd.C_below HR0.out HB.out) | (with_reducible refine Kd.C_alloc ?_ _) | (with_reducible refine Kd.C_drewN ?_ _) | (with_reducible refine Kd.C_drew ?_))); (case side2 => exact HC0.out); rintro e w38 ⟨v221, rfl, ho0, hb⟩; refine ⟨_, rfl, ?_⟩; have n0_ := Aside0.mk (Kd.R_lower ho0 (below_size (by repeat (first | (with_reducible first | exact HB.out | apply below_alloc | apply pw_below_drewN | apply below_drew1) | exact HB.out)))); have n1_ := Aside0.mk (below_step (by repeat (first | (with_reducible first | exact HB.out | apply below_alloc | apply pw_below_drewN | apply below_drew1) | exact HB.out)) hb); clear HB; have HO222 := n0_; have HB := n1_; clear n0_ n1_; (try clear hb); (try clear hb2); (try clear hk); (try clear hi); (try clear ho0)) | ((with_reducible refine gate_callee (f := 32) rfl ?_); refine goesL_ (some 30) rfl rfl Try.func32 (by kernel_rfl) rfl #[.slice A0 l0.length c0, .int .i64 a1, .int .i64 a2] rfl (by (try simp only [List.map_toArray, List.map_cons, List.map_nil]); first | done | rfl | (simp only [List.length_drop, List.length_take]; rfl)) ?_; (with_reducible refine (firkinref08_Texts.calls kj3 _ _ l0 a1 a2 t223 t224 _ ?side1 ?side2 A10.out).mono ?_); (case side1 => repeat (first | exact (Kd.C_below HR0.out HB.out) | (with_reducible refine Kd.C_alloc ?_ _) | (with_reducible refine Kd.C_drewN ?_ _) | (with_reducible refine Kd.C_drew ?_))); (case side2 => exact HC0.out); rintro e w39 ⟨v225, rfl, ho0, hb⟩; refine ⟨_, rfl, ?_⟩; have n0_ := Aside0.mk (Kd.R_elder' (by (with_reducible repeat (first | apply Kd.R_alloc | apply Kd.R_drewN | apply Kd.R_drew)); exact HO222.out) (Kd.R_base ho0) hb); have n1_ := Aside0.mk (Kd.R_lower (Kd.R_new' ho0 (Kd.R_lt (by (with_reducible repeat (first | apply Kd.R_alloc | apply Kd.R_drewN | apply Kd.R_drew)); exact HO222.out))) (below_size (by repeat (first | (with_reducible first | exact HB.out | apply below_alloc | apply pw_below_drewN | apply below_drew1) | exact HB.out)))); have n2_ := Aside0.mk (below_step (by repeat (first | (with_reducible first | exact HB.out | apply below_alloc | apply pw_below_drewN | apply below_drew1) | exact HB.out)) hb); clear HO222; clear HB; have HO222 := n0_; have HO226 := n1_; have HB := n2_; clear n0_ n1_ n2_; (try clear hb); (try clear hb2); (try clear hk); (try clear hi); (try clear ho0); obtain ⟨Ao40, co40, eo40⟩ := Kd.R_slice HO222.out; subst eo40; obtain ⟨Ao41, co41, eo41⟩ := Kd.R_slice HO226.out; subst eo41) | (go_at_call 33; (with_reducible refine (firkinref01_Names.calls kj3 _ _ t219 _ _ t223 false _ ?side1 ?side2 ?side3 ?side4 A12.out).mono ?_); (case side1 => repeat (first | exact (Kd.R_reads' HO222.out).2.2 | (with_reducible refine Kd.C_alloc ?_ _) | (with_reducible refine Kd.C_drewN ?_ _) | (with_reducible refine Kd.C_drew ?_))); (case side2 => exact (Kd.R_reads' HO222.out).2.1); (case side3 => repeat (first | exact (Kd.R_reads' HO226.out).2.2 | (with_reducible refine Kd.C_alloc ?_ _) | (with_reducible refine Kd.C_drewN ?_ _) | (with_reducible refine Kd.C_drew ?_))); (case side4 => exact (Kd.R_reads' HO226.out).2.1); rintro e w' ⟨rfl, ⟨nd, rfl⟩⟩))
            go_ret
            exact ⟨by first | rfl | (simp [errW_none, errW_some] <;> rfl) | (simp [*, errW_none, errW_some] <;> rfl), by repeat (first | (with_reducible first | exact HB.out | apply below_alloc | apply pw_below_drewN | apply below_drew1) | exact HB.out)⟩
        · rw [if_neg c11] at H
          have c11b0 : (t220 == t224) = false := by simpa using c11
          (try (have c11b1 : decide (t220 = t224) = false := by simpa using c11))
          (try (have c11b2 : (t220 == t224) = false := by simpa using c11))
          (try (have c11b3 : ¬ (t220 = t224) := by simpa using c11))
          clear c11
          obtain rfl := Option.some.inj H
          go_wp2_with (first | ((with_reducible refine gate_callee (f := 31) rfl ?_); refine goesL_ (some 23) rfl rfl Try.func31 (by kernel_rfl) rfl #[.slice A0 l0.length c0, .int .i64 a1, .int .i64 a2] rfl (by (try simp only [List.map_toArray, List.map_cons, List.map_nil]); first | done | rfl | (simp only [List.length_drop, List.length_take]; rfl)) ?_; (with_reducible refine (dict_Texts.calls kj3 _ _ l0 a1 a2 t219 t220 _ ?side1 ?side2 A9.out).mono ?_); (case side1 => repeat (first | exact (Kd.C_below HR0.out HB.out) | (with_reducible refine Kd.C_alloc ?_ _) | (with_reducible refine Kd.C_drewN ?_ _) | (with_reducible refine Kd.C_drew ?_))); (case side2 => exact HC0.out); rintro e w42 ⟨v221, rfl, ho0, hb⟩; refine ⟨_, rfl, ?_⟩; have n0_ := Aside0.mk (Kd.R_lower ho0 (below_size (by repeat (first | (with_reducible first | exact HB.out | apply below_alloc | apply pw_below_drewN | apply below_drew1) | exact HB.out)))); have n1_ := Aside0.mk (below_step (by repeat (first | (with_reducible first | exact HB.out | apply below_alloc | apply pw_below_drewN | apply below_drew1) | exact HB.out)) hb); clear HB; have HO222 := n0_; have HB := n1_; clear n0_ n1_; (try clear hb); (try clear hb2); (try clear hk); (try clear hi); (try clear ho0)) | ((with_reducible refine gate_callee (f := 32) rfl ?_); refine goesL_ (some 30) rfl rfl Try.func32 (by kernel_rfl) rfl #[.slice A0 l0.length c0, .int .i64 a1, .int .i64 a2] rfl (by (try simp only [List.map_toArray, List.map_cons, List.map_nil]); first | done | rfl | (simp only [List.length_drop, List.length_take]; rfl)) ?_; (with_reducible refine (firkinref08_Texts.calls kj3 _ _ l0 a1 a2 t223 t224 _ ?side1 ?side2 A10.out).mono ?_); (case side1 => repeat (first | exact (Kd.C_below HR0.out HB.out) | (with_reducible refine Kd.C_alloc ?_ _) | (with_reducible refine Kd.C_drewN ?_ _) | (with_reducible refine Kd.C_drew ?_))); (case side2 => exact HC0.out); rintro e w43 ⟨v225, rfl, ho0, hb⟩; refine ⟨_, rfl, ?_⟩; have n0_ := Aside0.mk (Kd.R_elder' (by (with_reducible repeat (first | apply Kd.R_alloc | apply Kd.R_drewN | apply Kd.R_drew)); exact HO222.out) (Kd.R_base ho0) hb); have n1_ := Aside0.mk (Kd.R_lower (Kd.R_new' ho0 (Kd.R_lt (by (with_reducible repeat (first | apply Kd.R_alloc | apply Kd.R_drewN | apply Kd.R_drew)); exact HO222.out))) (below_size (by repeat (first | (with_reducible first | exact HB.out | apply below_alloc | apply pw_below_drewN | apply below_drew1) | exact HB.out)))); have n2_ := Aside0.mk (below_step (by repeat (first | (with_reducible first | exact HB.out | apply below_alloc | apply pw_below_drewN | apply below_drew1) | exact HB.out)) hb); clear HO222; clear HB; have HO222 := n0_; have HO226 := n1_; have HB := n2_; clear n0_ n1_ n2_; (try clear hb); (try clear hb2); (try clear hk); (try clear hi); (try clear ho0)))
          go_ret
          exact ⟨by first | rfl | (simp [errW_none, errW_some] <;> rfl) | (simp [*, errW_none, errW_some] <;> rfl), by repeat (first | (with_reducible first | exact HB.out | apply below_alloc | apply pw_below_drewN | apply below_drew1) | exact HB.out)⟩

/-! ### vint_Source_Int: function 77 -/
def vint_Source_Int.f (s0_0 : List Int) (s0_1 : Bool) : Option (Int × List Int × Bool) := (vint_Source_Num.f s0_0 s0_1).bind fun bt234 => (some (Go.bits .xor .i64 (wrap64 (bt234.1 / 2)) (wrap64 (-(wrap64 (Go.bits .and .u64 bt234.1 1)))), bt234.2.1, bt234.2.2))
set_option maxHeartbeats 8000000 in
set_option maxRecDepth 100000 in
theorem vint_Source_Int.calls (g : Nat) (s0_0 : List Int) (s0_1 : Bool) (r1 : Int) (r2 : List Int) (r3 : Bool) (w0 w : World) (hI : IsS75 w0 w g s0_0 s0_1) (hB : Below w0.heap.size w0 w) (h : vint_Source_Int.f s0_0 s0_1 = some (r1, r2, r3)) :
    Calls Try.prog 77 #[.pointer (some ⟨g, 0, none⟩)] w fun e w' => e = .returned (.int .i64 r1) ∧ IsS75 w0 w' g r2 r3 ∧ Below w0.heap.size w0 w' ∧ KeepBut w w' g none := by
  have HI0 := Aside0.mk hI
  have HK := Aside0.mk (KeepBut.refl w g none)
  have HL := Aside0.mk hB.size
  clear hI
  have HW0 := Aside0.mk hB.size
  have HB := Aside0.mk hB
  clear hB
  have H : ((vint_Source_Num.f s0_0 s0_1).bind fun bt234 => (some (Go.bits .xor .i64 (wrap64 (bt234.1 / 2)) (wrap64 (-(wrap64 (Go.bits .and .u64 bt234.1 1)))), bt234.2.1, bt234.2.2))) = some (r1, r2, r3) := h
  clear h
  replace H := Option.bind_eq_some_iff.mp H
  obtain ⟨⟨t234, t235, t236⟩, A20, H⟩ := H
  replace H : (some (Go.bits .xor .i64 (wrap64 (t234 / 2)) (wrap64 (-(wrap64 (Go.bits .and .u64 t234 1)))), t235, t236)) = some (r1, r2, r3) := H
  have A2 := Aside0.mk A20
  clear A20
  simp only [Option.some.injEq, Prod.mk.injEq] at H
  obtain ⟨rfl, rfl, rfl⟩ := H
  go_enter Try.func77, Try.ntmps77
  go_wp2_with (first | ((with_reducible refine gate_callee (f := 83) rfl ?_); refine goesL_ (some 5) rfl rfl Try.func83 (by kernel_rfl) rfl #[.pointer (some ⟨g, 0, none⟩)] rfl (by (try simp only [List.map_toArray, List.map_cons, List.map_nil]); first | done | rfl | (simp only [List.length_drop, List.length_take]; rfl)) ?_; (with_reducible refine (vint_Source_Num.calls g s0_0 s0_1 t234 t235 t236 w0 _ ?side1 ?side2 A2.out).mono ?_); (case side1 => repeat (first | (with_reducible first | exact HI0.out | apply IsS75.alloc | apply IsS75.drewN | apply IsS75.drew | apply IsS75.set_0 | apply IsS75.set_1) | exact HI0.out)); (case side2 => repeat (first | (with_reducible first | exact HB.out | apply below_alloc | apply pw_below_drewN | apply below_drew1 | refine below_set ?_ (IsS75.ge HI0.out)) | exact HB.out)); rintro e w3 ⟨rfl, hi, hb, hk⟩; refine ⟨_, rfl, ?_⟩; have n0_ := Aside0.mk (KeepBut.trans (by repeat (first | (with_reducible first | exact HK.out | apply KeepBut.set_ | apply keep_drewN | apply keep_drew | apply keep_alloc) | exact HK.out)) hk (.inl rfl)); have n1_ := Aside0.mk (hb); have n2_ := Aside0.mk (hi); clear HK; clear HB; clear HI0; have HK := n0_; have HB := n1_; have HI0 := n2_; clear n0_ n1_ n2_; (try clear hb); (try clear hb2); (try clear hk); (try clear hi)))
  go_ret
  exact ⟨by first | rfl | (simp [errW_none, errW_some] <;> rfl) | (simp [*, errW_none, errW_some] <;> rfl), by repeat (first | (with_reducible first | exact HI0.out | apply IsS75.alloc | apply IsS75.drewN | apply IsS75.drew | apply IsS75.set_0 | apply IsS75.set_1) | exact HI0.out), by repeat (first | (with_reducible first | exact HB.out | apply below_alloc | apply pw_below_drewN | apply below_drew1 | refine below_set ?_ (IsS75.ge HI0.out)) | exact HB.out), by repeat (first | (with_reducible first | exact HK.out | apply KeepBut.set_ | apply keep_drewN | apply keep_drew | apply keep_alloc) | exact HK.out)⟩

end Go.Proofs.Ytbbffnlefmogbaa.X
-- Printed for this claim by a program of this session (wip/xprint.py) over the kit's printer; Lean checks it.
namespace Go.Proofs.Ytbbffnlefmogbaa.X
open Go.RowKit Go.Proofs.YtbbffnlefmogbaaW.PrintWords Go.Proofs.YtbbffnlefmogbaaW.PrintLast Go.Proofs.YtbbffnlefmogbaaW.PrintMore
attribute [local go_sem] max2_int min2_int max_two min_two max_three min_three max_four min_four   -- for this text's walks alone
set_option linter.unusedVariables false
set_option linter.unusedSimpArgs false

-- NOT PRINTED: function 48 (tight_packed_next)

/-! ### bytes_Equal: function 49 -/
def bytes_Equal.f (l0 : List Int) (l1 : List Int) : Option (Bool) := some ((strOfNums l0).toList == (strOfNums l1).toList)
set_option maxHeartbeats 8000000 in
set_option maxRecDepth 100000 in
theorem bytes_Equal.calls (A0 : Option Addr) (c0 : Nat) (l0 : List Int) (A1 : Option Addr) (c1 : Nat) (l1 : List Int) (r : Bool) (w : World) (hr0 : Kd.C (Kd.int .u8) w A0 l0.length l0) (hc0 : l0.length ≤ c0) (hr1 : Kd.C (Kd.int .u8) w A1 l1.length l1) (hc1 : l1.length ≤ c1) (h : bytes_Equal.f l0 l1 = some r) :
    Calls Try.prog 49 #[.slice A0 l0.length c0, .slice A1 l1.length c1] w fun e w' => e = .returned (.bool r) ∧ Drawn0 w w' := by
  have HR0 := Aside0.mk hr0
  have HC0 := Aside0.mk hc0
  clear hr0 hc0
  have HR1 := Aside0.mk hr1
  have HC1 := Aside0.mk hc1
  clear hr1 hc1
  have H : (some ((strOfNums l0).toList == (strOfNums l1).toList)) = some r := h
  clear h
  obtain rfl := Option.some.inj H
  have hcv3 := Kd.C_string (P := Try.prog) (A := A0) (c := c0) Try.underlying24 Try.underlying5 Try.underlying9 HR0.out
  have hcv4 := Kd.C_string (P := Try.prog) (A := A1) (c := c1) Try.underlying24 Try.underlying5 Try.underlying9 HR1.out
  go_enter Try.func49, Try.ntmps49
  go_wp2
  go_ret
  exact ⟨by first | rfl | (simp; done) | (simp [*]; done), by repeat (first | exact Drawn0.refl _ | apply Drawn0.step)⟩

end Go.Proofs.Ytbbffnlefmogbaa.X
/- The contract of (*tight.row).read, and of (*tight.packed).next: the next bits, as a number. -/
namespace Go.Proofs.Ytbbffnlefmogbaa.X
open Go.RowKit Go.Proofs.YtbbffnlefmogbaaW.PrintWords Go.Proofs.YtbbffnlefmogbaaW.PrintLast Go.Proofs.YtbbffnlefmogbaaW.PrintMore
set_option linter.unusedVariables false
set_option linter.unusedSimpArgs false
/-- The bit at a place. -/
def bitOf (b : List Int) (i : Nat) : Int := Go.bits .and .u8 (rd b ((i / 8 : Nat) : Int) / 2 ^ (i % 8)) 1
def readGo (b : List Int) : Nat → Nat → Int → Nat → Int
  | 0, _, u, _ => u
  | d + 1, k, u, at_ => readGo b d (k + 1) (Go.bits .or .u64 u (IntKind.u64.wrap (IntKind.u64.wrap (bitOf b at_) * 2 ^ min k 64))) (at_ + 1)
def tight_row_read.f (b : List Int) (at_ : Nat) (n : Nat) : Option Int :=
  if at_ + n ≤ 8 * b.length ∧ at_ < 1000000000 ∧ n ≤ 64 then some (readGo b n 0 0 at_) else none
set_option maxHeartbeats 8000000 in
set_option maxRecDepth 100000 in
theorem tight_row_read.calls (g : Nat) (A : Option Addr) (c : Nat) (b : List Int) (at_ : Nat) (low wide : Int) (n : Nat) (r : Int) (w0 w : World) (hb : w.heap[g]? = some (.cells #[.slice A b.length c, .int .i64 (at_ : Int), .int .i64 low, .int .i64 wide] 60 (0, 0))) (hg : w0.heap.size ≤ g) (hC : Kd.C (Kd.int .u8) w A b.length b) (hne : ∀ ad, A = some ad → 0 < b.length → ad.block ≠ g) (hB : Below w0.heap.size w0 w) (h : tight_row_read.f b at_ n = some r) :
    Calls Try.prog 78 #[.pointer (some ⟨g, 0, none⟩), .int .i64 (n : Int)] w fun e w' => e = .returned (.int .u64 r) ∧ w'.heap[g]? = some (.cells #[.slice A b.length c, .int .i64 ((at_ + n : Nat) : Int), .int .i64 low, .int .i64 wide] 60 (0, 0)) ∧ KeepBut w w' g none ∧ Below w0.heap.size w0 w' := by
  unfold tight_row_read.f at h
  by_cases hf : at_ + n ≤ 8 * b.length ∧ at_ < 1000000000 ∧ n ≤ 64
  case neg => rw [if_neg hf] at h; cases h
  rw [if_pos hf] at h
  obtain rfl := Option.some.inj h
  clear h
  have HF := Aside0.mk hf
  have HBK := Aside0.mk hb
  have HC := Aside0.mk hC
  have HB := Aside0.mk hB
  have HNE := Aside0.mk hne
  have HK := Aside0.mk (KeepBut.of_below (Below.refl w.heap.size w) g none)
  have hu := Try.underlying58
  clear hf hb hC hB hne
  go_enter Try.func78, Try.ntmps78
  go_wp2_with fail
  go_loopg [5, 8] (n + 1) (fun kq v5 v8 w' => ∃ (j : Nat) (u : Int), v5 = .int .u64 u ∧ v8 = .int .i64 (j : Int) ∧ Aside0 (kq + j = n + 1) ∧ Aside0 (j ≤ n) ∧ Aside0 (readGo b (n - j) j u (at_ + j) = readGo b n 0 0 at_) ∧ Aside0 (w'.heap[g]? = some (.cells #[.slice A b.length c, .int .i64 ((at_ + j : Nat) : Int), .int .i64 low, .int .i64 wide] 60 (0, 0))) ∧ Aside0 (KeepBut w w' g none) ∧ Aside0 (Below w0.heap.size w0 w'))
  case atStart => exact ⟨0, 0, rfl, rfl, ⟨by omega⟩, ⟨by omega⟩, ⟨rfl⟩, HBK, HK, HB⟩
  case round =>
    clear HBK HB HK
    obtain ⟨j, u, rfl, rfl, HKQ, HJ, HG, HBK, HK, HB⟩ := hrel
    cases gk with
    | zero => have h1 := HKQ.out; have h2 := HJ.out; omega
    | succ k2 =>
    by_cases hj : j < n
    · have c1 : decide ((j : Int) < (n : Int)) = true := decide_eq_true (by omega)
      have c1b : decide (j < n) = true := decide_eq_true hj
      obtain ⟨a, ha⟩ : ∃ a, at_ + j = a := ⟨_, rfl⟩
      rw [ha] at HG HBK
      have HA := Aside0.mk ha
      have HAL : Aside0 (a < 8 * b.length ∧ a < 1000000064) := ⟨by have h1 := HF.out; omega⟩
      have HJN := Aside0.mk hj
      have hal := HAL.out
      obtain ⟨q, hq⟩ : ∃ q, a / 8 = q := ⟨_, rfl⟩
      have HQ := Aside0.mk hq
      have hq1 : (0 : Int) ≤ (q : Int) := Int.natCast_nonneg _
      have hq2 : (q : Int) < (b.length : Int) := by omega
      have hq3 : q < b.length := by omega
      have C1 := Kd.C_keep (0 : Int) HC.out HK.out HNE.out
      obtain ⟨ad, ea, hy0⟩ := Kd.at_int C1 (q : Int) hq1 hq2
      subst ea
      rw [Int.toNat_natCast] at hy0
      obtain ⟨y, hy⟩ : ∃ y, rd b (q : Int) = y := ⟨_, rfl⟩
      rw [hy] at hy0
      have h0 : wr.cell? ⟨g, 0, none⟩ = some (.slice (some ad) b.length c) := (blk_cell HBK.out 0).trans rfl
      have h1 : wr.cell? ⟨g, 1, none⟩ = some (.int .i64 (a : Int)) := (blk_cell HBK.out 1).trans rfl
      have f1 := blk_frozen HBK.out 1
      have HY := Aside0.mk hy
      have hwq : IntKind.i64.wrap ((a : Int) / 8) = (q : Int) := by rw [IntKind.wrap_i64]; omega
      have hwq2 : wrap64 ((a : Int) / 8) = (q : Int) := by unfold wrap64; omega
      clear ha hj C1 hy hal hq
      go_wp2_with fail
      go_region
      go_wp2_with fail
      have hw1 : wrap64 ((a : Int) + 1) = ((a + 1 : Nat) : Int) := by have h2 := HAL.out; unfold wrap64; omega
      have hw2 : wrap64 ((j : Int) + 1) = ((j + 1 : Nat) : Int) := by have h2 := HF.out; have h3 := HJN.out; unfold wrap64; omega
      rw [hw1, hw2]
      obtain ⟨u2, hu2⟩ : ∃ u2, Go.bits .or .u64 u (IntKind.u64.wrap (IntKind.u64.wrap (Go.bits .and .u8 (y / 2 ^ (a % 8)) 1) * 2 ^ min j 64)) = u2 := ⟨_, rfl⟩
      rw [hu2]
      have HBK2 : Aside0 ((wr.setCell ⟨g, 1, none⟩ (.int .i64 ((a + 1 : Nat) : Int))).drew.heap[g]? = some (.cells #[.slice (some ad) b.length c, .int .i64 ((a + 1 : Nat) : Int), .int .i64 low, .int .i64 wide] 60 (0, 0))) := ⟨blk_drew (by simpa using blk_set HBK.out 1 (.int .i64 ((a + 1 : Nat) : Int)))⟩
      have HK2 : Aside0 (KeepBut w (wr.setCell ⟨g, 1, none⟩ (.int .i64 ((a + 1 : Nat) : Int))).drew g none) := ⟨(KeepBut.set_ HK.out 1 _).trans (KeepBut.of_below (below_drew (Below.refl _ _)) g none) (.inl rfl)⟩
      have HB2 := Aside0.mk (below_drew (below_set HB.out (g := g) (j := 1) (v := .int .i64 ((a + 1 : Nat) : Int)) hg))
      have HGO : Aside0 (readGo b (n - (j + 1)) (j + 1) u2 (at_ + (j + 1)) = readGo b n 0 0 at_) := ⟨by
        have h2 := HG.out
        have h3 : n - j = (n - (j + 1)) + 1 := by have := HJN.out; omega
        rw [h3, readGo] at h2
        unfold bitOf at h2
        rw [HQ.out, HY.out, hu2] at h2
        rw [show at_ + (j + 1) = a + 1 by have := HA.out; omega]
        exact h2⟩
      clear hw1 hw2 hu2 hy0 h0 h1 f1 hwq hwq2 HBK HK HB
      go_roundg k2
      case measure => omega
      case rel => exact ⟨j + 1, u2, rfl, rfl, ⟨by have := HKQ.out; omega⟩, ⟨by have := HJN.out; omega⟩, HGO, ⟨by have h2 := HBK2.out; rw [show at_ + (j + 1) = a + 1 by have := HA.out; omega]; exact h2⟩, HK2, HB2⟩
    · have hje : j = n := by have := HJ.out; omega
      have c1 : decide ((j : Int) < (n : Int)) = false := decide_eq_false (by omega)
      have c1b : decide (j < n) = false := decide_eq_false hj
      have hu1 : u = readGo b n 0 0 at_ := by
        have h1 := HG.out
        rw [hje, Nat.sub_self, readGo] at h1
        exact h1
      have HBK2 := HBK.out
      rw [hje] at HBK2
      have HBK3 := Aside0.mk HBK2
      subst hu1
      clear hj hje HBK2
      go_wp2_with fail
      go_ret
      exact ⟨rfl, HBK3.out, HK.out, HB.out⟩
/-- A number of a packed row. -/
def nextOf (low u : Int) : Int := IntKind.i64.wrap (IntKind.u64.wrap (IntKind.u64.wrap low + u))
set_option maxHeartbeats 8000000 in
set_option maxRecDepth 100000 in
theorem tight_packed_next.calls (g : Nat) (A : Option Addr) (c : Nat) (b : List Int) (at_ : Nat) (low : Int) (n : Nat) (r : Int) (w0 w : World) (hb : w.heap[g]? = some (.cells #[.slice A b.length c, .int .i64 (at_ : Int), .int .i64 low, .int .i64 (n : Int)] 60 (0, 0))) (hg : w0.heap.size ≤ g) (hC : Kd.C (Kd.int .u8) w A b.length b) (hne : ∀ ad, A = some ad → 0 < b.length → ad.block ≠ g) (hB : Below w0.heap.size w0 w) (h : tight_row_read.f b at_ n = some r) :
    Calls Try.prog 48 #[.pointer (some ⟨g, 0, none⟩)] w fun e w' => e = .returned (.int .i64 (nextOf low r)) ∧ w'.heap[g]? = some (.cells #[.slice A b.length c, .int .i64 ((at_ + n : Nat) : Int), .int .i64 low, .int .i64 (n : Int)] 60 (0, 0)) ∧ KeepBut w w' g none ∧ Below w0.heap.size w0 w' := by
  have HBK := Aside0.mk hb
  have HC := Aside0.mk hC
  have HB := Aside0.mk hB
  have HNE := Aside0.mk hne
  have HH := Aside0.mk h
  have h2 : w.cell? ⟨g, 2, none⟩ = some (.int .i64 low) := (blk_cell hb 2).trans rfl
  have h3 : w.cell? ⟨g, 3, none⟩ = some (.int .i64 (n : Int)) := (blk_cell hb 3).trans rfl
  have hu := Try.underlying60
  clear hb hC hB hne h
  go_enter Try.func48, Try.ntmps48
  go_wp2_with fail
  go_region_held3 (fun w' => w'.cell? ⟨g, 2, none⟩ = some (.int .i64 low) ∧ w'.cell? ⟨g, 3, none⟩ = some (.int .i64 (n : Int))) (first | exact ⟨(blk_cell HB3.out.1 2).trans rfl, (blk_cell HB3.out.1 3).trans rfl⟩ | exact ⟨(blk_cell (blk_drew HBK.out) 2).trans rfl, (blk_cell (blk_drew HBK.out) 3).trans rfl⟩ | go_keep)
    (first | (go_at_call 78; refine (tight_row_read.calls g A c b at_ low (n : Int) n r w0 w.drew (blk_drew HBK.out) hg (Kd.C_drew HC.out) HNE.out (below_drew HB.out) HH.out).mono ?_; rintro e w3 ⟨rfl, hb3, hk3, hB3⟩; have HB3 := Aside0.mk (And.intro hb3 (And.intro ((KeepBut.of_below (below_drew (Below.refl _ _)) g none).trans hk3 (.inl rfl)) hB3)); clear hb3 hk3 hB3) | fail)
  all_goals go_wp2_with fail
  all_goals (go_ret; exact ⟨rfl, HB3.out⟩)
end Go.Proofs.Ytbbffnlefmogbaa.X
/- What a source tells without being read from: the world stays as it is. -/
namespace Go.Proofs.Ytbbffnlefmogbaa.X
open Go.RowKit Go.Proofs.YtbbffnlefmogbaaW.PrintWords Go.Proofs.YtbbffnlefmogbaaW.PrintLast Go.Proofs.YtbbffnlefmogbaaW.PrintMore
set_option linter.unusedVariables false
set_option linter.unusedSimpArgs false
set_option maxHeartbeats 4000000 in
set_option maxRecDepth 100000 in
theorem vint_Source_Ok.same (g : Nat) (l : List Int) (bad : Bool) (w0 w : World) (hI : IsS75 w0 w g l bad) : Calls Try.prog 23 #[.pointer (some ⟨g, 0, none⟩)] w fun e w' => e = .returned (.bool !bad) ∧ w' = w := by
  have HI := Aside0.mk hI
  obtain ⟨A1, c1, hb1, hg1, hr1, hc1⟩ := hI
  have h0 : w.cell? ⟨g, 0, none⟩ = some (.slice A1 l.length c1) := (blk_cell hb1 0).trans rfl
  have h1 : w.cell? ⟨g, 1, none⟩ = some (.bool bad) := (blk_cell hb1 1).trans rfl
  have hu := Try.underlying75
  have hne : ∀ w : World, (binOp .neq 35 (.pointer (some ⟨g, 0, none⟩)) (.pointer none)).run Try.prog w = .ok (.bool true) w := fun w => run_neq_pointer_nil w 35 (some ⟨g, 0, none⟩) (by kernel_rfl)
  clear hb1
  cases bad <;>
    (go_enter Try.func23, Try.ntmps23
     go_wp2_with fail
     go_ret
     exact ⟨rfl, rfl⟩)
set_option maxHeartbeats 4000000 in
set_option maxRecDepth 100000 in
theorem vint_Source_Left.same (g : Nat) (l : List Int) (bad : Bool) (w0 w : World) (hI : IsS75 w0 w g l bad) : Calls Try.prog 24 #[.pointer (some ⟨g, 0, none⟩)] w fun e w' => e = .returned (.int .i64 (if bad = true then 0 else (l.length : Int))) ∧ w' = w := by
  have HI := Aside0.mk hI
  obtain ⟨A1, c1, hb1, hg1, hr1, hc1⟩ := hI
  have h0 : w.cell? ⟨g, 0, none⟩ = some (.slice A1 l.length c1) := (blk_cell hb1 0).trans rfl
  have h1 : w.cell? ⟨g, 1, none⟩ = some (.bool bad) := (blk_cell hb1 1).trans rfl
  have hu := Try.underlying75
  clear hb1
  cases bad <;>
    (go_enter Try.func24, Try.ntmps24
     go_wp2_with (refine (vint_Source_Ok.same g l _ w0 _ HI.out).mono ?_; rintro e w1 ⟨rfl, rfl⟩)
     go_ret
     exact ⟨rfl, rfl⟩)
theorem vint_Source_Left.same2 (g : Nat) (l : List Int) (bad : Bool) (w0 w : World) (hI : IsS75 w0 w g l bad) (hg : bad = true → l = []) : Calls Try.prog 24 #[.pointer (some ⟨g, 0, none⟩)] w fun e w' => e = .returned (.int .i64 (l.length : Int)) ∧ w' = w := by
  have h := vint_Source_Left.same g l bad w0 w hI
  have e : (if bad = true then (0 : Int) else (l.length : Int)) = (l.length : Int) := by
    cases bad
    · rfl
    · rw [hg rfl]; rfl
  rwa [e] at h
end Go.Proofs.Ytbbffnlefmogbaa.X
/- The contract of tight.open: a row of bytes as a packed row of so many numbers; or it is none. -/
namespace Go.Proofs.Ytbbffnlefmogbaa.X
open Go.RowKit Go.Proofs.YtbbffnlefmogbaaW.PrintWords Go.Proofs.YtbbffnlefmogbaaW.PrintLast Go.Proofs.YtbbffnlefmogbaaW.PrintMore
set_option linter.unusedVariables false
set_option linter.unusedSimpArgs false
/-- May so many bytes be so many numbers, so wide? -/
def fits (n y m : Nat) : Bool := if y = 0 then m == 0 else decide (n ≤ 8 * m / y) && decide (8 * m / y - n < 8) && ((n * y + 7) / 8 == m)
/-- What is opened: the least number, how wide, the bytes, whether they are so many numbers. -/
def tight_open.f (l : List Int) (n : Nat) : Option (Option (Int × Int × List Int × Bool)) :=
  if l.length < 1000000000 ∧ 1 ≤ n ∧ n ≤ 4096 then (vint_Source_Int.f l false).bind fun a => (vint_Source_Take.f a.2.1 a.2.2 1).bind fun t =>
    if t.2.2 = true then some none else if rd t.1 0 > 64 then some none else if 0 ≤ rd t.1 0 then (vint_Source_Left.f t.2.1 false).bind fun q => (vint_Source_Take.f q.2.1 q.2.2 q.1).bind fun u => if u.1.length < 1000000000 then some (some (a.1, rd t.1 0, u.1, fits n (rd t.1 0).toNat u.1.length)) else none else none
  else none
/-- What stands behind the call. -/
def Opened (w : World) (r : Option (Int × Int × List Int × Bool)) (e : Ending) (w' : World) : Prop :=
  Below w.heap.size w w' ∧ match r with
      | none => e = .returned (.tuple #[.pointer none, .bool false])
      | some (lo, y, b, t) => ∃ g A c, e = .returned (.tuple #[.pointer (some ⟨g, 0, none⟩), .bool t]) ∧ w'.heap[g]? = some (.cells #[.slice A b.length c, .int .i64 0, .int .i64 lo, .int .i64 y] 60 (0, 0)) ∧ w.heap.size ≤ g ∧ b.length ≤ c ∧ Kd.C (Kd.int .u8) w' A b.length b ∧ (∀ ad, A = some ad → 0 < b.length → ad.block ≠ g)
set_option maxHeartbeats 8000000 in
set_option maxRecDepth 1000000 in
theorem tight_open.calls (A0 : Option Addr) (c0 : Nat) (l0 : List Int) (n : Nat) (r : Option (Int × Int × List Int × Bool)) (w : World) (hr0 : Kd.C (Kd.int .u8) w A0 l0.length l0) (hc0 : l0.length ≤ c0) (h : tight_open.f l0 n = some r) :
    Calls Try.prog 47 #[.slice A0 l0.length c0, .int .i64 (n : Int)] w (Opened w r) := by
  unfold tight_open.f at h
  by_cases hf : l0.length < 1000000000 ∧ 1 ≤ n ∧ n ≤ 4096
  case neg => rw [if_neg hf] at h; cases h
  rw [if_pos hf] at h
  obtain ⟨⟨lo, l1, b1⟩, e1, h⟩ := Option.bind_eq_some_iff.mp h
  obtain ⟨⟨t1, l2, b2⟩, e2, h⟩ := Option.bind_eq_some_iff.mp h
  simp only at h e1 e2
  have E1 := Aside0.mk e1
  have E2 := Aside0.mk e2
  have HH := Aside0.mk h
  have HF := Aside0.mk hf
  have HR0 := Aside0.mk hr0
  clear e1 e2 h hf hr0
  have hu := Try.underlying60
  have hu2 := Try.underlying58
  go_enter Try.func47, Try.ntmps47
  go_wp2_with fail
  refine (vint_From.calls2 A0 c0 l0 w w (Below.refl _ _) HR0.out hc0).mono ?_
  rintro e w2 ⟨g, rfl, s2, B2, _, hg2⟩
  go_wp2_with fail
  refine (vint_Source_Int.calls g l0 false lo l1 b1 w _ s2 B2 E1.out).mono ?_
  rintro e w3 ⟨rfl, s3, B3, K3⟩
  clear s2 B2 K3
  go_wp2_with fail
  refine (vint_Source_Take.calls g l1 b1 1 t1 l2 b2 w _ s3 B3 E2.out).mono ?_
  rintro e w4 ⟨v4, rfl, R4, s4, B4, K4⟩
  have HB4 := Aside0.mk B4
  have HS4 := Aside0.mk s4
  have HR4 := Aside0.mk (Kd.R_bound R4)
  have HG2 := Aside0.mk (IsS75.lt s3)
  clear s3 B3 K4 R4 B4 s4
  obtain ⟨A4, c4, e4⟩ := Kd.R_slice HR4.out
  subst e4
  go_wp2_with fail
  refine (vint_Source_Ok.same g l2 b2 w _ HS4.out).mono ?_
  rintro e w5 ⟨rfl, rfl⟩
  cases b2 with
  | true =>
    have h := HH.out
    rw [if_pos rfl] at h
    obtain rfl := Option.some.inj h
    clear h
    go_wp2_with fail
    go_ret2
    exact ⟨HB4.out, rfl⟩
  | false =>
    have h := HH.out
    rw [if_neg (show ¬ (false = true) by decide)] at h
    have HL1 : Aside0 (t1.length = 1) := ⟨by
      have h9 := E2.out
      unfold vint_Source_Take.f at h9
      split at h9
      · have h8 := Option.some.inj h9
        unfold takeS at h8
        split at h8
        · simp at h8
        · rename_i h7
          simp only [Prod.mk.injEq] at h8
          rw [← h8.1, List.length_take]
          have h6 : ¬ ((l1.length : Int) < 1) := fun h5 => h7 (Or.inr (Or.inr h5))
          show min (1 : Int).toNat l1.length = 1
          rw [show (1 : Int).toNat = 1 from rfl]
          omega
      · cases h9⟩
    have hl1 := HL1.out
    have hp0 : (0 : Int) < (t1.length : Int) := by omega
    obtain ⟨gb, cp, ev, hgb1, hgb2, cells, hcl⟩ := Kd.R_form HR4.out (by omega)
    injection ev with ev1 _ ev3
    subst ev1 ev3
    obtain ⟨ad, ea, hy0⟩ := Kd.at_int (Kd.R_reads' HR4.out).2.2 (0 : Int) (by omega) hp0
    injection ea with ea
    subst ea
    have eadd : (⟨gb, 0, none⟩ : Addr).add (0 : Int).toNat = ⟨gb, 0, none⟩ := by unfold Addr.add; split <;> simp_all
    rw [eadd] at hy0
    clear hcl hgb1 hgb2 eadd
    obtain ⟨y, hy⟩ : ∃ y, rd t1 0 = y := ⟨_, rfl⟩
    rw [hy] at hy0 h
    have hp1 : 0 < t1.length := by omega
    by_cases h64 : y > 64
    · rw [if_pos h64] at h
      obtain rfl := Option.some.inj h
      have d1 : decide (y > 64) = true := decide_eq_true h64
      have d1b : decide (64 < y) = true := decide_eq_true h64
      clear h hl1 h64
      go_wp2_with fail
      go_ret2
      exact ⟨HB4.out, rfl⟩
    rw [if_neg h64] at h
    by_cases hy1 : 0 ≤ y
    case neg => rw [if_neg hy1] at h; cases h
    rw [if_pos hy1] at h
    obtain ⟨⟨q, l3, b3⟩, e3, h⟩ := Option.bind_eq_some_iff.mp h
    obtain ⟨⟨u, l4, b4⟩, e4, h⟩ := Option.bind_eq_some_iff.mp h
    simp only at h e3 e4
    by_cases hul : u.length < 1000000000
    case neg => rw [if_neg hul] at h; cases h
    rw [if_pos hul] at h
    obtain rfl := Option.some.inj h
    obtain ⟨m, rfl⟩ : ∃ m : Nat, y = (m : Int) := ⟨y.toNat, by omega⟩
    have HM : Aside0 (m ≤ 64) := ⟨by omega⟩
    have HUL := Aside0.mk hul
    have E3 := Aside0.mk e3
    have E4 := Aside0.mk e4
    have d1 : decide ((m : Int) > 64) = false := decide_eq_false h64
    have d1b : decide ((64 : Int) < (m : Int)) = false := decide_eq_false h64
    have d1c : decide (64 < m) = false := decide_eq_false (by omega)
    have hwy : IntKind.i64.wrap (m : Int) = (m : Int) := by rw [IntKind.wrap_i64]; omega
    clear h hl1 h64 hy1 e3 e4 hy hul
    go_wp2_with fail
    have HS6 := Aside0.mk (IsS75.alloc HS4.out (.cells #[.slice none 0 0, .int .i64 0, .int .i64 lo, .int .i64 (m : Int)] 60))
    have HB6 := Aside0.mk (below_alloc HB4.out (.cells #[.slice none 0 0, .int .i64 0, .int .i64 lo, .int .i64 (m : Int)] 60))
    have HK6 : Aside0 ((w5.alloc (.cells #[.slice none 0 0, .int .i64 0, .int .i64 lo, .int .i64 (m : Int)] 60)).heap[w5.heap.size]? = some (.cells #[.slice none 0 0, .int .i64 0, .int .i64 lo, .int .i64 (m : Int)] 60 (0, 0))) := ⟨Mem.alloc_new _ _⟩
    have HGE : Aside0 (w.heap.size ≤ w5.heap.size ∧ g ≠ w5.heap.size) := ⟨below_size HB4.out, fun h9 => by have := IsS75.lt HS4.out; omega⟩
    obtain ⟨G, hG⟩ : ∃ G, w5.heap.size = G := ⟨_, rfl⟩
    rw [hG] at HK6 HGE ⊢
    have HGN : Aside0 (G = w5.heap.size) := ⟨hG.symm⟩
    clear HS4 HB4 HR4 hG hy0
    generalize w5.alloc (.cells #[.slice none 0 0, .int .i64 0, .int .i64 lo, .int .i64 (m : Int)] 60) = w6 at HS6 HB6 HK6 ⊢
    refine (vint_Source_Left.calls g l2 false q l3 b3 w _ HS6.out HB6.out E3.out).mono ?_
    rintro e w7 ⟨rfl, s7, B7, K7⟩
    have HK7 := Aside0.mk ((K7.2 G (blk_lt HK6.out) (Ne.symm HGE.out.2) (by simp)).trans HK6.out)
    clear HS6 HB6 HK6 K7
    go_wp2_with fail
    refine (vint_Source_Take.calls g l3 b3 q u l4 b4 w _ s7 B7 E4.out).mono ?_
    rintro e w8 ⟨v8, rfl, R8, s8, B8, K8⟩
    have HK8 := Aside0.mk ((K8.2 G (blk_lt HK7.out) (Ne.symm HGE.out.2) (by simp)).trans HK7.out)
    have HB8 := Aside0.mk B8
    have HR8 := Aside0.mk (Kd.R_mono (ok' := fun k => k ≠ G) (Kd.R_bound R8) (fun k hk => by have h9 := hk.2.1; have h8 := blk_lt HK7.out; omega))
    obtain ⟨A8, c8, e8⟩ := Kd.R_slice HR8.out
    subst e8
    have h0 : w8.cell? ⟨G, 0, none⟩ = some (.slice none 0 0) := (blk_cell HK8.out 0).trans rfl
    have h3 : w8.cell? ⟨G, 3, none⟩ = some (.int .i64 (m : Int)) := (blk_cell HK8.out 3).trans rfl
    have f0 := blk_frozen HK8.out 0
    clear s7 B7 HK7 R8 s8 B8 K8
    have HK9 : Aside0 ((w8.setCell ⟨G, 0, none⟩ (.slice A8 u.length c8)).heap[G]? = some (.cells #[.slice A8 u.length c8, .int .i64 0, .int .i64 lo, .int .i64 (m : Int)] 60 (0, 0))) := ⟨by simpa using blk_set HK8.out 0 (.slice A8 u.length c8)⟩
    have HB9 : Aside0 (Below w.heap.size w (w8.setCell ⟨G, 0, none⟩ (.slice A8 u.length c8))) := ⟨below_set HB8.out HGE.out.1⟩
    have HC9 := Aside0.mk (Kd.R_reads' (Kd.R_far (p := ⟨G, 0, none⟩) HR8.out (fun k hk => hk) (.slice A8 u.length c8))).2.2
    have HCC := Aside0.mk (Kd.R_reads' HR8.out).2.1
    have HNE : Aside0 (∀ ad, A8 = some ad → 0 < u.length → ad.block ≠ G) := ⟨fun ad ha hp => by
      have h9 := HR8.out.1 ad.block (by rw [ha]; rfl)
      exact h9⟩
    clear HR8 HB8
    have hl0 : (u.length : Int) ≤ 1000000000 := by have := HUL.out; omega
    by_cases hm : m = 0
    · subst hm
      have d2 : (((0 : Nat) : Int) == 0) = true := rfl
      go_wp2_with fail
      clear h0 h3 f0
      generalize w8.setCell ⟨G, 0, none⟩ (.slice A8 u.length c8) = w9 at HK9 HB9 HC9 ⊢
      have h0 : w9.cell? ⟨G, 0, none⟩ = some (.slice A8 u.length c8) := (blk_cell HK9.out 0).trans rfl
      go_region
      go_wp2_with fail
      go_ret2
      have h7 : ((u.length : Int) == 0) = fits n ((0 : Nat) : Int).toNat u.length := by
        show ((u.length : Int) == 0) = (u.length == 0)
        by_cases h6 : u.length = 0
        · rw [h6]; rfl
        · rw [beq_eq_false_iff_ne.mpr h6, beq_eq_false_iff_ne.mpr (show (u.length : Int) ≠ 0 by omega)]
      exact ⟨below_drew HB9.out, G, A8, c8, congrArg (fun t => Ending.returned (.tuple #[.pointer (some ⟨G, 0, none⟩), .bool t])) h7, blk_drew HK9.out, HGE.out.1, HCC.out, Kd.C_drew HC9.out, HNE.out⟩
    · have d2 : ((m : Int) == 0) = false := beq_eq_false_iff_ne.mpr (by omega)
      have hmp : (0 : Int) < (m : Int) := by omega
      have hmn : ¬ (m : Int) = 0 := by omega
      go_wp2_with fail
      clear h0 h3 f0
      generalize w8.setCell ⟨G, 0, none⟩ (.slice A8 u.length c8) = w9 at HK9 HB9 HC9 ⊢
      have h0 : w9.cell? ⟨G, 0, none⟩ = some (.slice A8 u.length c8) := (blk_cell HK9.out 0).trans rfl
      have h3 : w9.cell? ⟨G, 3, none⟩ = some (.int .i64 (m : Int)) := (blk_cell HK9.out 3).trans rfl
      obtain ⟨L8, hL8⟩ : ∃ L8 : Nat, 8 * u.length = L8 := ⟨_, rfl⟩
      have hw1 : IntKind.i64.wrap (8 * (u.length : Int)) = (L8 : Int) := by rw [IntKind.wrap_i64, ← hL8]; omega
      have hw2 : wrap64 (8 * (u.length : Int)) = (L8 : Int) := by rw [← hL8]; unfold wrap64; omega
      obtain ⟨Q, hQ⟩ : ∃ Q : Nat, L8 / m = Q := ⟨_, rfl⟩
      have hq1 : Int.tdiv (L8 : Int) (m : Int) = (Q : Int) := by rw [Int.tdiv_eq_ediv_of_nonneg (by omega), ← hQ]; rfl
      have HL8 := Aside0.mk hL8
      have HQ := Aside0.mk hQ
      clear hL8 hQ
      go_region
      go_wp2_with fail
      have HB10 := Aside0.mk (below_drew HB9.out)
      have HK10 := Aside0.mk (blk_drew HK9.out)
      have HC10 := Aside0.mk (Kd.C_drew HC9.out)
      clear HB9 HK9 HC9 h0 h3 hw1 hw2 hq1
      generalize w9.drew = w10 at HB10 HK10 HC10 ⊢
      have h0 : w10.cell? ⟨G, 0, none⟩ = some (.slice A8 u.length c8) := (blk_cell HK10.out 0).trans rfl
      have h3 : w10.cell? ⟨G, 3, none⟩ = some (.int .i64 (m : Int)) := (blk_cell HK10.out 3).trans rfl
      have hnm : n * m ≤ 300000 := Nat.le_trans (Nat.mul_le_mul HF.out.2.2 HM.out) (by decide)
      obtain ⟨NM, hNM⟩ : ∃ NM : Nat, n * m = NM := ⟨_, rfl⟩
      rw [hNM] at hnm
      have hx1 : IntKind.i64.wrap ((n : Int) * (m : Int)) = (NM : Int) := by rw [IntKind.wrap_i64, ← Int.natCast_mul, hNM]; omega
      obtain ⟨N8, hN8⟩ : ∃ N8 : Nat, NM + 8 = N8 := ⟨_, rfl⟩
      obtain ⟨N7, hN7⟩ : ∃ N7 : Nat, NM + 7 = N7 := ⟨_, rfl⟩
      obtain ⟨V, hV⟩ : ∃ V : Nat, N7 / 8 = V := ⟨_, rfl⟩
      have hx2 : IntKind.i64.wrap ((NM : Int) + 8) = (N8 : Int) := by rw [IntKind.wrap_i64]; omega
      have hx3 : IntKind.i64.wrap ((N8 : Int) - 1) = (N7 : Int) := by rw [IntKind.wrap_i64]; omega
      have hx4 : Int.tdiv (N7 : Int) 8 = (V : Int) := by rw [Int.tdiv_eq_ediv_of_nonneg (by omega), ← hV]; rfl
      have hx5 : IntKind.i64.wrap (V : Int) = (V : Int) := by rw [IntKind.wrap_i64]; omega
      have hQ2 : Q ≤ 8000000000 := by have h8 := HQ.out; have h7 := HL8.out; have h6 := HUL.out; rw [← h8]; exact Nat.le_trans (Nat.div_le_self _ _) (by omega)
      obtain ⟨ta, hta⟩ : ∃ t : Bool, decide ((n : Int) ≤ (Q : Int)) = t := ⟨_, rfl⟩
      have hta2 : decide (n ≤ Q) = ta := by rw [← hta]; by_cases h9 : n ≤ Q <;> simp [h9]
      obtain ⟨D, hD⟩ : ∃ D : Int, (Q : Int) - (n : Int) = D := ⟨_, rfl⟩
      have hd1 : IntKind.i64.wrap ((Q : Int) - (n : Int)) = D := by rw [IntKind.wrap_i64, ← hD]; have := HF.out; omega
      obtain ⟨tb, htb⟩ : ∃ t : Bool, decide (D < 8) = t := ⟨_, rfl⟩
      rw [show wrap64 (Q : Int) = (Q : Int) by unfold wrap64; omega]
      have HVV : Aside0 ((n * m + 7) / 8 = V) := ⟨by rw [hNM, hN7, hV]⟩
      have HFIT : Aside0 ((ta && tb && ((V : Int) == (u.length : Int))) = fits n (m : Int).toNat u.length) := ⟨by
        unfold fits
        rw [Int.toNat_natCast, if_neg hm, HL8.out, HQ.out, HVV.out, ← hta2]
        have h7 : ((V : Int) == (u.length : Int)) = (V == u.length) := by
          by_cases h6 : V = u.length
          · rw [h6]; simp
          · rw [beq_eq_false_iff_ne.mpr h6, beq_eq_false_iff_ne.mpr (show (V : Int) ≠ (u.length : Int) by omega)]
        rw [h7]
        by_cases h6 : n ≤ Q
        · have h5 : tb = decide (Q - n < 8) := by
            rw [← htb, ← hD]
            by_cases h4 : Q - n < 8
            · rw [decide_eq_true h4]; exact decide_eq_true (by omega)
            · rw [decide_eq_false h4]; exact decide_eq_false (by omega)
          rw [h5]
        · rw [decide_eq_false h6]; rfl⟩
      clear hNM hN8 hN7 hV hD hQ2 hnm
      cases ta with
      | true =>
        cases tb with
        | true =>
          go_quiet (fail)
          go_wp2_with fail
          go_ret2
          exact ⟨pw_below_drewN HB10.out _, G, A8, c8, congrArg (fun t => Ending.returned (.tuple #[.pointer (some ⟨G, 0, none⟩), .bool t])) HFIT.out, blk_drewN HK10.out _, HGE.out.1, HCC.out, Kd.C_drewN HC10.out _, HNE.out⟩
        | false =>
          go_quiet (fail)
          go_wp2_with fail
          go_ret2
          exact ⟨pw_below_drewN HB10.out _, G, A8, c8, congrArg (fun t => Ending.returned (.tuple #[.pointer (some ⟨G, 0, none⟩), .bool t])) HFIT.out, blk_drewN HK10.out _, HGE.out.1, HCC.out, Kd.C_drewN HC10.out _, HNE.out⟩
      | false =>
        go_quiet (fail)
        go_wp2_with fail
        go_ret2
        exact ⟨pw_below_drewN HB10.out _, G, A8, c8, congrArg (fun t => Ending.returned (.tuple #[.pointer (some ⟨G, 0, none⟩), .bool t])) HFIT.out, blk_drewN HK10.out _, HGE.out.1, HCC.out, Kd.C_drewN HC10.out _, HNE.out⟩
end Go.Proofs.Ytbbffnlefmogbaa.X
/- The contract of tight.Get: the numbers that bytes are in as few bits as can be. -/
namespace Go.Proofs.Ytbbffnlefmogbaa.X
open Go.RowKit Go.Proofs.YtbbffnlefmogbaaW.PrintWords Go.Proofs.YtbbffnlefmogbaaW.PrintLast Go.Proofs.YtbbffnlefmogbaaW.PrintMore
set_option linter.unusedVariables false
set_option linter.unusedSimpArgs false
theorem tg_info : (Try.prog.info? 2).map (fun i => (i.zero, i.size, i.bytes)) = some (some (.int .i64 0), 1, 8) := by kernel_rfl
/-- So many numbers from a bit on. -/
def getGo (lo : Int) (m : Nat) (b : List Int) : Nat → Nat → List Int
  | 0, _ => []
  | d + 1, at_ => nextOf lo (readGo b m 0 0 at_) :: getGo lo m b d (at_ + m)
theorem getGo_len (lo : Int) (m : Nat) (b : List Int) : ∀ d a, (getGo lo m b d a).length = d
  | 0, _ => rfl
  | d + 1, a => by rw [getGo, List.length_cons, getGo_len lo m b d]
theorem getGo_at (lo : Int) (m : Nat) (b : List Int) : ∀ d a i, i < d → (getGo lo m b d a)[i]? = some (nextOf lo (readGo b m 0 0 (a + i * m)))
  | 0, _, i, h => by omega
  | d + 1, a, 0, h => by rw [getGo, Nat.zero_mul, Nat.add_zero]; rfl
  | d + 1, a, i + 1, h => by
    rw [getGo, List.getElem?_cons_succ, getGo_at lo m b d (a + m) i (by omega), Nat.succ_mul, show a + m + i * m = a + (i * m + m) by omega]
def tight_Get.f (k : Nat) (l0 : List Int) (a1 : Int) : Option (List Int × Bool) :=
  if a1 ≤ 0 ∨ a1 > 4096 then some ([], decide (a1 = 0) && (l0.length == 0)) else (tight_open.f l0 a1.toNat).bind fun o =>
    match o with
    | none => some ([], false)
    | some (lo, y, b, t) => if t = false then some ([], false) else
      if 0 ≤ y ∧ y ≤ 64 ∧ a1.toNat * y.toNat ≤ 8 * b.length ∧ b.length < 1000000000 then (tight_Put.f k (getGo lo y.toNat b a1.toNat 0)).bind fun p => (bytes_Equal.f p l0).bind fun q => if q = true then some (getGo lo y.toNat b a1.toNat 0, true) else some ([], false) else none
theorem tight_Get.mono : ∀ a0 a1 k, LeO (tight_Get.f k a0 a1) (tight_Get.f (k + 1) a0 a1) := by
  intro a0 a1 k r h
  unfold tight_Get.f at h ⊢
  split
  · rename_i h1; rw [if_pos h1] at h; exact h
  · rename_i h1
    rw [if_neg h1] at h
    obtain ⟨o, e1, h⟩ := Option.bind_eq_some_iff.mp h
    rw [e1, Option.bind_some]
    match o, h with
    | none, h => exact h
    | some (lo, y, b, t), h =>
      simp only at h ⊢
      split
      · rename_i h2; rw [if_pos h2] at h; exact h
      · rename_i h2
        rw [if_neg h2] at h
        split
        · rename_i h3
          rw [if_pos h3] at h
          obtain ⟨p, e2, h⟩ := Option.bind_eq_some_iff.mp h
          rw [tight_Put.mono _ _ _ e2]; exact h
        · rename_i h3; rw [if_neg h3] at h; cases h
set_option maxHeartbeats 8000000 in
set_option maxRecDepth 1000000 in
theorem tight_Get.calls (k : Nat) (A0 : Option Addr) (c0 : Nat) (l0 : List Int) (a1 : Int) (r1 : List Int) (r2 : Bool) (w : World) (hr0 : Kd.C (Kd.int .u8) w A0 l0.length l0) (hc0 : l0.length ≤ c0) (h : tight_Get.f k l0 a1 = some (r1, r2)) :
    Calls Try.prog 12 #[.slice A0 l0.length c0, .int .i64 a1] w fun e w' => ∃ v0_ : Value, e = .returned (.tuple #[v0_, .bool r2]) ∧ Kd.R (Kd.int .i64) 2 w' w.heap.size (fun _ => True) v0_ r1 ∧ Below w.heap.size w w' := by
  unfold tight_Get.f at h
  have HR0 := Aside0.mk hr0
  clear hr0
  by_cases h0 : a1 ≤ 0 ∨ a1 > 4096
  · rw [if_pos h0] at h
    simp only [Option.some.injEq, Prod.mk.injEq] at h
    obtain ⟨rfl, rfl⟩ := h
    obtain ⟨ta, hta⟩ : ∃ t : Bool, decide (a1 ≤ 0) = t := ⟨_, rfl⟩
    obtain ⟨tb, htb⟩ : ∃ t : Bool, decide (a1 > 4096) = t := ⟨_, rfl⟩
    obtain ⟨tc, htc⟩ : ∃ t : Bool, (a1 == 0) = t := ⟨_, rfl⟩
    obtain ⟨td, htd⟩ : ∃ t : Bool, ((l0.length : Int) == 0) = t := ⟨_, rfl⟩
    have hx : (ta || tb) = true := by rw [← hta, ← htb]; simpa only [Bool.or_eq_true, decide_eq_true_eq] using h0
    have hres : (decide (a1 = 0) && (l0.length == 0)) = (tc && td) := by
      rw [← htc, ← htd]
      have h7 : ((l0.length : Int) == 0) = (l0.length == 0) := by
        by_cases h6 : l0.length = 0
        · rw [h6]; rfl
        · rw [beq_eq_false_iff_ne.mpr h6, beq_eq_false_iff_ne.mpr (show (l0.length : Int) ≠ 0 by omega)]
      rw [h7]; rfl
    rw [hres]
    clear h0 hres
    cases ta <;> cases tb <;> cases tc <;> cases td <;> first
      | (exact absurd hx (by decide))
      | (clear hx
         go_enter Try.func12, Try.ntmps12
         go_wp2_with fail
         go_ret2
         exact ⟨_, rfl, Kd.R_nil _ _ _ _ _, Below.refl _ _⟩)
  rw [if_neg h0] at h
  obtain ⟨n, rfl⟩ : ∃ n : Nat, a1 = (n : Int) := ⟨a1.toNat, by omega⟩
  have HN : Aside0 (1 ≤ n ∧ n ≤ 4096) := ⟨by omega⟩
  have d1 : decide ((n : Int) ≤ 0) = false := decide_eq_false (by omega)
  have d2 : decide ((n : Int) > 4096) = false := decide_eq_false (by omega)
  have d3 : decide (n ≤ 0) = false := decide_eq_false (by omega)
  have d3b : decide (n = 0) = false := decide_eq_false (by omega)
  have d4 : decide (4096 < n) = false := decide_eq_false (by omega)
  rw [Int.toNat_natCast] at h
  obtain ⟨o, e1, h⟩ := Option.bind_eq_some_iff.mp h
  have E1 := Aside0.mk e1
  have HH := Aside0.mk h
  clear h0 e1 h
  go_enter Try.func12, Try.ntmps12
  go_wp2_with fail
  refine (tight_open.calls A0 c0 l0 n o w HR0.out hc0 E1.out).mono ?_
  rintro e w2 ⟨B2, hO⟩
  have HB2 := Aside0.mk B2
  clear B2
  match o, HH, hO with
  | none, HH, hO =>
    have h := HH.out
    simp only [Option.some.injEq, Prod.mk.injEq] at h
    obtain ⟨rfl, rfl⟩ := h
    obtain rfl := hO
    go_wp2_with fail
    go_ret2
    exact ⟨_, rfl, Kd.R_nil _ _ _ _ _, HB2.out⟩
  | some (lo, y, b, t), HH, hO =>
    obtain ⟨g, A, c, rfl, hK, hG, hcc, hC, hne⟩ := hO
    have h := HH.out
    simp only at h
    cases t with
    | false =>
      rw [if_pos rfl] at h
      simp only [Option.some.injEq, Prod.mk.injEq] at h
      obtain ⟨rfl, rfl⟩ := h
      go_wp2_with fail
      go_ret2
      exact ⟨_, rfl, Kd.R_nil _ _ _ _ _, HB2.out⟩
    | true =>
      rw [if_neg (by decide)] at h
      by_cases hy : 0 ≤ y ∧ y ≤ 64 ∧ n * y.toNat ≤ 8 * b.length ∧ b.length < 1000000000
      case neg => rw [if_neg hy] at h; cases h
      rw [if_pos hy] at h
      obtain ⟨m, rfl⟩ : ∃ m : Nat, y = (m : Int) := ⟨y.toNat, by omega⟩
      rw [Int.toNat_natCast] at h hy
      obtain ⟨all, hall⟩ : ∃ all, getGo lo m b n 0 = all := ⟨_, rfl⟩
      rw [hall] at h
      have HALL := Aside0.mk hall
      have HLEN : Aside0 (all.length = n) := ⟨by rw [← hall, getGo_len]⟩
      obtain ⟨p, e2, h⟩ := Option.bind_eq_some_iff.mp h
      obtain ⟨q, e3, h⟩ := Option.bind_eq_some_iff.mp h
      have E2 := Aside0.mk e2
      have E3 := Aside0.mk e3
      have HH2 := Aside0.mk h
      have HY := Aside0.mk hy
      have HK := Aside0.mk hK
      have HG := Aside0.mk hG
      have HC := Aside0.mk hC
      have HNE := Aside0.mk hne
      have HLT : Aside0 (∀ ad, A = some ad → 0 < b.length → ad.block < w2.heap.size) := ⟨fun ad ha hp => by
        obtain ⟨ad', ea, hx⟩ := Kd.at_int HC.out (0 : Int) (by omega) (by omega)
        rw [ha] at ea
        injection ea with ea
        have h9 := World.block_lt_of_cell? w2 _ hx
        rw [ea]
        simpa [Addr.add] using h9⟩
      obtain ⟨zs, hz⟩ : ∃ zs : List Int, List.replicate n 0 = zs := ⟨_, rfl⟩
      have HZ := Aside0.mk hz
      have HZL : Aside0 (zs.length = n) := ⟨by rw [← hz, List.length_replicate]⟩
      have hmk : (n : Int).toNat * 8 ≤ 281474976710656 := by have := HN.out; omega
      clear hall e2 e3 h hy hK hG hcc hC hne hz
      go_wp2_with ((with_reducible refine gate_dst (N := 32) rfl ?_); refine Kd.R_make (Kd.int .i64) _ 2 rfl (N := 32) rfl 22 _ _ rfl (n : Int) rfl rfl Try.underlying22 (.int .i64 0) 8 tg_info rfl (by decide) (by omega) 0 (ok := fun _ => True) (okp := fun _ => True) rfl (fun _ hk => hk) trivial (by omega) hmk (Below.refl _ _) (Nat.le_refl _) ?_; intro v32 w3 hR hb _ _; rw [Int.toNat_natCast, HZ.out] at hR; obtain ⟨gl, cl, ev, hgl1, hgl2, cells, hcl⟩ := Kd.R_form hR (by rw [HZL.out]; exact HN.out.1); subst ev; rw [HZL.out] at hR ⊢; have HRL := Aside0.mk (Kd.R_mono (ok' := fun k => k ≠ g) (Kd.R_bound hR) (fun k hk => by have h9 := hk.2.1; have h8 := blk_lt HK.out; omega)); have HGL := Aside0.mk hgl1; have HK3 := Aside0.mk (blk_below HK.out hb); have HC3 := Aside0.mk (Kd.C_below HC.out hb); have HB3 := Aside0.mk (below_step HB2.out hb); have HGE : Aside0 (∀ ad, A = some ad → 0 < b.length → ad.block ≠ gl) := ⟨fun ad ha hp => by have h9 := HLT.out ad ha hp; omega⟩; clear hR hb hgl1 hgl2 hcl HK HC)
      have hAt : ∀ i, i < n → all[i]? = some (nextOf lo (readGo b m 0 0 (i * m))) := fun i hi => by
        have h9 := getGo_at lo m b n 0 i hi
        rw [HALL.out, Nat.zero_add] at h9; exact h9
      have HAT := Aside0.mk hAt
      have HZS : Aside0 (zs = List.replicate n 0) := ⟨HZ.out.symm⟩
      clear hAt
      go_loopg [35] (n + 1) (fun kq v35 w' => ∃ (i : Nat) (L : List Int), v35 = .int .i64 (i : Int) ∧ Aside0 (kq + i = n + 1) ∧ Aside0 (i ≤ n) ∧ Aside0 (L = all.take i ++ List.replicate (n - i) 0) ∧ Aside0 (Kd.R (Kd.int .i64) 2 w' w2.heap.size (fun k => k ≠ g) (.slice (some ⟨gl, 0, none⟩) n cl) L) ∧ Aside0 (w'.heap[g]? = some (.cells #[.slice A b.length c, .int .i64 ((i * m : Nat) : Int), .int .i64 lo, .int .i64 (m : Int)] 60 (0, 0))) ∧ Aside0 (Kd.C (Kd.int .u8) w' A b.length b) ∧ Aside0 (Below w.heap.size w w'))
      case atStart => exact ⟨0, zs, rfl, ⟨by omega⟩, ⟨by omega⟩, ⟨by rw [HZS.out]; simp⟩, HRL, ⟨by simpa using HK3.out⟩, HC3, HB3⟩
      case round =>
        clear HRL HK3 HC3 HB3
        obtain ⟨i, L, rfl, HQ, HI, HLL, HRL, HK, HC, HB⟩ := hrel
        cases gk with
        | zero => have h1 := HQ.out; have h2 := HI.out; omega
        | succ k2 =>
        have HLN : Aside0 (L.length = n) := ⟨(Kd.R_reads' HRL.out).1.symm⟩
        by_cases hi : i < n
        · have c1 : decide ((i : Int) < (n : Int)) = true := decide_eq_true (by omega)
          have c1b : decide (i < n) = true := decide_eq_true hi
          have hi0 : (0 : Int) ≤ (i : Int) := Int.natCast_nonneg _
          have hi1 : (i : Int) < (n : Int) := by omega
          have HIN := Aside0.mk hi
          have HMUL : Aside0 (i * m + m ≤ n * m) := ⟨by rw [← Nat.succ_mul]; exact Nat.mul_le_mul_right m hi⟩
          have HNM : Aside0 (n * m ≤ 262144) := ⟨Nat.le_trans (Nat.mul_le_mul HN.out.2 (show m ≤ 64 by have := HY.out; omega)) (by decide)⟩
          clear hi
          go_wp2_with fail
          refine (tight_packed_next.calls g A c b (i * m) lo m (readGo b m 0 0 (i * m)) w wr HK.out HG.out HC.out HNE.out HB.out (by unfold tight_row_read.f; rw [if_pos]; have h1 := HMUL.out; have h2 := HY.out; have h3 := HNM.out; omega)).mono ?_
          rintro e w5 ⟨rfl, k5, K5, B5⟩
          have HR5 := Aside0.mk (Kd.R_keep HRL.out K5 (fun k hk => hk))
          have HK5 := Aside0.mk k5
          have HC5 := Aside0.mk (Kd.C_keep (0 : Int) HC.out K5 HNE.out)
          have HB5 := Aside0.mk B5
          obtain ⟨gl', cl', ev, _, _, cells, hcl⟩ := Kd.R_form HR5.out (by rw [HLN.out]; exact HN.out.1)
          have ev1 : gl = gl' := by injection ev with h1 _ _; injection h1 with h1; injection h1 with h1
          clear ev
          subst ev1
          have hil : i < L.length := by have h1 := HLN.out; have h2 := HIN.out; omega
          obtain ⟨ad, ea, hy0⟩ := Kd.at_int (Kd.R_reads' HR5.out).2.2 (i : Int) hi0 (by omega)
          injection ea with ea
          subst ea
          have eadd : (⟨gl, 0, none⟩ : Addr).add (i : Int).toNat = ⟨gl, i, none⟩ := by rw [Int.toNat_natCast]; unfold Addr.add; split <;> simp_all
          rw [eadd] at hy0
          obtain ⟨z, hz⟩ : ∃ z, rd L (i : Int) = z := ⟨_, rfl⟩
          rw [hz] at hy0
          have fy := blk_frozen hcl i
          clear HRL HK HC HB k5 K5 B5 hcl hil eadd hz
          obtain ⟨x, hx⟩ : ∃ x, nextOf lo (readGo b m 0 0 (i * m)) = x := ⟨_, rfl⟩
          rw [hx]
          have HX := Aside0.mk hx
          clear hx
          go_wp2_with fail
          have HLI : Aside0 (L.set i x = all.take (i + 1) ++ List.replicate (n - (i + 1)) 0) := ⟨by
            have h1 := HLL.out
            have h2 := HAT.out i HIN.out
            rw [HX.out] at h2
            have h3 : i < all.length := by rw [HLEN.out]; exact HIN.out
            have h4 : all[i] = x := by rw [List.getElem?_eq_getElem h3] at h2; injection h2
            have h5 : (all.take i).length = i := by rw [List.length_take]; omega
            obtain ⟨d, hd⟩ : ∃ d, n - i = d + 1 := ⟨n - i - 1, by have := HIN.out; omega⟩
            rw [h1, hd, List.replicate_succ, List.set_append_right _ _ (by omega), h5, Nat.sub_self, List.set_cons_zero, List.take_succ_eq_append_getElem h3, h4, List.append_assoc, show n - (i + 1) = d by omega]
            rfl⟩
          have h2 := (Kd.R_putg HR5.out (i : Int) x).1
          rw [Int.toNat_natCast] at h2
          have HR6 := Aside0.mk h2
          have HK6 : Aside0 ((w5.setCell ⟨gl, i, none⟩ (.int .i64 x)).heap[g]? = some (.cells #[.slice A b.length c, .int .i64 ((i * m + m : Nat) : Int), .int .i64 lo, .int .i64 (m : Int)] 60 (0, 0))) := ⟨(Below.heap_setCell w5 ⟨gl, i, none⟩ (.int .i64 x) g (fun h9 => HR5.out.1 gl rfl h9.symm)).trans HK5.out⟩
          have HC6 : Aside0 (Kd.C (Kd.int .u8) (w5.setCell ⟨gl, i, none⟩ (.int .i64 x)) A b.length b) := ⟨Kd.C_keep (0 : Int) HC5.out (KeepBut.set_ (KeepBut.of_below (Below.refl w5.heap.size w5) gl none) i _) HGE.out⟩
          have HB6 := Aside0.mk (below_set HB5.out (g := gl) (j := i) (v := .int .i64 x) (Nat.le_trans (below_size HB2.out) HGL.out))
          have HW : Aside0 ((i : Int) + 1 = ((i + 1 : Nat) : Int)) := ⟨by omega⟩
          clear h2 HR5 HK5 HC5 HB5 hy0 fy
          (try rw [show wrap64 ((i : Int) + 1) = (i : Int) + 1 from by have h1 := HIN.out; have h2 := HN.out; unfold wrap64; omega])
          go_roundg k2
          case measure => omega
          case rel => exact ⟨i + 1, L.set i x, congrArg (Value.int .i64) HW.out, ⟨by have := HQ.out; omega⟩, ⟨by have := HIN.out; omega⟩, HLI, HR6, ⟨by rw [Nat.succ_mul]; exact HK6.out⟩, HC6, HB6⟩
        · have hie : i = n := by have := HI.out; omega
          have c1 : decide ((i : Int) < (n : Int)) = false := decide_eq_false (by omega)
          have c1b : decide (i < n) = false := decide_eq_false hi
          have hLa : L = all := by
            have h1 := HLL.out
            rw [hie, Nat.sub_self, List.replicate_zero, List.append_nil, List.take_of_length_le (by rw [HLEN.out]; exact Nat.le_refl _)] at h1
            exact h1
          subst hLa
          have HCP := tight_Put.calls k (some ⟨gl, 0, none⟩) cl L p wr (Kd.R_reads' HRL.out).2.2 (by rw [HLEN.out]; exact (Kd.R_reads' HRL.out).2.1) E2.out
          rw [HLEN.out] at HCP
          clear hi hie
          go_wp2_with fail
          refine HCP.mono ?_
          rintro e w6 ⟨v6, rfl, R6, B6⟩
          obtain ⟨A6, c6, rfl, hc6, C6⟩ := Kd.R_reads R6
          have HR6 := Aside0.mk (Kd.R_below HRL.out B6)
          have HB6 := Aside0.mk (below_step HB.out B6)
          have HC6 := Aside0.mk C6
          clear HCP R6 B6 C6 HRL HK HC HB
          go_wp2_with fail
          refine (bytes_Equal.calls A6 c6 p A0 c0 l0 q w6 HC6.out hc6 (Kd.C_below HR0.out HB6.out) hc0 E3.out).mono ?_
          rintro e w7 ⟨rfl, D7⟩
          obtain ⟨nd, rfl⟩ := D7
          have h := HH2.out
          cases q with
          | true =>
            rw [if_pos rfl] at h
            simp only [Option.some.injEq, Prod.mk.injEq] at h
            obtain ⟨rfl, rfl⟩ := h
            go_wp2_with fail
            go_ret2
            exact ⟨_, rfl, Kd.R_mono (Kd.R_lower (Kd.R_drewN HR6.out nd) (below_size HB2.out)) (fun _ _ => trivial), pw_below_drewN HB6.out nd⟩
          | false =>
            rw [if_neg (by decide)] at h
            simp only [Option.some.injEq, Prod.mk.injEq] at h
            obtain ⟨rfl, rfl⟩ := h
            go_wp2_with fail
            go_ret2
            exact ⟨_, rfl, Kd.R_nil _ _ _ _ _, pw_below_drewN HB6.out nd⟩
end Go.Proofs.Ytbbffnlefmogbaa.X
-- Printed for this claim by a program of this session (wip/xprint.py) over the kit's printer; Lean checks it.
namespace Go.Proofs.Ytbbffnlefmogbaa.X
open Go.RowKit Go.Proofs.YtbbffnlefmogbaaW.PrintWords Go.Proofs.YtbbffnlefmogbaaW.PrintLast Go.Proofs.YtbbffnlefmogbaaW.PrintMore
attribute [local go_sem] max2_int min2_int max_two min_two max_three min_three max_four min_four   -- for this text's walks alone
set_option linter.unusedVariables false
set_option linter.unusedSimpArgs false

/-! ### vint_Source_Below: function 57 -/
def vint_Source_Below.f (s0_0 : List Int) (s0_1 : Bool) (a1 : Int) : Option (Int × List Int × Bool) := (vint_Source_Num.f s0_0 s0_1).bind fun bt237 => ((vint_Source_Ok.f bt237.2.1 bt237.2.2).bind fun bt240 => (if bt240.1 = true then (if a1 > 0 then (if bt237.1 < (IntKind.u64.wrap (a1)) then (some (wrap64 (bt237.1), bt240.2.1, bt240.2.2)) else ((vint_Source_Fail.f bt240.2.1 bt240.2.2).bind fun bt243 => (some (0, bt243.1, bt243.2)))) else ((vint_Source_Fail.f bt240.2.1 bt240.2.2).bind fun bt245 => (some (0, bt245.1, bt245.2)))) else ((vint_Source_Fail.f bt240.2.1 bt240.2.2).bind fun bt247 => (some (0, bt247.1, bt247.2)))))
set_option maxHeartbeats 8000000 in
set_option maxRecDepth 100000 in
theorem vint_Source_Below.calls (g : Nat) (s0_0 : List Int) (s0_1 : Bool) (a1 : Int) (r1 : Int) (r2 : List Int) (r3 : Bool) (w0 w : World) (hI : IsS75 w0 w g s0_0 s0_1) (hB : Below w0.heap.size w0 w) (h : vint_Source_Below.f s0_0 s0_1 a1 = some (r1, r2, r3)) :
    Calls Try.prog 57 #[.pointer (some ⟨g, 0, none⟩), .int .i64 a1] w fun e w' => e = .returned (.int .i64 r1) ∧ IsS75 w0 w' g r2 r3 ∧ Below w0.heap.size w0 w' ∧ KeepBut w w' g none := by
  have HI0 := Aside0.mk hI
  have HK := Aside0.mk (KeepBut.refl w g none)
  have HL := Aside0.mk hB.size
  clear hI
  have HW0 := Aside0.mk hB.size
  have HB := Aside0.mk hB
  clear hB
  have H : ((vint_Source_Num.f s0_0 s0_1).bind fun bt237 => ((vint_Source_Ok.f bt237.2.1 bt237.2.2).bind fun bt240 => (if bt240.1 = true then (if a1 > 0 then (if bt237.1 < (IntKind.u64.wrap (a1)) then (some (wrap64 (bt237.1), bt240.2.1, bt240.2.2)) else ((vint_Source_Fail.f bt240.2.1 bt240.2.2).bind fun bt243 => (some (0, bt243.1, bt243.2)))) else ((vint_Source_Fail.f bt240.2.1 bt240.2.2).bind fun bt245 => (some (0, bt245.1, bt245.2)))) else ((vint_Source_Fail.f bt240.2.1 bt240.2.2).bind fun bt247 => (some (0, bt247.1, bt247.2)))))) = some (r1, r2, r3) := h
  clear h
  replace H := Option.bind_eq_some_iff.mp H
  obtain ⟨⟨t237, t238, t239⟩, A30, H⟩ := H
  replace H : ((vint_Source_Ok.f t238 t239).bind fun bt240 => (if bt240.1 = true then (if a1 > 0 then (if t237 < (IntKind.u64.wrap (a1)) then (some (wrap64 (t237), bt240.2.1, bt240.2.2)) else ((vint_Source_Fail.f bt240.2.1 bt240.2.2).bind fun bt243 => (some (0, bt243.1, bt243.2)))) else ((vint_Source_Fail.f bt240.2.1 bt240.2.2).bind fun bt245 => (some (0, bt245.1, bt245.2)))) else ((vint_Source_Fail.f bt240.2.1 bt240.2.2).bind fun bt247 => (some (0, bt247.1, bt247.2))))) = some (r1, r2, r3) := H
  have A3 := Aside0.mk A30
  clear A30
  replace H := Option.bind_eq_some_iff.mp H
  obtain ⟨⟨t240, t241, t242⟩, A40, H⟩ := H
  replace H : (if t240 = true then (if a1 > 0 then (if t237 < (IntKind.u64.wrap (a1)) then (some (wrap64 (t237), t241, t242)) else ((vint_Source_Fail.f t241 t242).bind fun bt243 => (some (0, bt243.1, bt243.2)))) else ((vint_Source_Fail.f t241 t242).bind fun bt245 => (some (0, bt245.1, bt245.2)))) else ((vint_Source_Fail.f t241 t242).bind fun bt247 => (some (0, bt247.1, bt247.2)))) = some (r1, r2, r3) := H
  have A4 := Aside0.mk A40
  clear A40
  by_cases c5 : t240 = true
  · subst c5
    have H1 : (if a1 > 0 then (if t237 < (IntKind.u64.wrap (a1)) then (some (wrap64 (t237), t241, t242)) else ((vint_Source_Fail.f t241 t242).bind fun bt243 => (some (0, bt243.1, bt243.2)))) else ((vint_Source_Fail.f t241 t242).bind fun bt245 => (some (0, bt245.1, bt245.2)))) = some (r1, r2, r3) := by rw [if_pos rfl] at H; exact H
    clear H
    have H := H1
    clear H1
    by_cases c6 : a1 > 0
    · rw [if_pos c6] at H
      have c6b0 : decide (0 < a1) = true := decide_eq_true c6
      clear c6
      by_cases c7 : t237 < (IntKind.u64.wrap (a1))
      · rw [if_pos c7] at H
        have c7b0 : decide (t237 < (IntKind.u64.wrap (a1))) = true := decide_eq_true c7
        clear c7
        simp only [Option.some.injEq, Prod.mk.injEq] at H
        obtain ⟨rfl, rfl, rfl⟩ := H
        go_enter Try.func57, Try.ntmps57
        go_wp2_with (first | ((with_reducible refine gate_callee (f := 83) rfl ?_); refine goesL_ (some 7) rfl rfl Try.func83 (by kernel_rfl) rfl #[.pointer (some ⟨g, 0, none⟩)] rfl (by (try simp only [List.map_toArray, List.map_cons, List.map_nil]); first | done | rfl | (simp only [List.length_drop, List.length_take]; rfl)) ?_; (with_reducible refine (vint_Source_Num.calls g s0_0 s0_1 t237 t238 t239 w0 _ ?side1 ?side2 A3.out).mono ?_); (case side1 => repeat (first | (with_reducible first | exact HI0.out | apply IsS75.alloc | apply IsS75.drewN | apply IsS75.drew | apply IsS75.set_0 | apply IsS75.set_1) | exact HI0.out)); (case side2 => repeat (first | (with_reducible first | exact HB.out | apply below_alloc | apply pw_below_drewN | apply below_drew1 | refine below_set ?_ (IsS75.ge HI0.out)) | exact HB.out)); rintro e w8 ⟨rfl, hi, hb, hk⟩; refine ⟨_, rfl, ?_⟩; have n0_ := Aside0.mk (KeepBut.trans (by repeat (first | (with_reducible first | exact HK.out | apply KeepBut.set_ | apply keep_drewN | apply keep_drew | apply keep_alloc) | exact HK.out)) hk (.inl rfl)); have n1_ := Aside0.mk (hb); have n2_ := Aside0.mk (hi); clear HK; clear HB; clear HI0; have HK := n0_; have HB := n1_; have HI0 := n2_; clear n0_ n1_ n2_; (try clear hb); (try clear hb2); (try clear hk); (try clear hi)) | ((with_reducible refine gate_callee (f := 23) rfl ?_); refine goesL_ (some 9) rfl rfl Try.func23 (by kernel_rfl) rfl #[.pointer (some ⟨g, 0, none⟩)] rfl (by (try simp only [List.map_toArray, List.map_cons, List.map_nil]); first | done | rfl | (simp only [List.length_drop, List.length_take]; rfl)) ?_; (with_reducible refine (vint_Source_Ok.calls g t238 t239 true t241 t242 w0 _ ?side1 ?side2 A4.out).mono ?_); (case side1 => repeat (first | (with_reducible first | exact HI0.out | apply IsS75.alloc | apply IsS75.drewN | apply IsS75.drew | apply IsS75.set_0 | apply IsS75.set_1) | exact HI0.out)); (case side2 => repeat (first | (with_reducible first | exact HB.out | apply below_alloc | apply pw_below_drewN | apply below_drew1 | refine below_set ?_ (IsS75.ge HI0.out)) | exact HB.out)); rintro e w9 ⟨rfl, hi, hb, hk⟩; refine ⟨_, rfl, ?_⟩; have n0_ := Aside0.mk (KeepBut.trans (by repeat (first | (with_reducible first | exact HK.out | apply KeepBut.set_ | apply keep_drewN | apply keep_drew | apply keep_alloc) | exact HK.out)) hk (.inl rfl)); have n1_ := Aside0.mk (hb); have n2_ := Aside0.mk (hi); clear HK; clear HB; clear HI0; have HK := n0_; have HB := n1_; have HI0 := n2_; clear n0_ n1_ n2_; (try clear hb); (try clear hb2); (try clear hk); (try clear hi)))
        go_ret
        exact ⟨by first | rfl | (simp [errW_none, errW_some] <;> rfl) | (simp [*, errW_none, errW_some] <;> rfl), by repeat (first | (with_reducible first | exact HI0.out | apply IsS75.alloc | apply IsS75.drewN | apply IsS75.drew | apply IsS75.set_0 | apply IsS75.set_1) | exact HI0.out), by repeat (first | (with_reducible first | exact HB.out | apply below_alloc | apply pw_below_drewN | apply below_drew1 | refine below_set ?_ (IsS75.ge HI0.out)) | exact HB.out), by repeat (first | (with_reducible first | exact HK.out | apply KeepBut.set_ | apply keep_drewN | apply keep_drew | apply keep_alloc) | exact HK.out)⟩
      · rw [if_neg c7] at H
        have c7b0 : decide (t237 < (IntKind.u64.wrap (a1))) = false := decide_eq_false c7
        clear c7
        replace H := Option.bind_eq_some_iff.mp H
        obtain ⟨⟨t243, t244⟩, A100, H⟩ := H
        replace H : (some (0, t243, t244)) = some (r1, r2, r3) := H
        have A10 := Aside0.mk A100
        clear A100
        simp only [Option.some.injEq, Prod.mk.injEq] at H
        obtain ⟨rfl, rfl, rfl⟩ := H
        go_enter Try.func57, Try.ntmps57
        go_wp2_with (first | ((with_reducible refine gate_callee (f := 83) rfl ?_); refine goesL_ (some 7) rfl rfl Try.func83 (by kernel_rfl) rfl #[.pointer (some ⟨g, 0, none⟩)] rfl (by (try simp only [List.map_toArray, List.map_cons, List.map_nil]); first | done | rfl | (simp only [List.length_drop, List.length_take]; rfl)) ?_; (with_reducible refine (vint_Source_Num.calls g s0_0 s0_1 t237 t238 t239 w0 _ ?side1 ?side2 A3.out).mono ?_); (case side1 => repeat (first | (with_reducible first | exact HI0.out | apply IsS75.alloc | apply IsS75.drewN | apply IsS75.drew | apply IsS75.set_0 | apply IsS75.set_1) | exact HI0.out)); (case side2 => repeat (first | (with_reducible first | exact HB.out | apply below_alloc | apply pw_below_drewN | apply below_drew1 | refine below_set ?_ (IsS75.ge HI0.out)) | exact HB.out)); rintro e w11 ⟨rfl, hi, hb, hk⟩; refine ⟨_, rfl, ?_⟩; have n0_ := Aside0.mk (KeepBut.trans (by repeat (first | (with_reducible first | exact HK.out | apply KeepBut.set_ | apply keep_drewN | apply keep_drew | apply keep_alloc) | exact HK.out)) hk (.inl rfl)); have n1_ := Aside0.mk (hb); have n2_ := Aside0.mk (hi); clear HK; clear HB; clear HI0; have HK := n0_; have HB := n1_; have HI0 := n2_; clear n0_ n1_ n2_; (try clear hb); (try clear hb2); (try clear hk); (try clear hi)) | ((with_reducible refine gate_callee (f := 23) rfl ?_); refine goesL_ (some 9) rfl rfl Try.func23 (by kernel_rfl) rfl #[.pointer (some ⟨g, 0, none⟩)] rfl (by (try simp only [List.map_toArray, List.map_cons, List.map_nil]); first | done | rfl | (simp only [List.length_drop, List.length_take]; rfl)) ?_; (with_reducible refine (vint_Source_Ok.calls g t238 t239 true t241 t242 w0 _ ?side1 ?side2 A4.out).mono ?_); (case side1 => repeat (first | (with_reducible first | exact HI0.out | apply IsS75.alloc | apply IsS75.drewN | apply IsS75.drew | apply IsS75.set_0 | apply IsS75.set_1) | exact HI0.out)); (case side2 => repeat (first | (with_reducible first | exact HB.out | apply below_alloc | apply pw_below_drewN | apply below_drew1 | refine below_set ?_ (IsS75.ge HI0.out)) | exact HB.out)); rintro e w12 ⟨rfl, hi, hb, hk⟩; refine ⟨_, rfl, ?_⟩; have n0_ := Aside0.mk (KeepBut.trans (by repeat (first | (with_reducible first | exact HK.out | apply KeepBut.set_ | apply keep_drewN | apply keep_drew | apply keep_alloc) | exact HK.out)) hk (.inl rfl)); have n1_ := Aside0.mk (hb); have n2_ := Aside0.mk (hi); clear HK; clear HB; clear HI0; have HK := n0_; have HB := n1_; have HI0 := n2_; clear n0_ n1_ n2_; (try clear hb); (try clear hb2); (try clear hk); (try clear hi)) | ((with_reducible refine gate_callee (f := 59) rfl ?_); refine goesL_ (some 23) rfl rfl Try.func59 (by kernel_rfl) rfl #[.pointer (some ⟨g, 0, none⟩)] rfl (by (try simp only [List.map_toArray, List.map_cons, List.map_nil]); first | done | rfl | (simp only [List.length_drop, List.length_take]; rfl)) ?_; (with_reducible refine (vint_Source_Fail.calls g t241 t242 t243 t244 w0 _ ?side1 ?side2 A10.out).mono ?_); (case side1 => repeat (first | (with_reducible first | exact HI0.out | apply IsS75.alloc | apply IsS75.drewN | apply IsS75.drew | apply IsS75.set_0 | apply IsS75.set_1) | exact HI0.out)); (case side2 => repeat (first | (with_reducible first | exact HB.out | apply below_alloc | apply pw_below_drewN | apply below_drew1 | refine below_set ?_ (IsS75.ge HI0.out)) | exact HB.out)); rintro e w13 ⟨rfl, hi, hb, hk⟩; refine ⟨_, rfl, ?_⟩; have n0_ := Aside0.mk (KeepBut.trans (by repeat (first | (with_reducible first | exact HK.out | apply KeepBut.set_ | apply keep_drewN | apply keep_drew | apply keep_alloc) | exact HK.out)) hk (.inl rfl)); have n1_ := Aside0.mk (hb); have n2_ := Aside0.mk (hi); clear HK; clear HB; clear HI0; have HK := n0_; have HB := n1_; have HI0 := n2_; clear n0_ n1_ n2_; (try clear hb); (try clear hb2); (try clear hk); (try clear hi)))
        go_ret
        exact ⟨by first | rfl | (simp [errW_none, errW_some] <;> rfl) | (simp [*, errW_none, errW_some] <;> rfl), by repeat (first | (with_reducible first | exact HI0.out | apply IsS75.alloc | apply IsS75.drewN | apply IsS75.drew | apply IsS75.set_0 | apply IsS75.set_1) | exact HI0.out), by repeat (first | (with_reducible first | exact HB.out | apply below_alloc | apply pw_below_drewN | apply below_drew1 | refine below_set ?_ (IsS75.ge HI0.out)) | exact HB.out), by repeat (first | (with_reducible first | exact HK.out | apply KeepBut.set_ | apply keep_drewN | apply keep_drew | apply keep_alloc) | exact HK.out)⟩
    · rw [if_neg c6] at H
      have c6b0 : decide (0 < a1) = false := decide_eq_false c6
      clear c6
      replace H := Option.bind_eq_some_iff.mp H
      obtain ⟨⟨t245, t246⟩, A140, H⟩ := H
      replace H : (some (0, t245, t246)) = some (r1, r2, r3) := H
      have A14 := Aside0.mk A140
      clear A140
      simp only [Option.some.injEq, Prod.mk.injEq] at H
      obtain ⟨rfl, rfl, rfl⟩ := H
      go_enter Try.func57, Try.ntmps57
      go_wp2_with (first | ((with_reducible refine gate_callee (f := 83) rfl ?_); refine goesL_ (some 7) rfl rfl Try.func83 (by kernel_rfl) rfl #[.pointer (some ⟨g, 0, none⟩)] rfl (by (try simp only [List.map_toArray, List.map_cons, List.map_nil]); first | done | rfl | (simp only [List.length_drop, List.length_take]; rfl)) ?_; (with_reducible refine (vint_Source_Num.calls g s0_0 s0_1 t237 t238 t239 w0 _ ?side1 ?side2 A3.out).mono ?_); (case side1 => repeat (first | (with_reducible first | exact HI0.out | apply IsS75.alloc | apply IsS75.drewN | apply IsS75.drew | apply IsS75.set_0 | apply IsS75.set_1) | exact HI0.out)); (case side2 => repeat (first | (with_reducible first | exact HB.out | apply below_alloc | apply pw_below_drewN | apply below_drew1 | refine below_set ?_ (IsS75.ge HI0.out)) | exact HB.out)); rintro e w15 ⟨rfl, hi, hb, hk⟩; refine ⟨_, rfl, ?_⟩; have n0_ := Aside0.mk (KeepBut.trans (by repeat (first | (with_reducible first | exact HK.out | apply KeepBut.set_ | apply keep_drewN | apply keep_drew | apply keep_alloc) | exact HK.out)) hk (.inl rfl)); have n1_ := Aside0.mk (hb); have n2_ := Aside0.mk (hi); clear HK; clear HB; clear HI0; have HK := n0_; have HB := n1_; have HI0 := n2_; clear n0_ n1_ n2_; (try clear hb); (try clear hb2); (try clear hk); (try clear hi)) | ((with_reducible refine gate_callee (f := 23) rfl ?_); refine goesL_ (some 9) rfl rfl Try.func23 (by kernel_rfl) rfl #[.pointer (some ⟨g, 0, none⟩)] rfl (by (try simp only [List.map_toArray, List.map_cons, List.map_nil]); first | done | rfl | (simp only [List.length_drop, List.length_take]; rfl)) ?_; (with_reducible refine (vint_Source_Ok.calls g t238 t239 true t241 t242 w0 _ ?side1 ?side2 A4.out).mono ?_); (case side1 => repeat (first | (with_reducible first | exact HI0.out | apply IsS75.alloc | apply IsS75.drewN | apply IsS75.drew | apply IsS75.set_0 | apply IsS75.set_1) | exact HI0.out)); (case side2 => repeat (first | (with_reducible first | exact HB.out | apply below_alloc | apply pw_below_drewN | apply below_drew1 | refine below_set ?_ (IsS75.ge HI0.out)) | exact HB.out)); rintro e w16 ⟨rfl, hi, hb, hk⟩; refine ⟨_, rfl, ?_⟩; have n0_ := Aside0.mk (KeepBut.trans (by repeat (first | (with_reducible first | exact HK.out | apply KeepBut.set_ | apply keep_drewN | apply keep_drew | apply keep_alloc) | exact HK.out)) hk (.inl rfl)); have n1_ := Aside0.mk (hb); have n2_ := Aside0.mk (hi); clear HK; clear HB; clear HI0; have HK := n0_; have HB := n1_; have HI0 := n2_; clear n0_ n1_ n2_; (try clear hb); (try clear hb2); (try clear hk); (try clear hi)) | ((with_reducible refine gate_callee (f := 59) rfl ?_); refine goesL_ (some 23) rfl rfl Try.func59 (by kernel_rfl) rfl #[.pointer (some ⟨g, 0, none⟩)] rfl (by (try simp only [List.map_toArray, List.map_cons, List.map_nil]); first | done | rfl | (simp only [List.length_drop, List.length_take]; rfl)) ?_; (with_reducible refine (vint_Source_Fail.calls g t241 t242 t245 t246 w0 _ ?side1 ?side2 A14.out).mono ?_); (case side1 => repeat (first | (with_reducible first | exact HI0.out | apply IsS75.alloc | apply IsS75.drewN | apply IsS75.drew | apply IsS75.set_0 | apply IsS75.set_1) | exact HI0.out)); (case side2 => repeat (first | (with_reducible first | exact HB.out | apply below_alloc | apply pw_below_drewN | apply below_drew1 | refine below_set ?_ (IsS75.ge HI0.out)) | exact HB.out)); rintro e w17 ⟨rfl, hi, hb, hk⟩; refine ⟨_, rfl, ?_⟩; have n0_ := Aside0.mk (KeepBut.trans (by repeat (first | (with_reducible first | exact HK.out | apply KeepBut.set_ | apply keep_drewN | apply keep_drew | apply keep_alloc) | exact HK.out)) hk (.inl rfl)); have n1_ := Aside0.mk (hb); have n2_ := Aside0.mk (hi); clear HK; clear HB; clear HI0; have HK := n0_; have HB := n1_; have HI0 := n2_; clear n0_ n1_ n2_; (try clear hb); (try clear hb2); (try clear hk); (try clear hi)))
      go_ret
      exact ⟨by first | rfl | (simp [errW_none, errW_some] <;> rfl) | (simp [*, errW_none, errW_some] <;> rfl), by repeat (first | (with_reducible first | exact HI0.out | apply IsS75.alloc | apply IsS75.drewN | apply IsS75.drew | apply IsS75.set_0 | apply IsS75.set_1) | exact HI0.out), by repeat (first | (with_reducible first | exact HB.out | apply below_alloc | apply pw_below_drewN | apply below_drew1 | refine below_set ?_ (IsS75.ge HI0.out)) | exact HB.out), by repeat (first | (with_reducible first | exact HK.out | apply KeepBut.set_ | apply keep_drewN | apply keep_drew | apply keep_alloc) | exact HK.out)⟩
  · replace c5 := Bool.eq_false_iff.mpr c5
    subst c5
    have H1 : ((vint_Source_Fail.f t241 t242).bind fun bt247 => (some (0, bt247.1, bt247.2))) = some (r1, r2, r3) := by rw [if_neg (show ¬ (false = true) by decide)] at H; exact H
    clear H
    have H := H1
    clear H1
    replace H := Option.bind_eq_some_iff.mp H
    obtain ⟨⟨t247, t248⟩, A180, H⟩ := H
    replace H : (some (0, t247, t248)) = some (r1, r2, r3) := H
    have A18 := Aside0.mk A180
    clear A180
    simp only [Option.some.injEq, Prod.mk.injEq] at H
    obtain ⟨rfl, rfl, rfl⟩ := H
    go_enter Try.func57, Try.ntmps57
    go_wp2_with (first | ((with_reducible refine gate_callee (f := 83) rfl ?_); refine goesL_ (some 7) rfl rfl Try.func83 (by kernel_rfl) rfl #[.pointer (some ⟨g, 0, none⟩)] rfl (by (try simp only [List.map_toArray, List.map_cons, List.map_nil]); first | done | rfl | (simp only [List.length_drop, List.length_take]; rfl)) ?_; (with_reducible refine (vint_Source_Num.calls g s0_0 s0_1 t237 t238 t239 w0 _ ?side1 ?side2 A3.out).mono ?_); (case side1 => repeat (first | (with_reducible first | exact HI0.out | apply IsS75.alloc | apply IsS75.drewN | apply IsS75.drew | apply IsS75.set_0 | apply IsS75.set_1) | exact HI0.out)); (case side2 => repeat (first | (with_reducible first | exact HB.out | apply below_alloc | apply pw_below_drewN | apply below_drew1 | refine below_set ?_ (IsS75.ge HI0.out)) | exact HB.out)); rintro e w19 ⟨rfl, hi, hb, hk⟩; refine ⟨_, rfl, ?_⟩; have n0_ := Aside0.mk (KeepBut.trans (by repeat (first | (with_reducible first | exact HK.out | apply KeepBut.set_ | apply keep_drewN | apply keep_drew | apply keep_alloc) | exact HK.out)) hk (.inl rfl)); have n1_ := Aside0.mk (hb); have n2_ := Aside0.mk (hi); clear HK; clear HB; clear HI0; have HK := n0_; have HB := n1_; have HI0 := n2_; clear n0_ n1_ n2_; (try clear hb); (try clear hb2); (try clear hk); (try clear hi)) | ((with_reducible refine gate_callee (f := 23) rfl ?_); refine goesL_ (some 9) rfl rfl Try.func23 (by kernel_rfl) rfl #[.pointer (some ⟨g, 0, none⟩)] rfl (by (try simp only [List.map_toArray, List.map_cons, List.map_nil]); first | done | rfl | (simp only [List.length_drop, List.length_take]; rfl)) ?_; (with_reducible refine (vint_Source_Ok.calls g t238 t239 false t241 t242 w0 _ ?side1 ?side2 A4.out).mono ?_); (case side1 => repeat (first | (with_reducible first | exact HI0.out | apply IsS75.alloc | apply IsS75.drewN | apply IsS75.drew | apply IsS75.set_0 | apply IsS75.set_1) | exact HI0.out)); (case side2 => repeat (first | (with_reducible first | exact HB.out | apply below_alloc | apply pw_below_drewN | apply below_drew1 | refine below_set ?_ (IsS75.ge HI0.out)) | exact HB.out)); rintro e w20 ⟨rfl, hi, hb, hk⟩; refine ⟨_, rfl, ?_⟩; have n0_ := Aside0.mk (KeepBut.trans (by repeat (first | (with_reducible first | exact HK.out | apply KeepBut.set_ | apply keep_drewN | apply keep_drew | apply keep_alloc) | exact HK.out)) hk (.inl rfl)); have n1_ := Aside0.mk (hb); have n2_ := Aside0.mk (hi); clear HK; clear HB; clear HI0; have HK := n0_; have HB := n1_; have HI0 := n2_; clear n0_ n1_ n2_; (try clear hb); (try clear hb2); (try clear hk); (try clear hi)) | ((with_reducible refine gate_callee (f := 59) rfl ?_); refine goesL_ (some 23) rfl rfl Try.func59 (by kernel_rfl) rfl #[.pointer (some ⟨g, 0, none⟩)] rfl (by (try simp only [List.map_toArray, List.map_cons, List.map_nil]); first | done | rfl | (simp only [List.length_drop, List.length_take]; rfl)) ?_; (with_reducible refine (vint_Source_Fail.calls g t241 t242 t247 t248 w0 _ ?side1 ?side2 A18.out).mono ?_); (case side1 => repeat (first | (with_reducible first | exact HI0.out | apply IsS75.alloc | apply IsS75.drewN | apply IsS75.drew | apply IsS75.set_0 | apply IsS75.set_1) | exact HI0.out)); (case side2 => repeat (first | (with_reducible first | exact HB.out | apply below_alloc | apply pw_below_drewN | apply below_drew1 | refine below_set ?_ (IsS75.ge HI0.out)) | exact HB.out)); rintro e w21 ⟨rfl, hi, hb, hk⟩; refine ⟨_, rfl, ?_⟩; have n0_ := Aside0.mk (KeepBut.trans (by repeat (first | (with_reducible first | exact HK.out | apply KeepBut.set_ | apply keep_drewN | apply keep_drew | apply keep_alloc) | exact HK.out)) hk (.inl rfl)); have n1_ := Aside0.mk (hb); have n2_ := Aside0.mk (hi); clear HK; clear HB; clear HI0; have HK := n0_; have HB := n1_; have HI0 := n2_; clear n0_ n1_ n2_; (try clear hb); (try clear hb2); (try clear hk); (try clear hi)))
    go_ret
    exact ⟨by first | rfl | (simp [errW_none, errW_some] <;> rfl) | (simp [*, errW_none, errW_some] <;> rfl), by repeat (first | (with_reducible first | exact HI0.out | apply IsS75.alloc | apply IsS75.drewN | apply IsS75.drew | apply IsS75.set_0 | apply IsS75.set_1) | exact HI0.out), by repeat (first | (with_reducible first | exact HB.out | apply below_alloc | apply pw_below_drewN | apply below_drew1 | refine below_set ?_ (IsS75.ge HI0.out)) | exact HB.out), by repeat (first | (with_reducible first | exact HK.out | apply KeepBut.set_ | apply keep_drewN | apply keep_drew | apply keep_alloc) | exact HK.out)⟩

/-! ### dict_Get: function 35 -/
mutual
def dict_Get.j0 : Nat → List Int → List ByteArray → List Int → Bool → Option (List ByteArray × Bool)
  | 0, _, _, _, _ => none
  | k + 1, x0, x9, x11, x42 => if x42 = true then (some (([] : List ByteArray), false)) else (if 0 ≤ (x11.length : Int) then (if ((x11.length : Int) : Int).toNat ≤ 17592186044416 then (dict_Get.l0 k x0 x9 (List.replicate ((x11.length : Int) : Int).toNat (⟨#[]⟩ : ByteArray)) x11 (x11.length : Int) 0) else (none)) else (none))
def dict_Get.l0 : Nat → List Int → List ByteArray → List ByteArray → List Int → Int → Int → Option (List ByteArray × Bool)
  | 0, _, _, _, _, _, _ => none
  | k + 1, x0, x9, x13, x46, x47, x48 => if x48 < x47 then (if 0 ≤ x48 then (if x48 < (x46.length : Int) then (if (rd x46 x48) < 0 then (some (([] : List ByteArray), false)) else (if (rd x46 x48) ≥ (x9.length : Int) then (some (([] : List ByteArray), false)) else (if 0 ≤ (rd x46 x48) then (if (rd x46 x48) < (x9.length : Int) then (if x48 < (x13.length : Int) then (dict_Get.l0 k x0 x9 (x13.set (x48 : Int).toNat (rdOf ByteArray.empty x9 (rd x46 x48))) x46 x47 (wrap64 (x48 + 1))) else (none)) else (none)) else (none)))) else (none)) else (none)) else ((dict_Put.f k x13).bind fun t281 => ((bytes_Equal.f t281 x0).bind fun t284 => (if t284 = true then (some (x13, true)) else (some (([] : List ByteArray), false)))))
end
def dict_Get.f (k : Nat) (l0 : List Int) (a1 : Int) (a2 : Int) : Option (List ByteArray × Bool) := (vint_From.f l0).bind fun bt249 => ((vint_Source_Below.f bt249.1 bt249.2 (wrap64 ((l0.length : Int) + 1))).bind fun bt252 => ((dict_read.f k bt252.2.1 bt252.2.2 bt252.1 a2).bind fun bt255 => ((vint_Source_Left.f bt255.2.1 bt255.2.2).bind fun bt260 => ((vint_Source_Take.f bt260.2.1 bt260.2.2 bt260.1).bind fun bt263 => ((tight_Get.f k bt263.1 a1).bind fun bt268 => ((vint_Source_Ok.f bt263.2.1 bt263.2.2).bind fun bt272 => (if bt272.1 = true then (dict_Get.j0 k l0 bt255.1 bt268.1 (!bt268.2)) else (dict_Get.j0 k l0 bt255.1 bt268.1 true))))))))
theorem dict_Get.mono_l : ∀ k, (∀ y0 y1 y2 y3, LeO (dict_Get.j0 k y0 y1 y2 y3) (dict_Get.j0 (k + 1) y0 y1 y2 y3)) ∧ (∀ y0 y1 y2 y3 y4 y5, LeO (dict_Get.l0 k y0 y1 y2 y3 y4 y5) (dict_Get.l0 (k + 1) y0 y1 y2 y3 y4 y5))
  | 0 => ⟨fun _ _ _ _ r h => by simp [dict_Get.j0] at h, fun _ _ _ _ _ _ r h => by simp [dict_Get.l0] at h⟩
  | k + 1 => by
    obtain ⟨ih0, ih1⟩ := dict_Get.mono_l k
    refine ⟨?_, ?_⟩
    · intro y0 y1 y2 y3
      unfold dict_Get.j0
      repeat' first
      | (with_reducible exact ih0 _ _ _ _)
      | (with_reducible exact ih1 _ _ _ _ _ _)
      | (with_reducible exact dict_Put.mono _ _)
      | (with_reducible exact dict_read.mono _ _ _ _ _)
      | (with_reducible exact tight_Get.mono _ _ _)
      | (with_reducible exact LeO.refl _)
      | (with_reducible exact LeO.none _)
      | (with_reducible refine LeO.ite ?_ ?_)
      | (with_reducible refine LeO.bind ?_ (fun _ => ?_))
      | exact ih0 _ _ _ _
      | exact ih1 _ _ _ _ _ _
      | exact dict_Put.mono _ _
      | exact dict_read.mono _ _ _ _ _
      | exact tight_Get.mono _ _ _
      | exact LeO.none _
      | refine LeO.ite ?_ ?_
      | refine LeO.bind ?_ (fun _ => ?_)
    · intro y0 y1 y2 y3 y4 y5
      unfold dict_Get.l0
      repeat' first
      | (with_reducible exact ih0 _ _ _ _)
      | (with_reducible exact ih1 _ _ _ _ _ _)
      | (with_reducible exact dict_Put.mono _ _)
      | (with_reducible exact dict_read.mono _ _ _ _ _)
      | (with_reducible exact tight_Get.mono _ _ _)
      | (with_reducible exact LeO.refl _)
      | (with_reducible exact LeO.none _)
      | (with_reducible refine LeO.ite ?_ ?_)
      | (with_reducible refine LeO.bind ?_ (fun _ => ?_))
      | exact ih0 _ _ _ _
      | exact ih1 _ _ _ _ _ _
      | exact dict_Put.mono _ _
      | exact dict_read.mono _ _ _ _ _
      | exact tight_Get.mono _ _ _
      | exact LeO.none _
      | refine LeO.ite ?_ ?_
      | refine LeO.bind ?_ (fun _ => ?_)
theorem dict_Get.mono : ∀ a0 a1 a2 k, LeO (dict_Get.f k a0 a1 a2) (dict_Get.f (k + 1) a0 a1 a2) := by
  intro a0 a1 a2 k
  obtain ⟨ih0, ih1⟩ := dict_Get.mono_l k
  unfold dict_Get.f
  repeat' first
      | (with_reducible exact ih0 _ _ _ _)
      | (with_reducible exact ih1 _ _ _ _ _ _)
      | (with_reducible exact dict_Put.mono _ _)
      | (with_reducible exact dict_read.mono _ _ _ _ _)
      | (with_reducible exact tight_Get.mono _ _ _)
      | (with_reducible exact LeO.refl _)
      | (with_reducible exact LeO.none _)
      | (with_reducible refine LeO.ite ?_ ?_)
      | (with_reducible refine LeO.bind ?_ (fun _ => ?_))
      | exact ih0 _ _ _ _
      | exact ih1 _ _ _ _ _ _
      | exact dict_Put.mono _ _
      | exact dict_read.mono _ _ _ _ _
      | exact tight_Get.mono _ _ _
      | exact LeO.none _
      | refine LeO.ite ?_ ?_
      | refine LeO.bind ?_ (fun _ => ?_)
set_option maxHeartbeats 8000000 in
set_option maxRecDepth 100000 in
theorem dict_Get.calls (k : Nat) (A0 : Option Addr) (c0 : Nat) (l0 : List Int) (a1 : Int) (a2 : Int) (r1 : List ByteArray) (r2 : Bool) (w : World) (hr0 : Kd.C (Kd.int .u8) w A0 l0.length l0) (hc0 : l0.length ≤ c0) (h : dict_Get.f k l0 a1 a2 = some (r1, r2)) :
    Calls Try.prog 35 #[.slice A0 l0.length c0, .int .i64 a1, .int .i64 a2] w fun e w' => ∃ v0_ : Value, e = .returned (.tuple #[v0_, .bool r2]) ∧ Kd.R Kd.string 9 w' w.heap.size (fun _ => True) v0_ r1 ∧ Below w.heap.size w w' := by
  have HR0 := Aside0.mk hr0
  have HC0 := Aside0.mk hc0
  clear hr0 hc0
  have HB := Aside0.mk (Below.refl w.heap.size w)
  have H : ((vint_From.f l0).bind fun bt249 => ((vint_Source_Below.f bt249.1 bt249.2 (wrap64 ((l0.length : Int) + 1))).bind fun bt252 => ((dict_read.f k bt252.2.1 bt252.2.2 bt252.1 a2).bind fun bt255 => ((vint_Source_Left.f bt255.2.1 bt255.2.2).bind fun bt260 => ((vint_Source_Take.f bt260.2.1 bt260.2.2 bt260.1).bind fun bt263 => ((tight_Get.f k bt263.1 a1).bind fun bt268 => ((vint_Source_Ok.f bt263.2.1 bt263.2.2).bind fun bt272 => (if bt272.1 = true then (dict_Get.j0 k l0 bt255.1 bt268.1 (!bt268.2)) else (dict_Get.j0 k l0 bt255.1 bt268.1 true))))))))) = some (r1, r2) := h
  clear h
  replace H := Option.bind_eq_some_iff.mp H
  obtain ⟨⟨t249, t250⟩, A40, H⟩ := H
  replace H : ((vint_Source_Below.f t249 t250 (wrap64 ((l0.length : Int) + 1))).bind fun bt252 => ((dict_read.f k bt252.2.1 bt252.2.2 bt252.1 a2).bind fun bt255 => ((vint_Source_Left.f bt255.2.1 bt255.2.2).bind fun bt260 => ((vint_Source_Take.f bt260.2.1 bt260.2.2 bt260.1).bind fun bt263 => ((tight_Get.f k bt263.1 a1).bind fun bt268 => ((vint_Source_Ok.f bt263.2.1 bt263.2.2).bind fun bt272 => (if bt272.1 = true then (dict_Get.j0 k l0 bt255.1 bt268.1 (!bt268.2)) else (dict_Get.j0 k l0 bt255.1 bt268.1 true)))))))) = some (r1, r2) := H
  have A4 := Aside0.mk A40
  clear A40
  replace H := Option.bind_eq_some_iff.mp H
  obtain ⟨⟨t252, t253, t254⟩, A50, H⟩ := H
  replace H : ((dict_read.f k t253 t254 t252 a2).bind fun bt255 => ((vint_Source_Left.f bt255.2.1 bt255.2.2).bind fun bt260 => ((vint_Source_Take.f bt260.2.1 bt260.2.2 bt260.1).bind fun bt263 => ((tight_Get.f k bt263.1 a1).bind fun bt268 => ((vint_Source_Ok.f bt263.2.1 bt263.2.2).bind fun bt272 => (if bt272.1 = true then (dict_Get.j0 k l0 bt255.1 bt268.1 (!bt268.2)) else (dict_Get.j0 k l0 bt255.1 bt268.1 true))))))) = some (r1, r2) := H
  have A5 := Aside0.mk A50
  clear A50
  replace H := Option.bind_eq_some_iff.mp H
  obtain ⟨⟨t255, t258, t259⟩, A60, H⟩ := H
  replace H : ((vint_Source_Left.f t258 t259).bind fun bt260 => ((vint_Source_Take.f bt260.2.1 bt260.2.2 bt260.1).bind fun bt263 => ((tight_Get.f k bt263.1 a1).bind fun bt268 => ((vint_Source_Ok.f bt263.2.1 bt263.2.2).bind fun bt272 => (if bt272.1 = true then (dict_Get.j0 k l0 t255 bt268.1 (!bt268.2)) else (dict_Get.j0 k l0 t255 bt268.1 true)))))) = some (r1, r2) := H
  have A6 := Aside0.mk A60
  clear A60
  replace H := Option.bind_eq_some_iff.mp H
  obtain ⟨⟨t260, t261, t262⟩, A70, H⟩ := H
  replace H : ((vint_Source_Take.f t261 t262 t260).bind fun bt263 => ((tight_Get.f k bt263.1 a1).bind fun bt268 => ((vint_Source_Ok.f bt263.2.1 bt263.2.2).bind fun bt272 => (if bt272.1 = true then (dict_Get.j0 k l0 t255 bt268.1 (!bt268.2)) else (dict_Get.j0 k l0 t255 bt268.1 true))))) = some (r1, r2) := H
  have A7 := Aside0.mk A70
  clear A70
  replace H := Option.bind_eq_some_iff.mp H
  obtain ⟨⟨t263, t266, t267⟩, A80, H⟩ := H
  replace H : ((tight_Get.f k t263 a1).bind fun bt268 => ((vint_Source_Ok.f t266 t267).bind fun bt272 => (if bt272.1 = true then (dict_Get.j0 k l0 t255 bt268.1 (!bt268.2)) else (dict_Get.j0 k l0 t255 bt268.1 true)))) = some (r1, r2) := H
  have A8 := Aside0.mk A80
  clear A80
  replace H := Option.bind_eq_some_iff.mp H
  obtain ⟨⟨t268, t269⟩, A90, H⟩ := H
  replace H : ((vint_Source_Ok.f t266 t267).bind fun bt272 => (if bt272.1 = true then (dict_Get.j0 k l0 t255 t268 (!t269)) else (dict_Get.j0 k l0 t255 t268 true))) = some (r1, r2) := H
  have A9 := Aside0.mk A90
  clear A90
  have HC10 := Aside0.mk H
  clear H
  go_enter Try.func35, Try.ntmps35
  go_upto_region 5 with (first | ((with_reducible refine gate_callee (f := 19) rfl ?_); refine goesL_ (some 17) rfl rfl Try.func19 (by kernel_rfl) rfl #[.slice A0 l0.length c0] rfl (by (try simp only [List.map_toArray, List.map_cons, List.map_nil]); first | done | rfl | (simp only [List.length_drop, List.length_take]; rfl)) ?_; (with_reducible refine (vint_From.calls _ _ l0 t249 t250 w _ ?side1 ?side2 ?side3 A4.out).mono ?_); (case side1 => repeat (first | (with_reducible first | exact HB.out | apply below_alloc | apply pw_below_drewN | apply below_drew1) | exact HB.out)); (case side2 => exact HR0.out); (case side3 => exact HC0.out); rintro e w11 ⟨g251, rfl, hi, hb, hb2⟩; refine ⟨_, rfl, ?_⟩; have n0_ := Aside0.mk (hb); have n1_ := Aside0.mk (hi); clear HB; have HB := n0_; have HI251 := n1_; clear n0_ n1_; (try clear hb); (try clear hb2); (try clear hk); (try clear hi)) | ((with_reducible refine gate_callee (f := 57) rfl ?_); refine goesL_ (some 23) rfl rfl Try.func57 (by kernel_rfl) rfl #[.pointer (some ⟨g251, 0, none⟩), .int .i64 (wrap64 ((l0.length : Int) + 1))] rfl (by (try simp only [List.map_toArray, List.map_cons, List.map_nil]); first | done | rfl | (simp only [List.length_drop, List.length_take]; rfl)) ?_; (with_reducible refine (vint_Source_Below.calls g251 t249 t250 (wrap64 ((l0.length : Int) + 1)) t252 t253 t254 w _ ?side1 ?side2 A5.out).mono ?_); (case side1 => repeat (first | (with_reducible first | exact HI251.out | apply IsS75.alloc | apply IsS75.drewN | apply IsS75.drew | apply IsS75.set_0 | apply IsS75.set_1) | exact HI251.out)); (case side2 => repeat (first | (with_reducible first | exact HB.out | apply below_alloc | apply pw_below_drewN | apply below_drew1 | refine below_set ?_ (IsS75.ge HI251.out)) | exact HB.out)); rintro e w12 ⟨rfl, hi, hb, hk⟩; refine ⟨_, rfl, ?_⟩; have n0_ := Aside0.mk (hb); have n1_ := Aside0.mk (hi); clear HB; clear HI251; have HB := n0_; have HI251 := n1_; clear n0_ n1_; (try clear hb); (try clear hb2); (try clear hk); (try clear hi)) | ((with_reducible refine gate_callee (f := 69) rfl ?_); refine goesL_ (some 25) rfl rfl Try.func69 (by kernel_rfl) rfl #[.pointer (some ⟨g251, 0, none⟩), .int .i64 t252, .int .i64 a2] rfl (by (try simp only [List.map_toArray, List.map_cons, List.map_nil]); first | done | rfl | (simp only [List.length_drop, List.length_take]; rfl)) ?_; (with_reducible refine (dict_read.calls k g251 t253 t254 t252 a2 t255 t258 t259 w _ ?side1 ?side2 A6.out).mono ?_); (case side1 => repeat (first | (with_reducible first | exact HI251.out | apply IsS75.alloc | apply IsS75.drewN | apply IsS75.drew | apply IsS75.set_0 | apply IsS75.set_1) | exact HI251.out)); (case side2 => repeat (first | (with_reducible first | exact HB.out | apply below_alloc | apply pw_below_drewN | apply below_drew1 | refine below_set ?_ (IsS75.ge HI251.out)) | exact HB.out)); rintro e w13 ⟨v256, rfl, ho0, hi, hb, hk⟩; refine ⟨_, rfl, ?_⟩; have n0_ := Aside0.mk (Kd.R_lower ho0 (below_size (by repeat (first | (with_reducible first | exact HB.out | apply below_alloc | apply pw_below_drewN | apply below_drew1 | refine below_set ?_ (IsS75.ge HI251.out)) | exact HB.out)))); have n1_ := Aside0.mk (hb); have n2_ := Aside0.mk (hi); clear HB; clear HI251; have HO257 := n0_; have HB := n1_; have HI251 := n2_; clear n0_ n1_ n2_; (try clear hb); (try clear hb2); (try clear hk); (try clear hi); (try clear ho0)) | ((with_reducible refine gate_callee (f := 24) rfl ?_); refine goesL_ (some 28) rfl rfl Try.func24 (by kernel_rfl) rfl #[.pointer (some ⟨g251, 0, none⟩)] rfl (by (try simp only [List.map_toArray, List.map_cons, List.map_nil]); first | done | rfl | (simp only [List.length_drop, List.length_take]; rfl)) ?_; (with_reducible refine (vint_Source_Left.calls g251 t258 t259 t260 t261 t262 w _ ?side1 ?side2 A7.out).mono ?_); (case side1 => repeat (first | (with_reducible first | exact HI251.out | apply IsS75.alloc | apply IsS75.drewN | apply IsS75.drew | apply IsS75.set_0 | apply IsS75.set_1) | exact HI251.out)); (case side2 => repeat (first | (with_reducible first | exact HB.out | apply below_alloc | apply pw_below_drewN | apply below_drew1 | refine below_set ?_ (IsS75.ge HI251.out)) | exact HB.out)); rintro e w14 ⟨rfl, hi, hb, hk⟩; refine ⟨_, rfl, ?_⟩; have n0_ := Aside0.mk (Kd.R_mono (Kd.R_keep (IsS75.apart (show IsS75 w _ g251 t258 t259 from by repeat (first | (with_reducible first | exact HI251.out | apply IsS75.alloc | apply IsS75.drewN | apply IsS75.drew | apply IsS75.set_0 | apply IsS75.set_1) | exact HI251.out)) (by (with_reducible repeat (first | apply Kd.R_alloc | apply Kd.R_drewN | apply Kd.R_drew)); exact HO257.out) (by decide)) hk (fun _ h => h.2)) (fun _ h => h.1)); have n1_ := Aside0.mk (hb); have n2_ := Aside0.mk (hi); clear HO257; clear HB; clear HI251; have HO257 := n0_; have HB := n1_; have HI251 := n2_; clear n0_ n1_ n2_; (try clear hb); (try clear hb2); (try clear hk); (try clear hi)) | ((with_reducible refine gate_callee (f := 71) rfl ?_); refine goesL_ (some 29) rfl rfl Try.func71 (by kernel_rfl) rfl #[.pointer (some ⟨g251, 0, none⟩), .int .i64 t260] rfl (by (try simp only [List.map_toArray, List.map_cons, List.map_nil]); first | done | rfl | (simp only [List.length_drop, List.length_take]; rfl)) ?_; (with_reducible refine (vint_Source_Take.calls g251 t261 t262 t260 t263 t266 t267 w _ ?side1 ?side2 A8.out).mono ?_); (case side1 => repeat (first | (with_reducible first | exact HI251.out | apply IsS75.alloc | apply IsS75.drewN | apply IsS75.drew | apply IsS75.set_0 | apply IsS75.set_1) | exact HI251.out)); (case side2 => repeat (first | (with_reducible first | exact HB.out | apply below_alloc | apply pw_below_drewN | apply below_drew1 | refine below_set ?_ (IsS75.ge HI251.out)) | exact HB.out)); rintro e w15 ⟨v264, rfl, ho0, hi, hb, hk⟩; refine ⟨_, rfl, ?_⟩; have n0_ := Aside0.mk (Kd.R_mono (Kd.R_keep (IsS75.apart (show IsS75 w _ g251 t261 t262 from by repeat (first | (with_reducible first | exact HI251.out | apply IsS75.alloc | apply IsS75.drewN | apply IsS75.drew | apply IsS75.set_0 | apply IsS75.set_1) | exact HI251.out)) (by (with_reducible repeat (first | apply Kd.R_alloc | apply Kd.R_drewN | apply Kd.R_drew)); exact HO257.out) (by decide)) hk (fun _ h => h.2)) (fun _ h => h.1)); have n1_ := Aside0.mk (Kd.R_lower ho0 (below_size (by repeat (first | (with_reducible first | exact HB.out | apply below_alloc | apply pw_below_drewN | apply below_drew1 | refine below_set ?_ (IsS75.ge HI251.out)) | exact HB.out)))); have n2_ := Aside0.mk (hb); have n3_ := Aside0.mk (hi); clear HO257; clear HB; clear HI251; have HO257 := n0_; have HO265 := n1_; have HB := n2_; have HI251 := n3_; clear n0_ n1_ n2_ n3_; (try clear hb); (try clear hb2); (try clear hk); (try clear hi); (try clear ho0); obtain ⟨Ao16, co16, eo16⟩ := Kd.R_slice HO265.out; subst eo16) | ((with_reducible refine gate_callee (f := 12) rfl ?_); refine goesL_ (some 33) rfl rfl Try.func12 (by kernel_rfl) rfl #[.slice Ao16 t263.length co16, .int .i64 a1] rfl (by (try simp only [List.map_toArray, List.map_cons, List.map_nil]); first | done | rfl | (simp only [List.length_drop, List.length_take]; rfl)) ?_; (with_reducible refine (tight_Get.calls k _ _ t263 a1 t268 t269 _ ?side1 ?side2 A9.out).mono ?_); (case side1 => repeat (first | exact (Kd.R_reads' HO265.out).2.2 | (with_reducible refine Kd.C_alloc ?_ _) | (with_reducible refine Kd.C_drewN ?_ _) | (with_reducible refine Kd.C_drew ?_))); (case side2 => exact (Kd.R_reads' HO265.out).2.1); rintro e w17 ⟨v270, rfl, ho0, hb⟩; refine ⟨_, rfl, ?_⟩; have n0_ := Aside0.mk (Kd.R_below (by (with_reducible repeat (first | apply Kd.R_alloc | apply Kd.R_drewN | apply Kd.R_drew)); exact HO257.out) hb); have n1_ := Aside0.mk (Kd.R_below (by (with_reducible repeat (first | apply Kd.R_alloc | apply Kd.R_drewN | apply Kd.R_drew)); exact HO265.out) hb); have n2_ := Aside0.mk (Kd.R_lower ho0 (below_size (by repeat (first | (with_reducible first | exact HB.out | apply below_alloc | apply pw_below_drewN | apply below_drew1 | refine below_set ?_ (IsS75.ge HI251.out)) | exact HB.out)))); have n3_ := Aside0.mk (IsS75.below (by repeat (first | (with_reducible first | exact HI251.out | apply IsS75.alloc | apply IsS75.drewN | apply IsS75.drew | apply IsS75.set_0 | apply IsS75.set_1) | exact HI251.out)) hb); have n4_ := Aside0.mk (below_step (by repeat (first | (with_reducible first | exact HB.out | apply below_alloc | apply pw_below_drewN | apply below_drew1 | refine below_set ?_ (IsS75.ge HI251.out)) | exact HB.out)) hb); clear HO257; clear HO265; clear HI251; clear HB; have HO257 := n0_; have HO265 := n1_; have HO271 := n2_; have HI251 := n3_; have HB := n4_; clear n0_ n1_ n2_ n3_ n4_; (try clear hb); (try clear hb2); (try clear hk); (try clear hi); (try clear ho0)))
  (try simp only [Act.put, List.setIfInBounds_toArray, List.set_cons_zero, List.set_cons_succ])
  go_cut [42] (fun v42 wc => ∃ (kq : Nat) (x42_9 : Bool), v42 = .bool x42_9 ∧ Aside0 (dict_Get.j0 kq l0 t255 t268 x42_9 = some (r1, r2)) ∧ Aside0 (kq ≤ k) ∧ Aside0 (Kd.R Kd.string 9 wc w.heap.size (fun _ => True) v256 t255) ∧ Aside0 (Kd.R (Kd.int .i64) 2 wc w.heap.size (fun _ => True) v270 t268) ∧ Aside0 (Below w.heap.size w wc))
  case first =>
    have H := HC10.out
    clear HC10
    replace H := Option.bind_eq_some_iff.mp H
    obtain ⟨⟨t272, t273, t274⟩, A180, H⟩ := H
    replace H : (if t272 = true then (dict_Get.j0 k l0 t255 t268 (!t269)) else (dict_Get.j0 k l0 t255 t268 true)) = some (r1, r2) := H
    have A18 := Aside0.mk A180
    clear A180
    by_cases c19 : t272 = true
    · subst c19
      have H1 : (dict_Get.j0 k l0 t255 t268 (!t269)) = some (r1, r2) := by rw [if_pos rfl] at H; exact H
      clear H
      have H := H1
      clear H1
      have H' := Aside0.mk H
      clear H
      go_wp2_with (first | ((with_reducible refine gate_callee (f := 23) rfl ?_); refine goesL_ (some 37) rfl rfl Try.func23 (by kernel_rfl) rfl #[.pointer (some ⟨g251, 0, none⟩)] rfl (by (try simp only [List.map_toArray, List.map_cons, List.map_nil]); first | done | rfl | (simp only [List.length_drop, List.length_take]; rfl)) ?_; (with_reducible refine (vint_Source_Ok.calls g251 t266 t267 true t273 t274 w _ ?side1 ?side2 A18.out).mono ?_); (case side1 => repeat (first | (with_reducible first | exact HI251.out | apply IsS75.alloc | apply IsS75.drewN | apply IsS75.drew | apply IsS75.set_0 | apply IsS75.set_1) | exact HI251.out)); (case side2 => repeat (first | (with_reducible first | exact HB.out | apply below_alloc | apply pw_below_drewN | apply below_drew1 | refine below_set ?_ (IsS75.ge HI251.out)) | exact HB.out)); rintro e w20 ⟨rfl, hi, hb, hk⟩; refine ⟨_, rfl, ?_⟩; have n0_ := Aside0.mk (Kd.R_mono (Kd.R_keep (IsS75.apart (show IsS75 w _ g251 t266 t267 from by repeat (first | (with_reducible first | exact HI251.out | apply IsS75.alloc | apply IsS75.drewN | apply IsS75.drew | apply IsS75.set_0 | apply IsS75.set_1) | exact HI251.out)) (by (with_reducible repeat (first | apply Kd.R_alloc | apply Kd.R_drewN | apply Kd.R_drew)); exact HO257.out) (by decide)) hk (fun _ h => h.2)) (fun _ h => h.1)); have n1_ := Aside0.mk (Kd.R_mono (Kd.R_keep (IsS75.apart (show IsS75 w _ g251 t266 t267 from by repeat (first | (with_reducible first | exact HI251.out | apply IsS75.alloc | apply IsS75.drewN | apply IsS75.drew | apply IsS75.set_0 | apply IsS75.set_1) | exact HI251.out)) (by (with_reducible repeat (first | apply Kd.R_alloc | apply Kd.R_drewN | apply Kd.R_drew)); exact HO265.out) (by decide)) hk (fun _ h => h.2)) (fun _ h => h.1)); have n2_ := Aside0.mk (Kd.R_mono (Kd.R_keep (IsS75.apart (show IsS75 w _ g251 t266 t267 from by repeat (first | (with_reducible first | exact HI251.out | apply IsS75.alloc | apply IsS75.drewN | apply IsS75.drew | apply IsS75.set_0 | apply IsS75.set_1) | exact HI251.out)) (by (with_reducible repeat (first | apply Kd.R_alloc | apply Kd.R_drewN | apply Kd.R_drew)); exact HO271.out) (by decide)) hk (fun _ h => h.2)) (fun _ h => h.1)); have n3_ := Aside0.mk (hb); have n4_ := Aside0.mk (hi); clear HO257; clear HO265; clear HO271; clear HB; clear HI251; have HO257 := n0_; have HO265 := n1_; have HO271 := n2_; have HB := n3_; have HI251 := n4_; clear n0_ n1_ n2_ n3_ n4_; (try clear hb); (try clear hb2); (try clear hk); (try clear hi)))
      go_meet
      case rel => exact ⟨_, (!t269), (by first | rfl | (simp; done) | (simp [*]; done)), H', ⟨by first | omega | exact Nat.le_refl _⟩, ⟨by (with_reducible repeat (first | apply Kd.R_alloc | apply Kd.R_drewN | apply Kd.R_drew)); exact HO257.out⟩, ⟨by (with_reducible repeat (first | apply Kd.R_alloc | apply Kd.R_drewN | apply Kd.R_drew)); exact HO271.out⟩, ⟨by repeat (first | (with_reducible first | exact HB.out | apply below_alloc | apply pw_below_drewN | apply below_drew1 | refine below_set ?_ (IsS75.ge HI251.out)) | exact HB.out)⟩⟩
    · replace c19 := Bool.eq_false_iff.mpr c19
      subst c19
      have H1 : (dict_Get.j0 k l0 t255 t268 true) = some (r1, r2) := by rw [if_neg (show ¬ (false = true) by decide)] at H; exact H
      clear H
      have H := H1
      clear H1
      have H' := Aside0.mk H
      clear H
      go_wp2_with (first | ((with_reducible refine gate_callee (f := 23) rfl ?_); refine goesL_ (some 37) rfl rfl Try.func23 (by kernel_rfl) rfl #[.pointer (some ⟨g251, 0, none⟩)] rfl (by (try simp only [List.map_toArray, List.map_cons, List.map_nil]); first | done | rfl | (simp only [List.length_drop, List.length_take]; rfl)) ?_; (with_reducible refine (vint_Source_Ok.calls g251 t266 t267 false t273 t274 w _ ?side1 ?side2 A18.out).mono ?_); (case side1 => repeat (first | (with_reducible first | exact HI251.out | apply IsS75.alloc | apply IsS75.drewN | apply IsS75.drew | apply IsS75.set_0 | apply IsS75.set_1) | exact HI251.out)); (case side2 => repeat (first | (with_reducible first | exact HB.out | apply below_alloc | apply pw_below_drewN | apply below_drew1 | refine below_set ?_ (IsS75.ge HI251.out)) | exact HB.out)); rintro e w21 ⟨rfl, hi, hb, hk⟩; refine ⟨_, rfl, ?_⟩; have n0_ := Aside0.mk (Kd.R_mono (Kd.R_keep (IsS75.apart (show IsS75 w _ g251 t266 t267 from by repeat (first | (with_reducible first | exact HI251.out | apply IsS75.alloc | apply IsS75.drewN | apply IsS75.drew | apply IsS75.set_0 | apply IsS75.set_1) | exact HI251.out)) (by (with_reducible repeat (first | apply Kd.R_alloc | apply Kd.R_drewN | apply Kd.R_drew)); exact HO257.out) (by decide)) hk (fun _ h => h.2)) (fun _ h => h.1)); have n1_ := Aside0.mk (Kd.R_mono (Kd.R_keep (IsS75.apart (show IsS75 w _ g251 t266 t267 from by repeat (first | (with_reducible first | exact HI251.out | apply IsS75.alloc | apply IsS75.drewN | apply IsS75.drew | apply IsS75.set_0 | apply IsS75.set_1) | exact HI251.out)) (by (with_reducible repeat (first | apply Kd.R_alloc | apply Kd.R_drewN | apply Kd.R_drew)); exact HO265.out) (by decide)) hk (fun _ h => h.2)) (fun _ h => h.1)); have n2_ := Aside0.mk (Kd.R_mono (Kd.R_keep (IsS75.apart (show IsS75 w _ g251 t266 t267 from by repeat (first | (with_reducible first | exact HI251.out | apply IsS75.alloc | apply IsS75.drewN | apply IsS75.drew | apply IsS75.set_0 | apply IsS75.set_1) | exact HI251.out)) (by (with_reducible repeat (first | apply Kd.R_alloc | apply Kd.R_drewN | apply Kd.R_drew)); exact HO271.out) (by decide)) hk (fun _ h => h.2)) (fun _ h => h.1)); have n3_ := Aside0.mk (hb); have n4_ := Aside0.mk (hi); clear HO257; clear HO265; clear HO271; clear HB; clear HI251; have HO257 := n0_; have HO265 := n1_; have HO271 := n2_; have HB := n3_; have HI251 := n4_; clear n0_ n1_ n2_ n3_ n4_; (try clear hb); (try clear hb2); (try clear hk); (try clear hi)))
      go_meet
      case rel => exact ⟨_, (true), (by first | rfl | (simp; done) | (simp [*]; done)), H', ⟨by first | omega | exact Nat.le_refl _⟩, ⟨by (with_reducible repeat (first | apply Kd.R_alloc | apply Kd.R_drewN | apply Kd.R_drew)); exact HO257.out⟩, ⟨by (with_reducible repeat (first | apply Kd.R_alloc | apply Kd.R_drewN | apply Kd.R_drew)); exact HO271.out⟩, ⟨by repeat (first | (with_reducible first | exact HB.out | apply below_alloc | apply pw_below_drewN | apply below_drew1 | refine below_set ?_ (IsS75.ge HI251.out)) | exact HB.out)⟩⟩
  case rest =>
    clear HC10
    try clear c1
    try clear c2
    try clear p2
    try clear c3
    try clear c5
    try clear c6
    try clear p6
    try clear c7
    try clear c12
    try clear c19
    obtain ⟨kq, x42_9, rfl, HA, HJ9, HO_9, HO_11, HB⟩ := hcut
    cases kq with
    | zero => exact absurd HA.out (by simp [dict_Get.j0])
    | succ kj9 =>
      have H := HA.out
      clear HA
      simp only [dict_Get.j0] at H
      by_cases c22 : x42_9 = true
      · subst c22
        have H1 : (some (([] : List ByteArray), false)) = some (r1, r2) := by rw [if_pos rfl] at H; exact H
        clear H
        have H := H1
        clear H1
        simp only [Option.some.injEq, Prod.mk.injEq] at H
        obtain ⟨rfl, rfl⟩ := H
        go_wp2
        go_ret2
        exact ⟨_, by first | rfl | (simp [errW_none, errW_some] <;> rfl) | (simp [*, errW_none, errW_some] <;> rfl), by first | exact Kd.R_nil _ _ _ _ _ | exact Kd.N_nil _ _ _ _ _ | exact Kd.V_nil _ _ _ _ _ | exact Kd.Q_nil _ _ _ _ _ | exact Kd.S_nil _ _ _ _ _, by repeat (first | (with_reducible first | exact HB.out | apply below_alloc | apply pw_below_drewN | apply below_drew1) | exact HB.out)⟩
      · replace c22 := Bool.eq_false_iff.mpr c22
        subst c22
        have H1 : (if 0 ≤ (t268.length : Int) then (if ((t268.length : Int) : Int).toNat ≤ 17592186044416 then (dict_Get.l0 kj9 l0 t255 (List.replicate ((t268.length : Int) : Int).toNat (⟨#[]⟩ : ByteArray)) t268 (t268.length : Int) 0) else (none)) else (none)) = some (r1, r2) := by rw [if_neg (show ¬ (false = true) by decide)] at H; exact H
        clear H
        have H := H1
        clear H1
        by_cases c23 : 0 ≤ (t268.length : Int)
        · rw [if_pos c23] at H
          have c23b0 := eq_true c23
          have c23b1 : decide (0 ≤ (t268.length : Int)) = true := decide_eq_true c23
          clear c23
          by_cases c24 : ((t268.length : Int) : Int).toNat ≤ 17592186044416
          · rw [if_pos c24] at H
            have c24b0 := eq_true c24
            have c24b1 : decide (((t268.length : Int) : Int).toNat ≤ 17592186044416) = true := decide_eq_true c24
            clear c24
            obtain ⟨y275, hy275⟩ : ∃ y_ : List ByteArray, y_ = (List.replicate ((t268.length : Int) : Int).toNat (⟨#[]⟩ : ByteArray)) := ⟨_, rfl⟩
            replace H : (dict_Get.l0 kj9 l0 t255 y275 t268 (t268.length : Int) 0) = some (r1, r2) := by first | (rw [hy275]; with_reducible exact H) | (have H2_ := (Option.bind_some _ _).symm.trans H; rw [hy275]; with_reducible exact H2_) | (have H2_ := (Option.bind_some _ _).symm.trans H; with_reducible exact H2_) | with_reducible exact H | (rw [hy275]; exact H) | exact H
            have Ny275 := Aside0.mk hy275
            clear hy275
            have H' := Aside0.mk H
            clear H
            obtain ⟨Ao25, co25, eo25⟩ := Kd.R_slice HO_11.out
            subst eo25
            go_wp2_with (first | ((with_reducible refine gate_dst (N := 45) rfl ?_); (try (refine gate_guard (by rfl) ?_; dsimp only)); refine Kd.R_make Kd.string _ 9 rfl (N := 45) rfl 47 _ _ rfl (t268.length : Int) rfl rfl Try.underlying47 (.string ⟨#[]⟩) 16 info9 rfl (by decide) (by omega) (⟨#[]⟩ : ByteArray) (ok := fun _ => True) (okp := fun _ => True) rfl (fun _ hk => hk) trivial (of_decide_eq_true (by first | (with_reducible assumption) | assumption)) (Nat.le_trans (Nat.mul_le_mul_right _ (of_decide_eq_true (by first | (with_reducible assumption) | assumption) : (t268.length : Int).toNat ≤ 17592186044416)) (by omega)) (Below.refl _ _) (Nat.le_refl _) ?_; intro v276 w26 ho27 hb hg_ hnew_; clear hg_ hnew_; (first | rw [← Ny275.out] at ho27 | (simp only [Int.reduceToNat] at ho27; rw [← Ny275.out] at ho27)); have n0_ := Aside0.mk (Kd.R_elder' (by (with_reducible repeat (first | apply Kd.R_alloc | apply Kd.R_drewN | apply Kd.R_drew)); exact HO_9.out) (Kd.R_base ho27) hb); have n1_ := Aside0.mk (Kd.R_below (by (with_reducible repeat (first | apply Kd.R_alloc | apply Kd.R_drewN | apply Kd.R_drew)); exact HO_11.out) hb); have n2_ := Aside0.mk (Kd.R_lower (Kd.R_new' ho27 (Kd.R_lt (by (with_reducible repeat (first | apply Kd.R_alloc | apply Kd.R_drewN | apply Kd.R_drew)); exact HO_9.out))) (below_size (by repeat (first | (with_reducible first | exact HB.out | apply below_alloc | apply pw_below_drewN | apply below_drew1) | exact HB.out)))); have n3_ := Aside0.mk (below_step (by repeat (first | (with_reducible first | exact HB.out | apply below_alloc | apply pw_below_drewN | apply below_drew1) | exact HB.out)) hb); clear HO_9; clear HO_11; clear HB; have HO_9 := n0_; have HO_11 := n1_; have HO277 := n2_; have HB := n3_; clear n0_ n1_ n2_ n3_; clear hb ho27))
            go_loopg [48] kj9 (fun kq v48 w' => ∃ (x13_2 : List ByteArray) (x48_2 : Int), v48 = .int .i64 x48_2 ∧ Aside0 (dict_Get.l0 kq l0 t255 x13_2 t268 (t268.length : Int) x48_2 = some (r1, r2)) ∧ Aside0 (kq ≤ kj9) ∧ Aside0 (Kd.R Kd.string 9 w' w.heap.size (fun k_ => some k_ ≠ (v276 : Value).ownBlock) v256 t255) ∧ Aside0 (Kd.R Kd.string 9 w' w.heap.size (fun k_ => some k_ ≠ (v256 : Value).ownBlock) v276 x13_2) ∧ Aside0 (Kd.R (Kd.int .i64) 2 w' w.heap.size (fun _ => True) (.slice Ao25 t268.length co25) t268) ∧ Aside0 (Below w.heap.size w w'))
            case atStart => exact ⟨(y275), (0), (by first | rfl | (simp; done) | (simp [*]; done)), H', ⟨Nat.le_refl _⟩, ⟨by (with_reducible repeat (first | apply Kd.R_alloc | apply Kd.R_drewN | apply Kd.R_drew)); exact Kd.R_mono HO_9.out (fun _ hk => hk.2)⟩, ⟨by (with_reducible repeat (first | apply Kd.R_alloc | apply Kd.R_drewN | apply Kd.R_drew)); exact Kd.R_mono HO277.out (fun _ hk => hk.2)⟩, ⟨by (with_reducible repeat (first | apply Kd.R_alloc | apply Kd.R_drewN | apply Kd.R_drew)); exact HO_11.out⟩, ⟨by repeat (first | (with_reducible first | exact HB.out | apply below_alloc | apply pw_below_drewN | apply below_drew1) | exact HB.out)⟩⟩
            case round =>
              clear H'
              try clear c1
              try clear c2
              try clear p2
              try clear c3
              try clear c5
              try clear c6
              try clear p6
              try clear c7
              try clear c12
              try clear c19
              try clear c22
              try clear c23
              try clear c23b0
              try clear c23b1
              try clear c24
              try clear c24b0
              try clear c24b1
              try clear p2
              try clear p6
              obtain ⟨x13_2, x48_2, rfl, HA, HK2, HO_9, HO_13, HO_46, HB⟩ := hrel
              cases gk with
              | zero => exact absurd HA.out (by simp [dict_Get.l0])
              | succ k2 =>
                have H := HA.out
                clear HA
                simp only [dict_Get.l0] at H
                by_cases c28 : x48_2 < (t268.length : Int)
                · rw [if_pos c28] at H
                  have c28b0 : decide (x48_2 < (t268.length : Int)) = true := decide_eq_true c28
                  clear c28
                  by_cases c29 : 0 ≤ x48_2
                  · rw [if_pos c29] at H
                    have c29b0 : decide (0 ≤ x48_2) = true := decide_eq_true c29
                    clear c29
                    by_cases c30 : x48_2 < (t268.length : Int)
                    · rw [if_pos c30] at H
                      have c30b0 : decide (x48_2 < (t268.length : Int)) = true := decide_eq_true c30
                      clear c30
                      by_cases c31 : (rd t268 x48_2) < 0
                      · rw [if_pos c31] at H
                        have c31b0 : decide ((rd t268 x48_2) < 0) = true := decide_eq_true c31
                        clear c31
                        simp only [Option.some.injEq, Prod.mk.injEq] at H
                        obtain ⟨rfl, rfl⟩ := H
                        have p278 : 0 ≤ (x48_2 : Int) := of_decide_eq_true (by first | (with_reducible assumption) | assumption)
                        have q278 : x48_2 < (t268.length : Int) := of_decide_eq_true (by first | (with_reducible assumption) | assumption)
                        obtain ⟨ad278, e278, hx278_0⟩ := Kd.at_int (Kd.R_reads' HO_46.out).2.2 x48_2 p278 q278
                        cases e278
                        replace p278 := eq_true p278
                        replace q278 := eq_true q278
                        go_wp2
                        go_ret2
                        exact ⟨_, by first | rfl | (simp [errW_none, errW_some] <;> rfl) | (simp [*, errW_none, errW_some] <;> rfl), by first | exact Kd.R_nil _ _ _ _ _ | exact Kd.N_nil _ _ _ _ _ | exact Kd.V_nil _ _ _ _ _ | exact Kd.Q_nil _ _ _ _ _ | exact Kd.S_nil _ _ _ _ _, by repeat (first | (with_reducible first | exact HB.out | apply below_alloc | apply pw_below_drewN | apply below_drew1) | exact HB.out)⟩
                      · rw [if_neg c31] at H
                        have c31b0 : decide ((rd t268 x48_2) < 0) = false := decide_eq_false c31
                        clear c31
                        by_cases c32 : (rd t268 x48_2) ≥ (t255.length : Int)
                        · rw [if_pos c32] at H
                          have c32b0 : decide ((t255.length : Int) ≤ (rd t268 x48_2)) = true := decide_eq_true c32
                          clear c32
                          simp only [Option.some.injEq, Prod.mk.injEq] at H
                          obtain ⟨rfl, rfl⟩ := H
                          have p278 : 0 ≤ (x48_2 : Int) := of_decide_eq_true (by first | (with_reducible assumption) | assumption)
                          have q278 : x48_2 < (t268.length : Int) := of_decide_eq_true (by first | (with_reducible assumption) | assumption)
                          obtain ⟨ad278, e278, hx278_0⟩ := Kd.at_int (Kd.R_reads' HO_46.out).2.2 x48_2 p278 q278
                          cases e278
                          replace p278 := eq_true p278
                          replace q278 := eq_true q278
                          obtain ⟨Ao33, co33, eo33⟩ := Kd.R_slice HO_9.out
                          subst eo33
                          go_wp2
                          go_ret2
                          exact ⟨_, by first | rfl | (simp [errW_none, errW_some] <;> rfl) | (simp [*, errW_none, errW_some] <;> rfl), by first | exact Kd.R_nil _ _ _ _ _ | exact Kd.N_nil _ _ _ _ _ | exact Kd.V_nil _ _ _ _ _ | exact Kd.Q_nil _ _ _ _ _ | exact Kd.S_nil _ _ _ _ _, by repeat (first | (with_reducible first | exact HB.out | apply below_alloc | apply pw_below_drewN | apply below_drew1) | exact HB.out)⟩
                        · rw [if_neg c32] at H
                          have c32b0 : decide ((t255.length : Int) ≤ (rd t268 x48_2)) = false := decide_eq_false c32
                          clear c32
                          by_cases c34 : 0 ≤ (rd t268 x48_2)
                          · rw [if_pos c34] at H
                            have c34b0 : decide (0 ≤ (rd t268 x48_2)) = true := decide_eq_true c34
                            clear c34
                            by_cases c35 : (rd t268 x48_2) < (t255.length : Int)
                            · rw [if_pos c35] at H
                              have c35b0 : decide ((rd t268 x48_2) < (t255.length : Int)) = true := decide_eq_true c35
                              clear c35
                              by_cases c36 : x48_2 < (x13_2.length : Int)
                              · rw [if_pos c36] at H
                                have c36b0 : decide (x48_2 < (x13_2.length : Int)) = true := decide_eq_true c36
                                clear c36
                                obtain ⟨y280, hy280⟩ : ∃ y_ : List ByteArray, y_ = (x13_2.set (x48_2 : Int).toNat (rdOf ByteArray.empty t255 (rd t268 x48_2))) := ⟨_, rfl⟩
                                replace H : (dict_Get.l0 k2 l0 t255 y280 t268 (t268.length : Int) (wrap64 (x48_2 + 1))) = some (r1, r2) := by first | (rw [hy280]; with_reducible exact H) | (have H2_ := (Option.bind_some _ _).symm.trans H; rw [hy280]; with_reducible exact H2_) | (have H2_ := (Option.bind_some _ _).symm.trans H; with_reducible exact H2_) | with_reducible exact H | (rw [hy280]; exact H) | exact H
                                have Ny280 := Aside0.mk hy280
                                clear hy280
                                have H' := Aside0.mk H
                                clear H
                                have p278 : 0 ≤ (x48_2 : Int) := of_decide_eq_true (by first | (with_reducible assumption) | assumption)
                                have q278 : x48_2 < (t268.length : Int) := of_decide_eq_true (by first | (with_reducible assumption) | assumption)
                                obtain ⟨ad278, e278, hx278_0⟩ := Kd.at_int (Kd.R_reads' HO_46.out).2.2 x48_2 p278 q278
                                cases e278
                                replace p278 := eq_true p278
                                replace q278 := eq_true q278
                                obtain ⟨Ao38, co38, eo38⟩ := Kd.R_slice HO_9.out
                                subst eo38
                                have p279 : 0 ≤ ((rd t268 x48_2) : Int) := of_decide_eq_true (by first | (with_reducible assumption) | assumption)
                                have q279 : (rd t268 x48_2) < (t255.length : Int) := of_decide_eq_true (by first | (with_reducible assumption) | assumption)
                                obtain ⟨ad279, e279, hx279_0⟩ := Kd.at_string (Kd.R_reads' HO_9.out).2.2 (rd t268 x48_2) p279 q279
                                cases e279
                                replace p279 := eq_true p279
                                replace q279 := eq_true q279
                                have p37 : 0 ≤ (x48_2 : Int) := of_decide_eq_true (by first | (with_reducible assumption) | assumption)
                                have q37 : (x48_2 : Int) < ((x13_2.length : Int) : Int) := of_decide_eq_true (by first | (with_reducible assumption) | assumption)
                                obtain ⟨go37, co37, eo37, gb37, gl37, cl37, HG37⟩ := Kd.R_form HO_13.out (by omega)
                                (first | cases eo37 | (injection eo37 with ea_ en_ ec_; (first | subst ea_ | (injection ea_ with ea_; subst ea_)); subst ec_; clear en_))
                                have GB37 := Aside0.mk gb37
                                have GG37 := Aside0.mk HG37
                                clear gb37 gl37 HG37
                                obtain ⟨hx37_0, hf37_0⟩ := Kd.R_celln (⟨#[]⟩ : ByteArray) HO_13.out (x48_2 : Int) p37 q37
                                replace p37 := eq_true p37
                                replace q37 := eq_true q37
                                have HP39 := Kd.R_putg HO_13.out (x48_2 : Int) (rdOf ByteArray.empty t255 (rd t268 x48_2))
                                go_wp2_with (first | ((with_reducible refine gate_store (t := 9) (p := 67) rfl ?_); refine store_event (t := 9) (p := 67) (v := ?vo_w40) (w1 := (wr.setCell ⟨go37, (x48_2 : Int).toNat, none⟩ (.string (rdOf ByteArray.empty t255 (rd t268 x48_2))))) ?hg ?ho ?hn ?hr ?_; (case ho => rfl); (case hg => rfl); (case hn => rfl); (case hr => first | (go_simp; done) | (go_simp; rfl)); intro w40 hw; have hg : wr.grownBy w40 (some go37) := (by rw [hw]; exact HP39.2); have hp_ : Kd.R Kd.string 9 w40 w.heap.size (fun k_ => some k_ ≠ (.slice (some ad279) t255.length co38 : Value).ownBlock) (.slice (some ⟨go37, 0, none⟩) x13_2.length co37) y280 := (by rw [hw, Ny280.out]; exact HP39.1); clear HP39; have n0_ := Aside0.mk (Kd.R_after (v := (.slice (some ⟨go37, 0, none⟩) x13_2.length co37)) (v1 := (.slice (some ⟨go37, 0, none⟩) x13_2.length co37)) (ok := (fun _ => True)) (by (with_reducible repeat (first | apply Kd.R_alloc | apply Kd.R_drewN | apply Kd.R_drew)); exact Kd.R_mono HO_9.out (fun _ hk => ⟨trivial, hk⟩)) hg (.inl rfl)); have n1_ := Aside0.mk (hp_); have n2_ := Aside0.mk (Kd.R_over' (v := (.slice (some ⟨go37, 0, none⟩) x13_2.length co37)) (by (with_reducible repeat (first | apply Kd.R_alloc | apply Kd.R_drewN | apply Kd.R_drew)); exact HO_46.out) (Kd.R_typed HO_13.out) (by decide) hg); have n3_ := Aside0.mk ((by rw [hw]; exact below_set (HB.out) GB37.out : Below w.heap.size w w40)); clear HO_9; clear HO_13; clear HO_46; clear HB; have HO_9 := n0_; have HO_13 := n1_; have HO_46 := n2_; have HB := n3_; clear n0_ n1_ n2_ n3_; clear hg hw hp_))
                                go_roundg k2
                                case measure => have := HJ9.out; have := HK2.out; omega
                                case rel => exact ⟨(y280), (wrap64 (x48_2 + 1)), (by first | rfl | (simp; done) | (simp [*]; done)), H', ⟨by have := HJ9.out; have := HK2.out; omega⟩, ⟨by (with_reducible repeat (first | apply Kd.R_alloc | apply Kd.R_drewN | apply Kd.R_drew)); exact Kd.R_mono HO_9.out (fun _ hk => hk.2)⟩, ⟨by (with_reducible repeat (first | apply Kd.R_alloc | apply Kd.R_drewN | apply Kd.R_drew)); exact HO_13.out⟩, ⟨by (with_reducible repeat (first | apply Kd.R_alloc | apply Kd.R_drewN | apply Kd.R_drew)); exact HO_46.out⟩, ⟨by repeat (first | (with_reducible first | exact HB.out | apply below_alloc | apply pw_below_drewN | apply below_drew1) | exact HB.out)⟩⟩
                              · rw [if_neg c36] at H
                                exact absurd H (by simp)
                            · rw [if_neg c35] at H
                              exact absurd H (by simp)
                          · rw [if_neg c34] at H
                            exact absurd H (by simp)
                    · rw [if_neg c30] at H
                      exact absurd H (by simp)
                  · rw [if_neg c29] at H
                    exact absurd H (by simp)
                · rw [if_neg c28] at H
                  have c28b0 : decide (x48_2 < (t268.length : Int)) = false := decide_eq_false c28
                  clear c28
                  replace H := Option.bind_eq_some_iff.mp H
                  obtain ⟨t281, A410, H⟩ := H
                  replace H : ((bytes_Equal.f t281 l0).bind fun t284 => (if t284 = true then (some (x13_2, true)) else (some (([] : List ByteArray), false)))) = some (r1, r2) := H
                  have A41 := Aside0.mk A410
                  clear A410
                  replace H := Option.bind_eq_some_iff.mp H
                  obtain ⟨t284, A420, H⟩ := H
                  replace H : (if t284 = true then (some (x13_2, true)) else (some (([] : List ByteArray), false))) = some (r1, r2) := H
                  have A42 := Aside0.mk A420
                  clear A420
                  by_cases c43 : t284 = true
                  · subst c43
                    have H1 : (some (x13_2, true)) = some (r1, r2) := by rw [if_pos rfl] at H; exact H
                    clear H
                    have H := H1
                    clear H1
                    simp only [Option.some.injEq, Prod.mk.injEq] at H
                    obtain ⟨rfl, rfl⟩ := H
                    obtain ⟨Ao44, co44, eo44⟩ := Kd.R_slice HO_13.out
                    subst eo44
                    go_wp2_with (first | ((with_reducible refine gate_callee (f := 38) rfl ?_); refine goesL_ (some 70) rfl rfl Try.func38 (by kernel_rfl) rfl #[.slice Ao44 x13_2.length co44] rfl (by (try simp only [List.map_toArray, List.map_cons, List.map_nil]); first | done | rfl | (simp only [List.length_drop, List.length_take]; rfl)) ?_; (with_reducible refine (dict_Put.calls k2 _ _ x13_2 t281 _ ?side1 ?side2 A41.out).mono ?_); (case side1 => repeat (first | exact (Kd.R_reads' HO_13.out).2.2 | (with_reducible refine Kd.C_alloc ?_ _) | (with_reducible refine Kd.C_drewN ?_ _) | (with_reducible refine Kd.C_drew ?_))); (case side2 => exact (Kd.R_reads' HO_13.out).2.1); rintro e w45 ⟨v282, rfl, ho0, hb⟩; refine ⟨_, rfl, ?_⟩; have n0_ := Aside0.mk (Kd.R_below (by (with_reducible repeat (first | apply Kd.R_alloc | apply Kd.R_drewN | apply Kd.R_drew)); exact HO_9.out) hb); have n1_ := Aside0.mk (Kd.R_below (by (with_reducible repeat (first | apply Kd.R_alloc | apply Kd.R_drewN | apply Kd.R_drew)); exact HO_13.out) hb); have n2_ := Aside0.mk (Kd.R_below (by (with_reducible repeat (first | apply Kd.R_alloc | apply Kd.R_drewN | apply Kd.R_drew)); exact HO_46.out) hb); have n3_ := Aside0.mk (Kd.R_lower ho0 (below_size (by repeat (first | (with_reducible first | exact HB.out | apply below_alloc | apply pw_below_drewN | apply below_drew1) | exact HB.out)))); have n4_ := Aside0.mk (below_step (by repeat (first | (with_reducible first | exact HB.out | apply below_alloc | apply pw_below_drewN | apply below_drew1) | exact HB.out)) hb); clear HO_9; clear HO_13; clear HO_46; clear HB; have HO_9 := n0_; have HO_13 := n1_; have HO_46 := n2_; have HO283 := n3_; have HB := n4_; clear n0_ n1_ n2_ n3_ n4_; (try clear hb); (try clear hb2); (try clear hk); (try clear hi); (try clear ho0); obtain ⟨Ao46, co46, eo46⟩ := Kd.R_slice HO283.out; subst eo46) | ((with_reducible refine gate_callee (f := 49) rfl ?_); refine goesL_ (some 72) rfl rfl Try.func49 (by kernel_rfl) rfl #[.slice Ao46 t281.length co46, .slice A0 l0.length c0] rfl (by (try simp only [List.map_toArray, List.map_cons, List.map_nil]); first | done | rfl | (simp only [List.length_drop, List.length_take]; rfl)) ?_; (with_reducible refine (bytes_Equal.calls _ _ t281 _ _ l0 true _ ?side1 ?side2 ?side3 ?side4 A42.out).mono ?_); (case side1 => repeat (first | exact (Kd.R_reads' HO283.out).2.2 | (with_reducible refine Kd.C_alloc ?_ _) | (with_reducible refine Kd.C_drewN ?_ _) | (with_reducible refine Kd.C_drew ?_))); (case side2 => exact (Kd.R_reads' HO283.out).2.1); (case side3 => repeat (first | exact (Kd.C_below HR0.out HB.out) | (with_reducible refine Kd.C_alloc ?_ _) | (with_reducible refine Kd.C_drewN ?_ _) | (with_reducible refine Kd.C_drew ?_))); (case side4 => exact HC0.out); rintro e w' ⟨rfl, ⟨nd, rfl⟩⟩; refine ⟨_, rfl, ?_⟩))
                    go_ret2
                    exact ⟨_, by first | rfl | (simp [errW_none, errW_some] <;> rfl) | (simp [*, errW_none, errW_some] <;> rfl), by (with_reducible repeat (first | apply Kd.R_alloc | apply Kd.R_drewN | apply Kd.R_drew)); exact Kd.R_mono HO_13.out (fun _ hk => trivial), by repeat (first | (with_reducible first | exact HB.out | apply below_alloc | apply pw_below_drewN | apply below_drew1) | exact HB.out)⟩
                  · replace c43 := Bool.eq_false_iff.mpr c43
                    subst c43
                    have H1 : (some (([] : List ByteArray), false)) = some (r1, r2) := by rw [if_neg (show ¬ (false = true) by decide)] at H; exact H
                    clear H
                    have H := H1
                    clear H1
                    simp only [Option.some.injEq, Prod.mk.injEq] at H
                    obtain ⟨rfl, rfl⟩ := H
                    obtain ⟨Ao47, co47, eo47⟩ := Kd.R_slice HO_13.out
                    subst eo47
                    go_wp2_with (first | ((with_reducible refine gate_callee (f := 38) rfl ?_); refine goesL_ (some 70) rfl rfl Try.func38 (by kernel_rfl) rfl #[.slice Ao47 x13_2.length co47] rfl (by (try simp only [List.map_toArray, List.map_cons, List.map_nil]); first | done | rfl | (simp only [List.length_drop, List.length_take]; rfl)) ?_; (with_reducible refine (dict_Put.calls k2 _ _ x13_2 t281 _ ?side1 ?side2 A41.out).mono ?_); (case side1 => repeat (first | exact (Kd.R_reads' HO_13.out).2.2 | (with_reducible refine Kd.C_alloc ?_ _) | (with_reducible refine Kd.C_drewN ?_ _) | (with_reducible refine Kd.C_drew ?_))); (case side2 => exact (Kd.R_reads' HO_13.out).2.1); rintro e w48 ⟨v282, rfl, ho0, hb⟩; refine ⟨_, rfl, ?_⟩; have n0_ := Aside0.mk (Kd.R_below (by (with_reducible repeat (first | apply Kd.R_alloc | apply Kd.R_drewN | apply Kd.R_drew)); exact HO_9.out) hb); have n1_ := Aside0.mk (Kd.R_below (by (with_reducible repeat (first | apply Kd.R_alloc | apply Kd.R_drewN | apply Kd.R_drew)); exact HO_13.out) hb); have n2_ := Aside0.mk (Kd.R_below (by (with_reducible repeat (first | apply Kd.R_alloc | apply Kd.R_drewN | apply Kd.R_drew)); exact HO_46.out) hb); have n3_ := Aside0.mk (Kd.R_lower ho0 (below_size (by repeat (first | (with_reducible first | exact HB.out | apply below_alloc | apply pw_below_drewN | apply below_drew1) | exact HB.out)))); have n4_ := Aside0.mk (below_step (by repeat (first | (with_reducible first | exact HB.out | apply below_alloc | apply pw_below_drewN | apply below_drew1) | exact HB.out)) hb); clear HO_9; clear HO_13; clear HO_46; clear HB; have HO_9 := n0_; have HO_13 := n1_; have HO_46 := n2_; have HO283 := n3_; have HB := n4_; clear n0_ n1_ n2_ n3_ n4_; (try clear hb); (try clear hb2); (try clear hk); (try clear hi); (try clear ho0); obtain ⟨Ao49, co49, eo49⟩ := Kd.R_slice HO283.out; subst eo49) | ((with_reducible refine gate_callee (f := 49) rfl ?_); refine goesL_ (some 72) rfl rfl Try.func49 (by kernel_rfl) rfl #[.slice Ao49 t281.length co49, .slice A0 l0.length c0] rfl (by (try simp only [List.map_toArray, List.map_cons, List.map_nil]); first | done | rfl | (simp only [List.length_drop, List.length_take]; rfl)) ?_; (with_reducible refine (bytes_Equal.calls _ _ t281 _ _ l0 false _ ?side1 ?side2 ?side3 ?side4 A42.out).mono ?_); (case side1 => repeat (first | exact (Kd.R_reads' HO283.out).2.2 | (with_reducible refine Kd.C_alloc ?_ _) | (with_reducible refine Kd.C_drewN ?_ _) | (with_reducible refine Kd.C_drew ?_))); (case side2 => exact (Kd.R_reads' HO283.out).2.1); (case side3 => repeat (first | exact (Kd.C_below HR0.out HB.out) | (with_reducible refine Kd.C_alloc ?_ _) | (with_reducible refine Kd.C_drewN ?_ _) | (with_reducible refine Kd.C_drew ?_))); (case side4 => exact HC0.out); rintro e w' ⟨rfl, ⟨nd, rfl⟩⟩; refine ⟨_, rfl, ?_⟩))
                    go_ret2
                    exact ⟨_, by first | rfl | (simp [errW_none, errW_some] <;> rfl) | (simp [*, errW_none, errW_some] <;> rfl), by first | exact Kd.R_nil _ _ _ _ _ | exact Kd.N_nil _ _ _ _ _ | exact Kd.V_nil _ _ _ _ _ | exact Kd.Q_nil _ _ _ _ _ | exact Kd.S_nil _ _ _ _ _, by repeat (first | (with_reducible first | exact HB.out | apply below_alloc | apply pw_below_drewN | apply below_drew1) | exact HB.out)⟩
          · rw [if_neg c24] at H
            exact absurd H (by simp)
        · rw [if_neg c23] at H
          exact absurd H (by simp)

/-! ### firkinref07_need: function 50 -/
def firkinref07_need.l0 : Nat → Int → Int → Option (Int)
  | 0, _, _ => none
  | k + 1, x0, x3 => if x0 > 0 then (firkinref07_need.l0 k (IntKind.u64.wrap (Int.tdiv x0 2)) (wrap64 (x3 + 1))) else (some x3)
def firkinref07_need.f (k : Nat) (a0 : Int) : Option (Int) := firkinref07_need.l0 k a0 0
theorem firkinref07_need.mono_l : ∀ k, (∀ y0 y1, LeO (firkinref07_need.l0 k y0 y1) (firkinref07_need.l0 (k + 1) y0 y1))
  | 0 => fun _ _ r h => by simp [firkinref07_need.l0] at h
  | k + 1 => by
    have ih0 := firkinref07_need.mono_l k
    · intro y0 y1
      unfold firkinref07_need.l0
      repeat' first
      | (with_reducible exact ih0 _ _)
      | (with_reducible exact LeO.refl _)
      | (with_reducible exact LeO.none _)
      | (with_reducible refine LeO.ite ?_ ?_)
      | (with_reducible refine LeO.bind ?_ (fun _ => ?_))
      | exact ih0 _ _
      | exact LeO.none _
      | refine LeO.ite ?_ ?_
      | refine LeO.bind ?_ (fun _ => ?_)
theorem firkinref07_need.mono : ∀ a0 k, LeO (firkinref07_need.f k a0) (firkinref07_need.f (k + 1) a0) := by
  intro a0 k
  have ih0 := firkinref07_need.mono_l k
  unfold firkinref07_need.f
  repeat' first
      | (with_reducible exact ih0 _ _)
      | (with_reducible exact LeO.refl _)
      | (with_reducible exact LeO.none _)
      | (with_reducible refine LeO.ite ?_ ?_)
      | (with_reducible refine LeO.bind ?_ (fun _ => ?_))
      | exact ih0 _ _
      | exact LeO.none _
      | refine LeO.ite ?_ ?_
      | refine LeO.bind ?_ (fun _ => ?_)
set_option maxHeartbeats 8000000 in
set_option maxRecDepth 100000 in
theorem firkinref07_need.calls (k : Nat) (a0 : Int) (r : Int) (w : World) (h : firkinref07_need.f k a0 = some r) :
    Calls Try.prog 50 #[.int .u64 a0] w fun e w' => e = .returned (.int .i64 r) ∧ Drawn0 w w' := by
  have H : (firkinref07_need.l0 k a0 0) = some r := h
  clear h
  have H' := Aside0.mk H
  clear H
  go_enter Try.func50, Try.ntmps50
  go_wp2
  go_loopg [0, 3] k (fun kq v0 v3 w' => ∃ (x0_1 : Int) (x3_1 : Int), v0 = .int .u64 x0_1 ∧ v3 = .int .i64 x3_1 ∧ Aside0 (firkinref07_need.l0 kq x0_1 x3_1 = some r) ∧ Aside0 (kq ≤ k) ∧ Drawn0 w w')
  case atStart => exact ⟨(a0), (0), (by first | rfl | (simp; done) | (simp [*]; done)), (by first | rfl | (simp; done) | (simp [*]; done)), H', ⟨Nat.le_refl _⟩, by repeat (first | exact Drawn0.refl _ | apply Drawn0.step)⟩
  case round =>
    clear H'
    obtain ⟨x0_1, x3_1, rfl, rfl, HA, HK1, ⟨m1, rfl⟩⟩ := hrel
    cases gk with
    | zero => exact absurd HA.out (by simp [firkinref07_need.l0])
    | succ k1 =>
      have H := HA.out
      clear HA
      simp only [firkinref07_need.l0] at H
      by_cases c2 : x0_1 > 0
      · rw [if_pos c2] at H
        have c2b0 : decide (0 < x0_1) = true := decide_eq_true c2
        clear c2
        have H' := Aside0.mk H
        clear H
        go_wp2
        go_roundg k1
        case measure => have := HK1.out; omega
        case rel => exact ⟨(IntKind.u64.wrap (Int.tdiv x0_1 2)), (wrap64 (x3_1 + 1)), (by first | rfl | (simp; done) | (simp [*]; done)), (by first | rfl | (simp; done) | (simp [*]; done)), H', ⟨by have := HK1.out; omega⟩, by repeat (first | exact Drawn0.refl _ | apply Drawn0.step)⟩
      · rw [if_neg c2] at H
        have c2b0 : decide (0 < x0_1) = false := decide_eq_false c2
        clear c2
        obtain rfl := Option.some.inj H
        go_wp2
        go_ret
        exact ⟨by first | rfl | (simp; done) | (simp [*]; done), by repeat (first | exact Drawn0.refl _ | apply Drawn0.step)⟩

/-! ### firkinref01_Num: function 66 -/
def firkinref01_Num.l0 : Nat → Int → List Int → Option (List Int)
  | 0, _, _ => none
  | k + 1, x0, x3 => if x0 > 127 then (if x3.length < 140737488355328 then (firkinref01_Num.l0 k (IntKind.u64.wrap (Int.tdiv x0 128)) (x3 ++ [(IntKind.u64.wrap ((Int.tmod x0 128) + 128)) % 256])) else (none)) else (if x3.length < 140737488355328 then (some (x3 ++ [(x0) % 256])) else (none))
def firkinref01_Num.f (k : Nat) (a0 : Int) : Option (List Int) := firkinref01_Num.l0 k a0 (([] : List Int))
theorem firkinref01_Num.mono_l : ∀ k, (∀ y0 y1, LeO (firkinref01_Num.l0 k y0 y1) (firkinref01_Num.l0 (k + 1) y0 y1))
  | 0 => fun _ _ r h => by simp [firkinref01_Num.l0] at h
  | k + 1 => by
    have ih0 := firkinref01_Num.mono_l k
    · intro y0 y1
      unfold firkinref01_Num.l0
      repeat' first
      | (with_reducible exact ih0 _ _)
      | (with_reducible exact LeO.refl _)
      | (with_reducible exact LeO.none _)
      | (with_reducible refine LeO.ite ?_ ?_)
      | (with_reducible refine LeO.bind ?_ (fun _ => ?_))
      | exact ih0 _ _
      | exact LeO.none _
      | refine LeO.ite ?_ ?_
      | refine LeO.bind ?_ (fun _ => ?_)
theorem firkinref01_Num.mono : ∀ a0 k, LeO (firkinref01_Num.f k a0) (firkinref01_Num.f (k + 1) a0) := by
  intro a0 k
  have ih0 := firkinref01_Num.mono_l k
  unfold firkinref01_Num.f
  repeat' first
      | (with_reducible exact ih0 _ _)
      | (with_reducible exact LeO.refl _)
      | (with_reducible exact LeO.none _)
      | (with_reducible refine LeO.ite ?_ ?_)
      | (with_reducible refine LeO.bind ?_ (fun _ => ?_))
      | exact ih0 _ _
      | exact LeO.none _
      | refine LeO.ite ?_ ?_
      | refine LeO.bind ?_ (fun _ => ?_)
set_option maxHeartbeats 8000000 in
set_option maxRecDepth 100000 in
theorem firkinref01_Num.calls (k : Nat) (a0 : Int) (r : List Int) (w : World) (h : firkinref01_Num.f k a0 = some r) :
    Calls Try.prog 66 #[.int .u64 a0] w fun e w' => ∃ v0_ : Value, e = .returned (v0_) ∧ Kd.R (Kd.int .u8) 5 w' w.heap.size (fun _ => True) v0_ r ∧ Below w.heap.size w w' := by
  have HB := Aside0.mk (Below.refl w.heap.size w)
  have H : (firkinref01_Num.l0 k a0 (([] : List Int))) = some r := h
  clear h
  obtain ⟨y285, hy285⟩ : ∃ y_ : List Int, y_ = (([] : List Int)) := ⟨_, rfl⟩
  replace H : (firkinref01_Num.l0 k a0 y285) = some r := by first | (rw [hy285]; with_reducible exact H) | (have H2_ := (Option.bind_some _ _).symm.trans H; rw [hy285]; with_reducible exact H2_) | (have H2_ := (Option.bind_some _ _).symm.trans H; with_reducible exact H2_) | with_reducible exact H | (rw [hy285]; exact H) | exact H
  have Ny285 := Aside0.mk hy285
  clear hy285
  have H' := Aside0.mk H
  clear H
  go_enter Try.func66, Try.ntmps66
  go_wp2_with (first | ((with_reducible refine gate_dst (N := 4) rfl ?_); refine Kd.R_lit (Kd.int .u8) _ 5 ?hg (N := 4) ?hd (xs := ([] : List Int)) (inner := []) (ok := fun _ => True) (okp := fun _ => True) ?hr ?hp (fun _ hk => hk) trivial (Below.refl _ _) (Nat.le_refl _) (by simp) ?_; (case hd => rfl); (case hg => rfl); (case hr => first | (go_simp; done) | (go_simp; rfl)); (case hp => exact (Reps.none _ _)); intro v286 w2 ho3 hb hg_ hnew_; clear hg_ hnew_; (first | rw [← Ny285.out] at ho3 | (simp only [Int.reduceToNat] at ho3; rw [← Ny285.out] at ho3)); have n0_ := Aside0.mk (Kd.R_lower ho3 (below_size (by repeat (first | (with_reducible first | exact HB.out | apply below_alloc | apply pw_below_drewN | apply below_drew1) | exact HB.out)))); have n1_ := Aside0.mk (below_step (by repeat (first | (with_reducible first | exact HB.out | apply below_alloc | apply pw_below_drewN | apply below_drew1) | exact HB.out)) hb); clear HB; have HO287 := n0_; have HB := n1_; clear n0_ n1_; clear hb ho3))
  go_loopg [0, 3] k (fun kq v0 v3 w' => ∃ (x0_1 : Int) (x3_1 : List Int), v0 = .int .u64 x0_1 ∧ Aside0 (firkinref01_Num.l0 kq x0_1 x3_1 = some r) ∧ Aside0 (kq ≤ k) ∧ Aside0 (Kd.R (Kd.int .u8) 5 w' w.heap.size (fun _ => True) v3 x3_1) ∧ Aside0 (Below w.heap.size w w'))
  case atStart => exact ⟨(a0), (y285), (by first | rfl | (simp; done) | (simp [*]; done)), H', ⟨Nat.le_refl _⟩, ⟨by (with_reducible repeat (first | apply Kd.R_alloc | apply Kd.R_drewN | apply Kd.R_drew)); exact HO287.out⟩, ⟨by repeat (first | (with_reducible first | exact HB.out | apply below_alloc | apply pw_below_drewN | apply below_drew1) | exact HB.out)⟩⟩
  case round =>
    clear H'
    try clear p2
    obtain ⟨x0_1, x3_1, rfl, HA, HK1, HO_3, HB⟩ := hrel
    cases gk with
    | zero => exact absurd HA.out (by simp [firkinref01_Num.l0])
    | succ k1 =>
      have H := HA.out
      clear HA
      simp only [firkinref01_Num.l0] at H
      by_cases c4 : x0_1 > 127
      · rw [if_pos c4] at H
        have c4b0 : decide (127 < x0_1) = true := decide_eq_true c4
        clear c4
        by_cases c5 : x3_1.length < 140737488355328
        · rw [if_pos c5] at H
          have LMc5 := Aside0.mk c5
          clear c5
          obtain ⟨y288, hy288⟩ : ∃ y_ : List Int, y_ = (x3_1 ++ [(IntKind.u64.wrap ((Int.tmod x0_1 128) + 128)) % 256]) := ⟨_, rfl⟩
          replace H : (firkinref01_Num.l0 k1 (IntKind.u64.wrap (Int.tdiv x0_1 128)) y288) = some r := by first | (rw [hy288]; with_reducible exact H) | (have H2_ := (Option.bind_some _ _).symm.trans H; rw [hy288]; with_reducible exact H2_) | (have H2_ := (Option.bind_some _ _).symm.trans H; with_reducible exact H2_) | with_reducible exact H | (rw [hy288]; exact H) | exact H
          have Ny288 := Aside0.mk hy288
          clear hy288
          have H' := Aside0.mk H
          clear H
          go_wp2_with (first | ((with_reducible refine gate_builtin (b := .append) (xs := #[.tmp 7, .tmp 12]) rfl ?_); at_builtin; refine Kd.R_append (Kd.int .u8) (w0 := w) w.heap.size rfl (.tmp 7) (.tmp 12) 24 5 (.int .u8 0) 1 rfl Try.underlying24 info5 rfl (by decide) (by omega) u3 x3_1 ((IntKind.u64.wrap ((Int.tmod x0_1 128) + 128)) % 256) [.int .u8 ((IntKind.u64.wrap ((Int.tmod x0_1 128) + 128)) % 256)] (fun _ => True) (fun _ => False) rfl rfl ?aP (fun _ hk => hk.elim) ?aF ?aO ?aB ?aS ?aL ?_; (case aP => exact rfl); (case aB => exact (by repeat (first | (with_reducible first | exact HB.out | apply below_alloc | apply pw_below_drewN | apply below_drew1) | exact HB.out))); (case aF => exact (fun _ _ => trivial)); (case aO => exact (by (with_reducible repeat (first | apply Kd.R_alloc | apply Kd.R_drewN | apply Kd.R_drew)); exact HO_3.out)); (case aS => exact (below_size (by repeat (first | (with_reducible first | exact HB.out | apply below_alloc | apply pw_below_drewN | apply below_drew1) | exact HB.out)))); (case aL => have := LMc5.out; omega); intro v289 w6 ho hb hg hat; rw [← Ny288.out] at ho; have n0_ := Aside0.mk (hb); have n1_ := Aside0.mk (ho); clear HB; clear HO_3; have HB := n0_; have HO290 := n1_; clear n0_ n1_; clear ho hb hg hat))
          go_roundg k1
          case measure => have := HK1.out; omega
          case rel => exact ⟨(IntKind.u64.wrap (Int.tdiv x0_1 128)), (y288), (by first | rfl | (simp; done) | (simp [*]; done)), H', ⟨by have := HK1.out; omega⟩, ⟨by (with_reducible repeat (first | apply Kd.R_alloc | apply Kd.R_drewN | apply Kd.R_drew)); exact HO290.out⟩, ⟨by repeat (first | (with_reducible first | exact HB.out | apply below_alloc | apply pw_below_drewN | apply below_drew1) | exact HB.out)⟩⟩
        · rw [if_neg c5] at H
          exact absurd H (by simp)
      · rw [if_neg c4] at H
        have c4b0 : decide (127 < x0_1) = false := decide_eq_false c4
        clear c4
        by_cases c7 : x3_1.length < 140737488355328
        · rw [if_pos c7] at H
          have LMc7 := Aside0.mk c7
          clear c7
          obtain ⟨y291, hy291⟩ : ∃ y_ : List Int, y_ = (x3_1 ++ [(x0_1) % 256]) := ⟨_, rfl⟩
          replace H : (some y291) = some r := by first | (rw [hy291]; with_reducible exact H) | (have H2_ := (Option.bind_some _ _).symm.trans H; rw [hy291]; with_reducible exact H2_) | (have H2_ := (Option.bind_some _ _).symm.trans H; with_reducible exact H2_) | with_reducible exact H | (rw [hy291]; exact H) | exact H
          have Ny291 := Aside0.mk hy291
          clear hy291
          obtain rfl := Option.some.inj H
          go_wp2_with (first | ((with_reducible refine gate_builtin (b := .append) (xs := #[.tmp 16, .tmp 19]) rfl ?_); at_builtin; refine Kd.R_append (Kd.int .u8) (w0 := w) w.heap.size rfl (.tmp 16) (.tmp 19) 24 5 (.int .u8 0) 1 rfl Try.underlying24 info5 rfl (by decide) (by omega) u3 x3_1 ((x0_1) % 256) [.int .u8 ((x0_1) % 256)] (fun _ => True) (fun _ => False) rfl rfl ?aP (fun _ hk => hk.elim) ?aF ?aO ?aB ?aS ?aL ?_; (case aP => exact rfl); (case aB => exact (by repeat (first | (with_reducible first | exact HB.out | apply below_alloc | apply pw_below_drewN | apply below_drew1) | exact HB.out))); (case aF => exact (fun _ _ => trivial)); (case aO => exact (by (with_reducible repeat (first | apply Kd.R_alloc | apply Kd.R_drewN | apply Kd.R_drew)); exact HO_3.out)); (case aS => exact (below_size (by repeat (first | (with_reducible first | exact HB.out | apply below_alloc | apply pw_below_drewN | apply below_drew1) | exact HB.out)))); (case aL => have := LMc7.out; omega); intro v292 w8 ho hb hg hat; rw [← Ny291.out] at ho; have n0_ := Aside0.mk (hb); have n1_ := Aside0.mk (ho); clear HB; clear HO_3; have HB := n0_; have HO293 := n1_; clear n0_ n1_; clear ho hb hg hat))
          go_ret
          exact ⟨_, by first | rfl | (simp [errW_none, errW_some] <;> rfl) | (simp [*, errW_none, errW_some] <;> rfl), by (with_reducible repeat (first | apply Kd.R_alloc | apply Kd.R_drewN | apply Kd.R_drew)); exact HO293.out, by repeat (first | (with_reducible first | exact HB.out | apply below_alloc | apply pw_below_drewN | apply below_drew1) | exact HB.out)⟩
        · rw [if_neg c7] at H
          exact absurd H (by simp)

/-! ### firkinref01_Int: function 51 -/
def firkinref01_Int.f (k : Nat) (a0 : Int) : Option (List Int) := if a0 < 0 then ((firkinref01_Num.f k (IntKind.u64.wrap ((IntKind.u64.wrap (2 * (IntKind.u64.wrap (-(IntKind.u64.wrap (a0)))))) - 1))).bind fun t294 => (some t294)) else ((firkinref01_Num.f k (IntKind.u64.wrap (2 * (IntKind.u64.wrap (a0))))).bind fun t297 => (some t297))
theorem firkinref01_Int.mono : ∀ a0 k, LeO (firkinref01_Int.f k a0) (firkinref01_Int.f (k + 1) a0) := by
  intro a0 k
  unfold firkinref01_Int.f
  repeat' first
      | (with_reducible exact firkinref01_Num.mono _ _)
      | (with_reducible exact LeO.refl _)
      | (with_reducible exact LeO.none _)
      | (with_reducible refine LeO.ite ?_ ?_)
      | (with_reducible refine LeO.bind ?_ (fun _ => ?_))
      | exact firkinref01_Num.mono _ _
      | exact LeO.none _
      | refine LeO.ite ?_ ?_
      | refine LeO.bind ?_ (fun _ => ?_)
set_option maxHeartbeats 8000000 in
set_option maxRecDepth 100000 in
theorem firkinref01_Int.calls (k : Nat) (a0 : Int) (r : List Int) (w : World) (h : firkinref01_Int.f k a0 = some r) :
    Calls Try.prog 51 #[.int .i64 a0] w fun e w' => ∃ v0_ : Value, e = .returned (v0_) ∧ Kd.R (Kd.int .u8) 5 w' w.heap.size (fun _ => True) v0_ r ∧ Below w.heap.size w w' := by
  have HB := Aside0.mk (Below.refl w.heap.size w)
  have H : (if a0 < 0 then ((firkinref01_Num.f k (IntKind.u64.wrap ((IntKind.u64.wrap (2 * (IntKind.u64.wrap (-(IntKind.u64.wrap (a0)))))) - 1))).bind fun t294 => (some t294)) else ((firkinref01_Num.f k (IntKind.u64.wrap (2 * (IntKind.u64.wrap (a0))))).bind fun t297 => (some t297))) = some r := h
  clear h
  by_cases c2 : a0 < 0
  · rw [if_pos c2] at H
    have c2b0 : decide (a0 < 0) = true := decide_eq_true c2
    clear c2
    replace H := Option.bind_eq_some_iff.mp H
    obtain ⟨t294, A30, H⟩ := H
    replace H : (some t294) = some r := H
    have A3 := Aside0.mk A30
    clear A30
    obtain rfl := Option.some.inj H
    go_enter Try.func51, Try.ntmps51
    go_wp2_with (first | ((with_reducible refine gate_callee (f := 66) rfl ?_); refine goesL_ (some 12) rfl rfl Try.func66 (by kernel_rfl) rfl #[.int .u64 (IntKind.u64.wrap ((IntKind.u64.wrap (2 * (IntKind.u64.wrap (-(IntKind.u64.wrap (a0)))))) - 1))] rfl (by (try simp only [List.map_toArray, List.map_cons, List.map_nil]); first | done | rfl | (simp only [List.length_drop, List.length_take]; rfl)) ?_; (with_reducible refine (firkinref01_Num.calls k (IntKind.u64.wrap ((IntKind.u64.wrap (2 * (IntKind.u64.wrap (-(IntKind.u64.wrap (a0)))))) - 1)) t294 _ A3.out).mono ?_); rintro e w4 ⟨v295, rfl, ho0, hb⟩; refine ⟨_, rfl, ?_⟩; have n0_ := Aside0.mk (Kd.R_lower ho0 (below_size (by repeat (first | (with_reducible first | exact HB.out | apply below_alloc | apply pw_below_drewN | apply below_drew1) | exact HB.out)))); have n1_ := Aside0.mk (below_step (by repeat (first | (with_reducible first | exact HB.out | apply below_alloc | apply pw_below_drewN | apply below_drew1) | exact HB.out)) hb); clear HB; have HO296 := n0_; have HB := n1_; clear n0_ n1_; (try clear hb); (try clear hb2); (try clear hk); (try clear hi); (try clear ho0)))
    go_ret
    exact ⟨_, by first | rfl | (simp [errW_none, errW_some] <;> rfl) | (simp [*, errW_none, errW_some] <;> rfl), by (with_reducible repeat (first | apply Kd.R_alloc | apply Kd.R_drewN | apply Kd.R_drew)); exact HO296.out, by repeat (first | (with_reducible first | exact HB.out | apply below_alloc | apply pw_below_drewN | apply below_drew1) | exact HB.out)⟩
  · rw [if_neg c2] at H
    have c2b0 : decide (a0 < 0) = false := decide_eq_false c2
    clear c2
    replace H := Option.bind_eq_some_iff.mp H
    obtain ⟨t297, A50, H⟩ := H
    replace H : (some t297) = some r := H
    have A5 := Aside0.mk A50
    clear A50
    obtain rfl := Option.some.inj H
    go_enter Try.func51, Try.ntmps51
    go_wp2_with (first | ((with_reducible refine gate_callee (f := 66) rfl ?_); refine goesL_ (some 15) rfl rfl Try.func66 (by kernel_rfl) rfl #[.int .u64 (IntKind.u64.wrap (2 * (IntKind.u64.wrap (a0))))] rfl (by (try simp only [List.map_toArray, List.map_cons, List.map_nil]); first | done | rfl | (simp only [List.length_drop, List.length_take]; rfl)) ?_; (with_reducible refine (firkinref01_Num.calls k (IntKind.u64.wrap (2 * (IntKind.u64.wrap (a0)))) t297 _ A5.out).mono ?_); rintro e w6 ⟨v298, rfl, ho0, hb⟩; refine ⟨_, rfl, ?_⟩; have n0_ := Aside0.mk (Kd.R_lower ho0 (below_size (by repeat (first | (with_reducible first | exact HB.out | apply below_alloc | apply pw_below_drewN | apply below_drew1) | exact HB.out)))); have n1_ := Aside0.mk (below_step (by repeat (first | (with_reducible first | exact HB.out | apply below_alloc | apply pw_below_drewN | apply below_drew1) | exact HB.out)) hb); clear HB; have HO299 := n0_; have HB := n1_; clear n0_ n1_; (try clear hb); (try clear hb2); (try clear hk); (try clear hi); (try clear ho0)))
    go_ret
    exact ⟨_, by first | rfl | (simp [errW_none, errW_some] <;> rfl) | (simp [*, errW_none, errW_some] <;> rfl), by (with_reducible repeat (first | apply Kd.R_alloc | apply Kd.R_drewN | apply Kd.R_drew)); exact HO299.out, by repeat (first | (with_reducible first | exact HB.out | apply below_alloc | apply pw_below_drewN | apply below_drew1) | exact HB.out)⟩

end Go.Proofs.Ytbbffnlefmogbaa.X
-- Printed for this claim by a program of this session (wip/xprint.py) over the kit's printer; Lean checks it.
namespace Go.Proofs.Ytbbffnlefmogbaa.X
open Go.RowKit Go.Proofs.YtbbffnlefmogbaaW.PrintWords Go.Proofs.YtbbffnlefmogbaaW.PrintLast Go.Proofs.YtbbffnlefmogbaaW.PrintMore
attribute [local go_sem] max2_int min2_int max_two min_two max_three min_three max_four min_four   -- for this text's walks alone
set_option linter.unusedVariables false
set_option linter.unusedSimpArgs false

/-! ### firkinref01_Text: function 67 -/
def firkinref01_Text.f (k : Nat) (a0 : ByteArray) : Option (List Int) := (firkinref01_Num.f k (IntKind.u64.wrap ((a0.size : Int)))).bind fun t326 => (if t326.length + a0.size < 140737488355328 then (some (t326 ++ bytesOf a0)) else (none))
theorem firkinref01_Text.mono : ∀ a0 k, LeO (firkinref01_Text.f k a0) (firkinref01_Text.f (k + 1) a0) := by
  intro a0 k
  unfold firkinref01_Text.f
  repeat' first
      | (with_reducible exact firkinref01_Num.mono _ _)
      | (with_reducible exact LeO.refl _)
      | (with_reducible exact LeO.none _)
      | (with_reducible refine LeO.ite ?_ ?_)
      | (with_reducible refine LeO.bind ?_ (fun _ => ?_))
      | exact firkinref01_Num.mono _ _
      | exact LeO.none _
      | refine LeO.ite ?_ ?_
      | refine LeO.bind ?_ (fun _ => ?_)
set_option maxHeartbeats 8000000 in
set_option maxRecDepth 100000 in
theorem firkinref01_Text.calls (k : Nat) (a0 : ByteArray) (r : List Int) (w : World) (h : firkinref01_Text.f k a0 = some r) :
    Calls Try.prog 67 #[.string a0] w fun e w' => ∃ v0_ : Value, e = .returned (v0_) ∧ Kd.R (Kd.int .u8) 5 w' w.heap.size (fun _ => True) v0_ r ∧ Below w.heap.size w w' := by
  have HB := Aside0.mk (Below.refl w.heap.size w)
  have H : ((firkinref01_Num.f k (IntKind.u64.wrap ((a0.size : Int)))).bind fun t326 => (if t326.length + a0.size < 140737488355328 then (some (t326 ++ bytesOf a0)) else (none))) = some r := h
  clear h
  replace H := Option.bind_eq_some_iff.mp H
  obtain ⟨t326, A20, H⟩ := H
  replace H : (if t326.length + a0.size < 140737488355328 then (some (t326 ++ bytesOf a0)) else (none)) = some r := H
  have A2 := Aside0.mk A20
  clear A20
  by_cases c3 : t326.length + a0.size < 140737488355328
  · rw [if_pos c3] at H
    have LMc3 := Aside0.mk c3
    clear c3
    obtain ⟨y329, hy329⟩ : ∃ y_ : List Int, y_ = (t326 ++ bytesOf a0) := ⟨_, rfl⟩
    replace H : (some y329) = some r := by first | (rw [hy329]; with_reducible exact H) | (have H2_ := (Option.bind_some _ _).symm.trans H; rw [hy329]; with_reducible exact H2_) | (have H2_ := (Option.bind_some _ _).symm.trans H; with_reducible exact H2_) | with_reducible exact H | (rw [hy329]; exact H) | exact H
    have Ny329 := Aside0.mk hy329
    clear hy329
    obtain rfl := Option.some.inj H
    go_enter Try.func67, Try.ntmps67
    go_wp2_with (first | ((with_reducible refine gate_callee (f := 66) rfl ?_); refine goesL_ (some 6) rfl rfl Try.func66 (by kernel_rfl) rfl #[.int .u64 (IntKind.u64.wrap ((a0.size : Int)))] rfl (by (try simp only [List.map_toArray, List.map_cons, List.map_nil]); first | done | rfl | (simp only [List.length_drop, List.length_take]; rfl)) ?_; (with_reducible refine (firkinref01_Num.calls k (IntKind.u64.wrap ((a0.size : Int))) t326 _ A2.out).mono ?_); rintro e w4 ⟨v327, rfl, ho0, hb⟩; refine ⟨_, rfl, ?_⟩; have n0_ := Aside0.mk (Kd.R_lower ho0 (below_size (by repeat (first | (with_reducible first | exact HB.out | apply below_alloc | apply pw_below_drewN | apply below_drew1) | exact HB.out)))); have n1_ := Aside0.mk (below_step (by repeat (first | (with_reducible first | exact HB.out | apply below_alloc | apply pw_below_drewN | apply below_drew1) | exact HB.out)) hb); clear HB; have HO328 := n0_; have HB := n1_; clear n0_ n1_; (try clear hb); (try clear hb2); (try clear hk); (try clear hi); (try clear ho0)) | (at_builtin; refine print_append_str (w0 := w) w.heap.size rfl (.tmp 6) _ 24 9 5 rfl Try.underlying24 Try.underlying9 info5 v327 t326 a0 rfl rfl ?aO ?aB ?aS ?aL ?_; (case aB => exact (by repeat (first | (with_reducible first | exact HB.out | apply below_alloc | apply pw_below_drewN | apply below_drew1) | exact HB.out))); (case aO => exact (Kd.own_of_R (by (with_reducible repeat (first | apply Kd.R_alloc | apply Kd.R_drewN | apply Kd.R_drew)); exact HO328.out))); (case aS => exact (below_size (by repeat (first | (with_reducible first | exact HB.out | apply below_alloc | apply pw_below_drewN | apply below_drew1) | exact HB.out)))); (case aL => have := LMc3.out; omega); intro v330 w5 ho0 hb hg; have ho := Kd.R_of_own (h1 := fun _ => rfl) (ok := fun _ => True) ho0 (fun _ _ => trivial); clear ho0; have hat := True.intro; rw [← Ny329.out] at ho; change Kd.R (Kd.int .u8) 5 w5 w.heap.size (fun _ => True) v330 y329 at ho; have n0_ := Aside0.mk (hb); have n1_ := Aside0.mk (ho); clear HB; clear HO328; have HB := n0_; have HO331 := n1_; clear n0_ n1_; clear ho hb hg hat))
    go_ret
    exact ⟨_, by first | rfl | (simp [errW_none, errW_some] <;> rfl) | (simp [*, errW_none, errW_some] <;> rfl), by (with_reducible repeat (first | apply Kd.R_alloc | apply Kd.R_drewN | apply Kd.R_drew)); exact HO331.out, by repeat (first | (with_reducible first | exact HB.out | apply below_alloc | apply pw_below_drewN | apply below_drew1) | exact HB.out)⟩
  · rw [if_neg c3] at H
    exact absurd H (by simp)

/-! ### firkinref08_Plain: function 39 -/
def firkinref08_Plain.l0 : Nat → List ByteArray → List Int → Int → Option (List Int)
  | 0, _, _, _ => none
  | k + 1, x0, x3, x4 => if x4 < (x0.length : Int) then (if 0 ≤ x4 then ((firkinref01_Text.f k (rdOf ByteArray.empty x0 x4)).bind fun t336 => (if x3.length + t336.length < 140737488355328 then (firkinref08_Plain.l0 k x0 (x3 ++ t336) (wrap64 (x4 + 1))) else (none))) else (none)) else (some x3)
def firkinref08_Plain.f (k : Nat) (l0 : List ByteArray) : Option (List Int) := firkinref08_Plain.l0 k l0 (([] : List Int)) 0
theorem firkinref08_Plain.mono_l : ∀ k, (∀ y0 y1 y2, LeO (firkinref08_Plain.l0 k y0 y1 y2) (firkinref08_Plain.l0 (k + 1) y0 y1 y2))
  | 0 => fun _ _ _ r h => by simp [firkinref08_Plain.l0] at h
  | k + 1 => by
    have ih0 := firkinref08_Plain.mono_l k
    · intro y0 y1 y2
      unfold firkinref08_Plain.l0
      repeat' first
      | (with_reducible exact ih0 _ _ _)
      | (with_reducible exact firkinref01_Text.mono _ _)
      | (with_reducible exact LeO.refl _)
      | (with_reducible exact LeO.none _)
      | (with_reducible refine LeO.ite ?_ ?_)
      | (with_reducible refine LeO.bind ?_ (fun _ => ?_))
      | exact ih0 _ _ _
      | exact firkinref01_Text.mono _ _
      | exact LeO.none _
      | refine LeO.ite ?_ ?_
      | refine LeO.bind ?_ (fun _ => ?_)
theorem firkinref08_Plain.mono : ∀ a0 k, LeO (firkinref08_Plain.f k a0) (firkinref08_Plain.f (k + 1) a0) := by
  intro a0 k
  have ih0 := firkinref08_Plain.mono_l k
  unfold firkinref08_Plain.f
  repeat' first
      | (with_reducible exact ih0 _ _ _)
      | (with_reducible exact firkinref01_Text.mono _ _)
      | (with_reducible exact LeO.refl _)
      | (with_reducible exact LeO.none _)
      | (with_reducible refine LeO.ite ?_ ?_)
      | (with_reducible refine LeO.bind ?_ (fun _ => ?_))
      | exact ih0 _ _ _
      | exact firkinref01_Text.mono _ _
      | exact LeO.none _
      | refine LeO.ite ?_ ?_
      | refine LeO.bind ?_ (fun _ => ?_)
set_option maxHeartbeats 8000000 in
set_option maxRecDepth 100000 in
theorem firkinref08_Plain.calls (k : Nat) (A0 : Option Addr) (c0 : Nat) (l0 : List ByteArray) (r : List Int) (w : World) (hr0 : Kd.C Kd.string w A0 l0.length l0) (hc0 : l0.length ≤ c0) (h : firkinref08_Plain.f k l0 = some r) :
    Calls Try.prog 39 #[.slice A0 l0.length c0] w fun e w' => ∃ v0_ : Value, e = .returned (v0_) ∧ Kd.R (Kd.int .u8) 5 w' w.heap.size (fun _ => True) v0_ r ∧ Below w.heap.size w w' := by
  have HR0 := Aside0.mk hr0
  have HC0 := Aside0.mk hc0
  clear hr0 hc0
  have HB := Aside0.mk (Below.refl w.heap.size w)
  have H : (firkinref08_Plain.l0 k l0 (([] : List Int)) 0) = some r := h
  clear h
  obtain ⟨y332, hy332⟩ : ∃ y_ : List Int, y_ = (([] : List Int)) := ⟨_, rfl⟩
  replace H : (firkinref08_Plain.l0 k l0 y332 0) = some r := by first | (rw [hy332]; with_reducible exact H) | (have H2_ := (Option.bind_some _ _).symm.trans H; rw [hy332]; with_reducible exact H2_) | (have H2_ := (Option.bind_some _ _).symm.trans H; with_reducible exact H2_) | with_reducible exact H | (rw [hy332]; exact H) | exact H
  have Ny332 := Aside0.mk hy332
  clear hy332
  have H' := Aside0.mk H
  clear H
  go_enter Try.func39, Try.ntmps39
  go_wp2_with (first | ((with_reducible refine gate_dst (N := 5) rfl ?_); refine Kd.R_lit (Kd.int .u8) _ 5 ?hg (N := 5) ?hd (xs := ([] : List Int)) (inner := []) (ok := fun _ => True) (okp := fun _ => True) ?hr ?hp (fun _ hk => hk) trivial (Below.refl _ _) (Nat.le_refl _) (by simp) ?_; (case hd => rfl); (case hg => rfl); (case hr => first | (go_simp; done) | (go_simp; rfl)); (case hp => exact (Reps.none _ _)); intro v333 w2 ho3 hb hg_ hnew_; clear hg_ hnew_; (first | rw [← Ny332.out] at ho3 | (simp only [Int.reduceToNat] at ho3; rw [← Ny332.out] at ho3)); have n0_ := Aside0.mk (Kd.R_lower ho3 (below_size (by repeat (first | (with_reducible first | exact HB.out | apply below_alloc | apply pw_below_drewN | apply below_drew1) | exact HB.out)))); have n1_ := Aside0.mk (below_step (by repeat (first | (with_reducible first | exact HB.out | apply below_alloc | apply pw_below_drewN | apply below_drew1) | exact HB.out)) hb); clear HB; have HO334 := n0_; have HB := n1_; clear n0_ n1_; clear hb ho3))
  go_loopg [3, 4] k (fun kq v3 v4 w' => ∃ (x3_1 : List Int) (x4_1 : Int), v4 = .int .i64 x4_1 ∧ Aside0 (firkinref08_Plain.l0 kq l0 x3_1 x4_1 = some r) ∧ Aside0 (kq ≤ k) ∧ Aside0 (Kd.R (Kd.int .u8) 5 w' w.heap.size (fun _ => True) v3 x3_1) ∧ Aside0 (Below w.heap.size w w'))
  case atStart => exact ⟨(y332), (0), (by first | rfl | (simp; done) | (simp [*]; done)), H', ⟨Nat.le_refl _⟩, ⟨by (with_reducible repeat (first | apply Kd.R_alloc | apply Kd.R_drewN | apply Kd.R_drew)); exact HO334.out⟩, ⟨by repeat (first | (with_reducible first | exact HB.out | apply below_alloc | apply pw_below_drewN | apply below_drew1) | exact HB.out)⟩⟩
  case round =>
    clear H'
    try clear p2
    try clear c3
    obtain ⟨x3_1, x4_1, rfl, HA, HK1, HO_3, HB⟩ := hrel
    cases gk with
    | zero => exact absurd HA.out (by simp [firkinref08_Plain.l0])
    | succ k1 =>
      have H := HA.out
      clear HA
      simp only [firkinref08_Plain.l0] at H
      by_cases c4 : x4_1 < (l0.length : Int)
      · rw [if_pos c4] at H
        have c4b0 : decide (x4_1 < (l0.length : Int)) = true := decide_eq_true c4
        clear c4
        by_cases c5 : 0 ≤ x4_1
        · rw [if_pos c5] at H
          have c5b0 : decide (0 ≤ x4_1) = true := decide_eq_true c5
          clear c5
          replace H := Option.bind_eq_some_iff.mp H
          obtain ⟨t336, A60, H⟩ := H
          replace H : (if x3_1.length + t336.length < 140737488355328 then (firkinref08_Plain.l0 k1 l0 (x3_1 ++ t336) (wrap64 (x4_1 + 1))) else (none)) = some r := H
          have A6 := Aside0.mk A60
          clear A60
          by_cases c7 : x3_1.length + t336.length < 140737488355328
          · rw [if_pos c7] at H
            have LMc7 := Aside0.mk c7
            clear c7
            obtain ⟨y339, hy339⟩ : ∃ y_ : List Int, y_ = (x3_1 ++ t336) := ⟨_, rfl⟩
            replace H : (firkinref08_Plain.l0 k1 l0 y339 (wrap64 (x4_1 + 1))) = some r := by first | (rw [hy339]; with_reducible exact H) | (have H2_ := (Option.bind_some _ _).symm.trans H; rw [hy339]; with_reducible exact H2_) | (have H2_ := (Option.bind_some _ _).symm.trans H; with_reducible exact H2_) | with_reducible exact H | (rw [hy339]; exact H) | exact H
            have Ny339 := Aside0.mk hy339
            clear hy339
            have H' := Aside0.mk H
            clear H
            have p335 : 0 ≤ (x4_1 : Int) := of_decide_eq_true (by first | (with_reducible assumption) | assumption)
            have q335 : x4_1 < (l0.length : Int) := of_decide_eq_true (by first | (with_reducible assumption) | assumption)
            obtain ⟨ad335, e335, hx335_0⟩ := Kd.at_string HR0.out x4_1 p335 q335
            cases e335
            replace hx335_0 := (HB.out.cell (World.block_lt_of_cell? w _ hx335_0)).trans hx335_0
            replace p335 := eq_true p335
            replace q335 := eq_true q335
            go_wp2_with (first | ((with_reducible refine gate_callee (f := 67) rfl ?_); refine goesL_ (some 17) rfl rfl Try.func67 (by kernel_rfl) rfl #[.string (rdOf ByteArray.empty l0 x4_1)] rfl (by (try simp only [List.map_toArray, List.map_cons, List.map_nil]); first | done | rfl | (simp only [List.length_drop, List.length_take]; rfl)) ?_; (with_reducible refine (firkinref01_Text.calls k1 (rdOf ByteArray.empty l0 x4_1) t336 _ A6.out).mono ?_); rintro e w8 ⟨v337, rfl, ho0, hb⟩; refine ⟨_, rfl, ?_⟩; have n0_ := Aside0.mk (Kd.R_elder' (by (with_reducible repeat (first | apply Kd.R_alloc | apply Kd.R_drewN | apply Kd.R_drew)); exact HO_3.out) (Kd.R_base ho0) hb); have n1_ := Aside0.mk (Kd.R_lower (Kd.R_new' ho0 (Kd.R_lt (by (with_reducible repeat (first | apply Kd.R_alloc | apply Kd.R_drewN | apply Kd.R_drew)); exact HO_3.out))) (below_size (by repeat (first | (with_reducible first | exact HB.out | apply below_alloc | apply pw_below_drewN | apply below_drew1) | exact HB.out)))); have n2_ := Aside0.mk (below_step (by repeat (first | (with_reducible first | exact HB.out | apply below_alloc | apply pw_below_drewN | apply below_drew1) | exact HB.out)) hb); clear HO_3; clear HB; have HO_3 := n0_; have HO338 := n1_; have HB := n2_; clear n0_ n1_ n2_; (try clear hb); (try clear hb2); (try clear hk); (try clear hi); (try clear ho0); obtain ⟨Ao10, co10, eo10⟩ := Kd.R_slice HO338.out; subst eo10) | ((with_reducible refine gate_builtin (b := .append) (xs := #[.tmp 12, .tmp 17]) rfl ?_); at_builtin; refine Kd.R_append_rows (Kd.int .u8) (w0 := w) w.heap.size rfl (.tmp 12) (.tmp 17) 24 5 (.int .u8 0) 1 rfl Try.underlying24 info5 rfl (by decide) (by omega) u3 x3_1 t336 _ _ _ (fun k_ => some k_ ≠ (.slice Ao10 t336.length co10 : Value).ownBlock) (fun _ => False) rfl rfl ?aO ?aR (fun _ _ h => h) (fun _ h => h.elim) ?aF ?aB ?aS ?aL ?_; (case aR => repeat (first | exact (Kd.R_reads' HO338.out).2.2 | (with_reducible refine Kd.C_alloc ?_ _) | (with_reducible refine Kd.C_drewN ?_ _) | (with_reducible refine Kd.C_drew ?_))); (case aB => exact (by repeat (first | (with_reducible first | exact HB.out | apply below_alloc | apply pw_below_drewN | apply below_drew1) | exact HB.out))); (case aF => exact (fun k_ hk => Kd.fresh' (Kd.R_lt (by (with_reducible repeat (first | apply Kd.R_alloc | apply Kd.R_drewN | apply Kd.R_drew)); exact HO338.out)) k_ hk)); (case aO => exact (by (with_reducible repeat (first | apply Kd.R_alloc | apply Kd.R_drewN | apply Kd.R_drew)); exact Kd.R_mono HO_3.out (fun _ hk => hk.2))); (case aS => exact (below_size (by repeat (first | (with_reducible first | exact HB.out | apply below_alloc | apply pw_below_drewN | apply below_drew1) | exact HB.out)))); (case aL => have := LMc7.out; omega); intro v340 w9 ho hb hg hat; rw [← Ny339.out] at ho; have n0_ := Aside0.mk (Kd.R_after (ok := (fun _ => True)) (by (with_reducible repeat (first | apply Kd.R_alloc | apply Kd.R_drewN | apply Kd.R_drew)); exact HO338.out) hg hat); have n1_ := Aside0.mk (hb); have n2_ := Aside0.mk (ho); clear HO338; clear HB; clear HO_3; have HO338 := n0_; have HB := n1_; have HO341 := n2_; clear n0_ n1_ n2_; clear ho hb hg hat))
            go_roundg k1
            case measure => have := HK1.out; omega
            case rel => exact ⟨(y339), (wrap64 (x4_1 + 1)), (by first | rfl | (simp; done) | (simp [*]; done)), H', ⟨by have := HK1.out; omega⟩, ⟨by (with_reducible repeat (first | apply Kd.R_alloc | apply Kd.R_drewN | apply Kd.R_drew)); exact Kd.R_mono HO341.out (fun _ hk => trivial)⟩, ⟨by repeat (first | (with_reducible first | exact HB.out | apply below_alloc | apply pw_below_drewN | apply below_drew1) | exact HB.out)⟩⟩
          · rw [if_neg c7] at H
            exact absurd H (by simp)
        · rw [if_neg c5] at H
          exact absurd H (by simp)
      · rw [if_neg c4] at H
        have c4b0 : decide (x4_1 < (l0.length : Int)) = false := decide_eq_false c4
        clear c4
        obtain rfl := Option.some.inj H
        go_wp2
        go_ret
        exact ⟨_, by first | rfl | (simp [errW_none, errW_some] <;> rfl) | (simp [*, errW_none, errW_some] <;> rfl), by (with_reducible repeat (first | apply Kd.R_alloc | apply Kd.R_drewN | apply Kd.R_drew)); exact HO_3.out, by repeat (first | (with_reducible first | exact HB.out | apply below_alloc | apply pw_below_drewN | apply below_drew1) | exact HB.out)⟩

end Go.Proofs.Ytbbffnlefmogbaa.X
