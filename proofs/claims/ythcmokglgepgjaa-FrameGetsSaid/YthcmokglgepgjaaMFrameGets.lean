/- FrameGets: for every input the call returns true, and each argument reads behind the call as it read before it. No condition. (Part 3 of 3: this session's texts, laid together by wip/merge.py.) -/
import Derived.Test.YthcmokglgepgjaaX0
import Derived.Test.YthcmokglgepgjaaMem2
import Derived.Lib.Hide
import Derived.Laws.BitsAllLaws
import Derived.Test.YthcmokglgepgjaaEnc0
import Derived.Test.YthcmokglgepgjaaRound
import Derived.Lib.Bytes
import Derived.Test.YthcmokglgepgjaaWf
import Derived.Test.YthcmokglgepgjaaRows
import Derived.Test.YthcmokglgepgjaaOpens
import Derived.WalkKit
import Derived.ProofKit
import Derived.OpenShut
import Derived.ShutString
import Derived.ChangeOld
import Derived.Below
import Derived.SizedLaws
import Derived.Test.YthcmokglgepgjaaMFrameGets0
import Derived.Test.YthcmokglgepgjaaMFrameGets1
/- The contract of firkinref03.Lists: are lists of bytes the same? -/
namespace Go.Proofs.Ythcmokglgepgjaa.X
open Go.RowKit Go.Proofs.YthcmokglgepgjaaW.PrintWords Go.Proofs.YthcmokglgepgjaaW.PrintLast Go.Proofs.YthcmokglgepgjaaW.PrintMore
set_option linter.unusedVariables false
set_option linter.unusedSimpArgs false
def listsGo : List (List Int) → List (List Int) → Bool
  | [], [] => true
  | x :: a, y :: b => if (strOfNums x).toList = (strOfNums y).toList then listsGo a b else false
  | _, _ => false
theorem listsGo_len : ∀ (a b : List (List Int)), a.length ≠ b.length → listsGo a b = false
  | [], [], h => absurd rfl h
  | [], _ :: _, _ => rfl
  | _ :: _, [], _ => rfl
  | x :: a, y :: b, h => by
    rw [listsGo, listsGo_len a b (fun h9 => h (by simp [h9]))]
    split <;> rfl
def firkinref03_Lists.f (l0 l1 : List (List Int)) : Option Bool := some (listsGo l0 l1)
set_option maxHeartbeats 8000000 in
set_option maxRecDepth 100000 in
theorem firkinref03_Lists.calls (A0 : Option Addr) (c0 : Nat) (l0 : List (List Int)) (A1 : Option Addr) (c1 : Nat) (l1 : List (List Int)) (r : Bool) (w : World) (hr0 : Kd.C (Kd.slice 5 (Kd.int .u8)) w A0 l0.length l0) (hc0 : l0.length ≤ c0) (hr1 : Kd.C (Kd.slice 5 (Kd.int .u8)) w A1 l1.length l1) (hc1 : l1.length ≤ c1) (h : firkinref03_Lists.f l0 l1 = some r) :
    Calls Try.prog 22 #[.slice A0 l0.length c0, .slice A1 l1.length c1] w fun e w' => e = .returned (.bool r) ∧ Drawn0 w w' := by
  unfold firkinref03_Lists.f at h
  have hq := Option.some.inj h
  clear h
  have hm0 := Kd.C_max hr0
  have hm1 := Kd.C_max hr1
  have HR0 := Aside0.mk hr0
  have HR1 := Aside0.mk hr1
  clear hr0 hr1
  by_cases hl : l0.length ≠ l1.length
  · rw [listsGo_len _ _ hl] at hq
    subst hq
    have hb1 : ((l0.length : Int) != (l1.length : Int)) = true := by rw [bne_iff_ne]; omega
    have hb2 : (l0.length != l1.length) = true := by rw [bne_iff_ne]; exact hl
    clear hl
    go_enter Try.func22, Try.ntmps22
    go_wp2_with fail
    go_ret
    exact ⟨rfl, ⟨0, rfl⟩⟩
  have hl : l0.length = l1.length := by omega
  have hb1 : ((l0.length : Int) != (l1.length : Int)) = false := by rw [bne_eq_false_iff_eq]; omega
  have hb2 : (l0.length != l1.length) = false := by rw [bne_eq_false_iff_eq]; exact hl
  have HL := Aside0.mk hl
  have HQ := Aside0.mk hq
  clear hl hq
  go_enter Try.func22, Try.ntmps22
  go_wp2_with fail
  clear hb1 hb2
  go_loopg [5] l0.length (fun kq v5 w' => ∃ (i : Nat) (nd : Nat), v5 = .int .i64 (i : Int) ∧ kq + i = l0.length ∧ Aside0 (listsGo (l0.drop i) (l1.drop i) = r) ∧ w' = w.drewN nd)
  case atStart => exact ⟨0, 0, rfl, rfl, HQ, rfl⟩
  case round =>
    clear HQ
    obtain ⟨i, nd, rfl, hi, HE, rfl⟩ := hrel
    cases gk with
    | zero =>
      obtain rfl : i = l0.length := by omega
      have hb : decide ((l0.length : Int) < (l0.length : Int)) = false := decide_eq_false (by omega)
      have hb2 : decide (l0.length < l0.length) = false := decide_eq_false (by omega)
      have he := HE.out
      rw [List.drop_eq_nil_of_le (Nat.le_refl _), List.drop_eq_nil_of_le (by have := HL.out; omega)] at he
      obtain rfl : true = r := he
      go_wp2_with fail
      go_ret
      exact ⟨rfl, ⟨nd, rfl⟩⟩
    | succ k2 =>
      have hlt : i < l0.length := by omega
      have hlt1 : i < l1.length := by have := HL.out; omega
      have hb : decide ((i : Int) < (l0.length : Int)) = true := decide_eq_true (by omega)
      have hb2 : decide (i < l0.length) = true := decide_eq_true hlt
      have hb3 : decide ((i : Int) < (l1.length : Int)) = true := decide_eq_true (by omega)
      obtain ⟨ad, Ai, ci, rfl, hx, hci, Ci⟩ := Mem.at_row HR0.out i hlt
      obtain ⟨bd, Bi, di, rfl, hy, hdi, Di⟩ := Mem.at_row HR1.out i hlt1
      have he := HE.out
      rw [List.drop_eq_getElem_cons hlt, List.drop_eq_getElem_cons hlt1, listsGo] at he
      generalize l0[i] = x at hx hci Ci he
      generalize l1[i] = y at hy hdi Di he
      have hcx : ∀ q, (convert 22 9 (.slice Ai x.length ci)).run Try.prog (w.drewN q) = .ok (.string (strOfNums x)) (w.drewN q) := fun q => Kd.C_string (P := Try.prog) Try.underlying22 Try.underlying5 Try.underlying9 (Kd.C_drewN Ci q)
      have hcy : ∀ q, (convert 22 9 (.slice Bi y.length di)).run Try.prog (w.drewN q) = .ok (.string (strOfNums y)) (w.drewN q) := fun q => Kd.C_string (P := Try.prog) Try.underlying22 Try.underlying5 Try.underlying9 (Kd.C_drewN Di q)
      clear Ci Di
      by_cases hs : (strOfNums x).toList = (strOfNums y).toList
      · rw [if_pos hs] at he
        have HE2 := Aside0.mk he
        have hbs : ((strOfNums x).toList == (strOfNums y).toList) = true := by rw [hs]; exact beq_self_eq_true _
        have hbs2 : ((strOfNums x).toList != (strOfNums y).toList) = false := by rw [hs]; simp
        clear he hs HE
        go_wp2_with fail
        go_quiet (fail)
        go_wp2_with fail
        go_roundg k2
        case measure => omega
        case rel => exact ⟨i + 1, _, by go_num, by omega, HE2, rfl⟩
      · rw [if_neg hs] at he
        subst he
        have hbs : ((strOfNums x).toList == (strOfNums y).toList) = false := beq_eq_false_iff_ne.mpr hs
        have hbs2 : ((strOfNums x).toList != (strOfNums y).toList) = true := by rw [bne_iff_ne]; exact hs
        clear hs HE
        go_wp2_with fail
        go_quiet (fail)
        go_wp2_with fail
        go_ret
        exact ⟨rfl, ⟨nd + nq, World.drewN_drewN _ _ _⟩⟩
end Go.Proofs.Ythcmokglgepgjaa.X
-- Printed for this claim by a program of this session (wip/xprint.py) over the kit's printer; Lean checks it.
namespace Go.Proofs.Ythcmokglgepgjaa.X
open Go.RowKit Go.Proofs.YthcmokglgepgjaaW.PrintWords Go.Proofs.YthcmokglgepgjaaW.PrintLast Go.Proofs.YthcmokglgepgjaaW.PrintMore
attribute [local go_sem] max2_int min2_int max_two min_two max_three min_three max_four min_four   -- for this text's walks alone
set_option linter.unusedVariables false
set_option linter.unusedSimpArgs false

/-! ### firkinlaw03_FrameGets: function 5 -/
def firkinlaw03_FrameGets.f (k : Nat) (l0 : List Int) : Option (Bool) := if (l0.length : Int) > 1000 then ((firkinlaw03_live.f).bind fun t218 => (some t218)) else ((frame_Get.f k l0).bind fun bt219 => ((firkinref03_Get.f k l0).bind fun bt224 => ((frame_All.f k l0).bind fun bt229 => ((firkinref03_All.f k l0).bind fun bt233 => ((firkinref01_Same.f bt219.1 bt224.1).bind fun t237 => (if t237 = true then (if bt219.2.1 = bt224.2.1 then ((firkinlaw03_num.f bt219.2.2).bind fun t238 => (if t238 = bt224.2.2 then ((firkinref03_Lists.f bt229.1 bt233.1).bind fun t239 => (if t239 = true then (if bt229.2 = bt233.2 then ((firkinlaw03_live.f).bind fun t240 => (some t240)) else (some false)) else (some false))) else (some false))) else (some false)) else (some false)))))))
theorem firkinlaw03_FrameGets.mono : ∀ a0 k, LeO (firkinlaw03_FrameGets.f k a0) (firkinlaw03_FrameGets.f (k + 1) a0) := by
  intro a0 k
  unfold firkinlaw03_FrameGets.f
  repeat' first
      | (with_reducible exact firkinref03_All.mono _ _)
      | (with_reducible exact firkinref03_Get.mono _ _)
      | (with_reducible exact frame_All.mono _ _)
      | (with_reducible exact frame_Get.mono _ _)
      | (with_reducible exact LeO.refl _)
      | (with_reducible exact LeO.none _)
      | (with_reducible refine LeO.ite ?_ ?_)
      | (with_reducible refine LeO.bind ?_ (fun _ => ?_))
      | exact firkinref03_All.mono _ _
      | exact firkinref03_Get.mono _ _
      | exact frame_All.mono _ _
      | exact frame_Get.mono _ _
      | exact LeO.none _
      | refine LeO.ite ?_ ?_
      | refine LeO.bind ?_ (fun _ => ?_)
set_option maxHeartbeats 8000000 in
set_option maxRecDepth 100000 in
theorem firkinlaw03_FrameGets.calls (k : Nat) (A0 : Option Addr) (c0 : Nat) (l0 : List Int) (r : Bool) (w : World) (hr0 : Kd.C (Kd.int .u8) w A0 l0.length l0) (hc0 : l0.length ≤ c0) (h : firkinlaw03_FrameGets.f k l0 = some r) :
    Calls Try.prog 5 #[.slice A0 l0.length c0] w fun e w' => e = .returned (.bool r) ∧ Below w.heap.size w w' := by
  have HR0 := Aside0.mk hr0
  have HC0 := Aside0.mk hc0
  clear hr0 hc0
  have HB := Aside0.mk (Below.refl w.heap.size w)
  have H : (if (l0.length : Int) > 1000 then ((firkinlaw03_live.f).bind fun t218 => (some t218)) else ((frame_Get.f k l0).bind fun bt219 => ((firkinref03_Get.f k l0).bind fun bt224 => ((frame_All.f k l0).bind fun bt229 => ((firkinref03_All.f k l0).bind fun bt233 => ((firkinref01_Same.f bt219.1 bt224.1).bind fun t237 => (if t237 = true then (if bt219.2.1 = bt224.2.1 then ((firkinlaw03_num.f bt219.2.2).bind fun t238 => (if t238 = bt224.2.2 then ((firkinref03_Lists.f bt229.1 bt233.1).bind fun t239 => (if t239 = true then (if bt229.2 = bt233.2 then ((firkinlaw03_live.f).bind fun t240 => (some t240)) else (some false)) else (some false))) else (some false))) else (some false)) else (some false)))))))) = some r := h
  clear h
  by_cases c2 : (l0.length : Int) > 1000
  · rw [if_pos c2] at H
    have c2b0 : decide (1000 < (l0.length : Int)) = true := decide_eq_true c2
    have c2b1 : decide (1000 < l0.length) = true := decide_eq_true (by omega)
    clear c2
    replace H := Option.bind_eq_some_iff.mp H
    obtain ⟨t218, A30, H⟩ := H
    replace H : (some t218) = some r := H
    have A3 := Aside0.mk A30
    clear A30
    obtain rfl := Option.some.inj H
    go_enter Try.func5, Try.ntmps5
    go_wp2_with (first | ((with_reducible refine gate_callee (f := 13) rfl ?_); refine goesL_ (some 16) rfl rfl Try.func13 (by kernel_rfl) rfl #[] rfl (by (try simp only [List.map_toArray, List.map_cons, List.map_nil]); first | done | rfl | (simp only [List.length_drop, List.length_take]; rfl)) ?_; (with_reducible refine (firkinlaw03_live.calls  t218 _ A3.out).mono ?_); rintro e w4 ⟨rfl, hb⟩; refine ⟨_, rfl, ?_⟩; have n0_ := Aside0.mk (below_step (by repeat (first | (with_reducible first | exact HB.out | apply below_alloc | apply pw_below_drewN | apply below_drew1) | exact HB.out)) hb); clear HB; have HB := n0_; clear n0_; (try clear hb); (try clear hb2); (try clear hk); (try clear hi)))
    go_ret
    exact ⟨by first | rfl | (simp [errW_none, errW_some] <;> rfl) | (simp [*, errW_none, errW_some] <;> rfl), by repeat (first | (with_reducible first | exact HB.out | apply below_alloc | apply pw_below_drewN | apply below_drew1) | exact HB.out)⟩
  · rw [if_neg c2] at H
    have c2b0 : decide (1000 < (l0.length : Int)) = false := decide_eq_false c2
    have c2b1 : decide (1000 < l0.length) = false := decide_eq_false (by omega)
    clear c2
    replace H := Option.bind_eq_some_iff.mp H
    obtain ⟨⟨t219, t220, t221⟩, A50, H⟩ := H
    replace H : ((firkinref03_Get.f k l0).bind fun bt224 => ((frame_All.f k l0).bind fun bt229 => ((firkinref03_All.f k l0).bind fun bt233 => ((firkinref01_Same.f t219 bt224.1).bind fun t237 => (if t237 = true then (if t220 = bt224.2.1 then ((firkinlaw03_num.f t221).bind fun t238 => (if t238 = bt224.2.2 then ((firkinref03_Lists.f bt229.1 bt233.1).bind fun t239 => (if t239 = true then (if bt229.2 = bt233.2 then ((firkinlaw03_live.f).bind fun t240 => (some t240)) else (some false)) else (some false))) else (some false))) else (some false)) else (some false)))))) = some r := H
    have A5 := Aside0.mk A50
    clear A50
    replace H := Option.bind_eq_some_iff.mp H
    obtain ⟨⟨t224, t225, t226⟩, A60, H⟩ := H
    replace H : ((frame_All.f k l0).bind fun bt229 => ((firkinref03_All.f k l0).bind fun bt233 => ((firkinref01_Same.f t219 t224).bind fun t237 => (if t237 = true then (if t220 = t225 then ((firkinlaw03_num.f t221).bind fun t238 => (if t238 = t226 then ((firkinref03_Lists.f bt229.1 bt233.1).bind fun t239 => (if t239 = true then (if bt229.2 = bt233.2 then ((firkinlaw03_live.f).bind fun t240 => (some t240)) else (some false)) else (some false))) else (some false))) else (some false)) else (some false))))) = some r := H
    have A6 := Aside0.mk A60
    clear A60
    replace H := Option.bind_eq_some_iff.mp H
    obtain ⟨⟨t229, t232⟩, A70, H⟩ := H
    replace H : ((firkinref03_All.f k l0).bind fun bt233 => ((firkinref01_Same.f t219 t224).bind fun t237 => (if t237 = true then (if t220 = t225 then ((firkinlaw03_num.f t221).bind fun t238 => (if t238 = t226 then ((firkinref03_Lists.f t229 bt233.1).bind fun t239 => (if t239 = true then (if t232 = bt233.2 then ((firkinlaw03_live.f).bind fun t240 => (some t240)) else (some false)) else (some false))) else (some false))) else (some false)) else (some false)))) = some r := H
    have A7 := Aside0.mk A70
    clear A70
    replace H := Option.bind_eq_some_iff.mp H
    obtain ⟨⟨t233, t234⟩, A80, H⟩ := H
    replace H : ((firkinref01_Same.f t219 t224).bind fun t237 => (if t237 = true then (if t220 = t225 then ((firkinlaw03_num.f t221).bind fun t238 => (if t238 = t226 then ((firkinref03_Lists.f t229 t233).bind fun t239 => (if t239 = true then (if t232 = t234 then ((firkinlaw03_live.f).bind fun t240 => (some t240)) else (some false)) else (some false))) else (some false))) else (some false)) else (some false))) = some r := H
    have A8 := Aside0.mk A80
    clear A80
    replace H := Option.bind_eq_some_iff.mp H
    obtain ⟨t237, A90, H⟩ := H
    replace H : (if t237 = true then (if t220 = t225 then ((firkinlaw03_num.f t221).bind fun t238 => (if t238 = t226 then ((firkinref03_Lists.f t229 t233).bind fun t239 => (if t239 = true then (if t232 = t234 then ((firkinlaw03_live.f).bind fun t240 => (some t240)) else (some false)) else (some false))) else (some false))) else (some false)) else (some false)) = some r := H
    have A9 := Aside0.mk A90
    clear A90
    by_cases c10 : t237 = true
    · subst c10
      have H1 : (if t220 = t225 then ((firkinlaw03_num.f t221).bind fun t238 => (if t238 = t226 then ((firkinref03_Lists.f t229 t233).bind fun t239 => (if t239 = true then (if t232 = t234 then ((firkinlaw03_live.f).bind fun t240 => (some t240)) else (some false)) else (some false))) else (some false))) else (some false)) = some r := by rw [if_pos rfl] at H; exact H
      clear H
      have H := H1
      clear H1
      by_cases c11 : t220 = t225
      · rw [if_pos c11] at H
        have c11b0 : (t220 == t225) = true := beq_iff_eq.mpr c11
        have c11b1 : (t220 != t225) = false := bne_eq_false_iff_eq.mpr c11
        clear c11
        replace H := Option.bind_eq_some_iff.mp H
        obtain ⟨t238, A120, H⟩ := H
        replace H : (if t238 = t226 then ((firkinref03_Lists.f t229 t233).bind fun t239 => (if t239 = true then (if t232 = t234 then ((firkinlaw03_live.f).bind fun t240 => (some t240)) else (some false)) else (some false))) else (some false)) = some r := H
        have A12 := Aside0.mk A120
        clear A120
        by_cases c13 : t238 = t226
        · rw [if_pos c13] at H
          have c13b0 : (t238 == t226) = true := beq_iff_eq.mpr c13
          have c13b1 : (t238 != t226) = false := bne_eq_false_iff_eq.mpr c13
          clear c13
          replace H := Option.bind_eq_some_iff.mp H
          obtain ⟨t239, A140, H⟩ := H
          replace H : (if t239 = true then (if t232 = t234 then ((firkinlaw03_live.f).bind fun t240 => (some t240)) else (some false)) else (some false)) = some r := H
          have A14 := Aside0.mk A140
          clear A140
          by_cases c15 : t239 = true
          · subst c15
            have H1 : (if t232 = t234 then ((firkinlaw03_live.f).bind fun t240 => (some t240)) else (some false)) = some r := by rw [if_pos rfl] at H; exact H
            clear H
            have H := H1
            clear H1
            by_cases c16 : t232 = t234
            · rw [if_pos c16] at H
              have c16b0 : (t232 == t234) = true := beq_iff_eq.mpr c16
              have c16b1 : (t232 != t234) = false := bne_eq_false_iff_eq.mpr c16
              clear c16
              replace H := Option.bind_eq_some_iff.mp H
              obtain ⟨t240, A170, H⟩ := H
              replace H : (some t240) = some r := H
              have A17 := Aside0.mk A170
              clear A170
              obtain rfl := Option.some.inj H
              go_enter Try.func5, Try.ntmps5
              go_wp2_with (first | ((with_reducible refine gate_callee (f := 15) rfl ?_); refine goesL_ (some 19) rfl rfl Try.func15 (by kernel_rfl) rfl #[.slice A0 l0.length c0] rfl (by (try simp only [List.map_toArray, List.map_cons, List.map_nil]); first | done | rfl | (simp only [List.length_drop, List.length_take]; rfl)) ?_; (with_reducible refine (frame_Get.calls k _ _ l0 t219 t220 t221 _ ?side1 ?side2 A5.out).mono ?_); (case side1 => repeat (first | exact HR0.out | (with_reducible refine Kd.C_alloc ?_ _) | (with_reducible refine Kd.C_drewN ?_ _) | (with_reducible refine Kd.C_drew ?_))); (case side2 => exact HC0.out); rintro e w18 ⟨v222, rfl, ho0, hb⟩; refine ⟨_, rfl, ?_⟩; have n0_ := Aside0.mk (Kd.R_lower ho0 (below_size (by repeat (first | (with_reducible first | exact HB.out | apply below_alloc | apply pw_below_drewN | apply below_drew1) | exact HB.out)))); have n1_ := Aside0.mk (below_step (by repeat (first | (with_reducible first | exact HB.out | apply below_alloc | apply pw_below_drewN | apply below_drew1) | exact HB.out)) hb); clear HB; have HO223 := n0_; have HB := n1_; clear n0_ n1_; (try clear hb); (try clear hb2); (try clear hk); (try clear hi); (try clear ho0)) | ((with_reducible refine gate_callee (f := 19) rfl ?_); refine goesL_ (some 25) rfl rfl Try.func19 (by kernel_rfl) rfl #[.slice A0 l0.length c0] rfl (by (try simp only [List.map_toArray, List.map_cons, List.map_nil]); first | done | rfl | (simp only [List.length_drop, List.length_take]; rfl)) ?_; (with_reducible refine (firkinref03_Get.calls k _ _ l0 t224 t225 t226 _ ?side1 ?side2 A6.out).mono ?_); (case side1 => repeat (first | exact (Kd.C_below HR0.out HB.out) | (with_reducible refine Kd.C_alloc ?_ _) | (with_reducible refine Kd.C_drewN ?_ _) | (with_reducible refine Kd.C_drew ?_))); (case side2 => exact HC0.out); rintro e w19 ⟨v227, rfl, ho0, hb⟩; refine ⟨_, rfl, ?_⟩; have n0_ := Aside0.mk (Kd.R_elder' (by (with_reducible repeat (first | apply Kd.R_alloc | apply Kd.R_drewN | apply Kd.R_drew)); exact HO223.out) (Kd.R_base ho0) hb); have n1_ := Aside0.mk (Kd.R_lower (Kd.R_new' ho0 (Kd.R_lt (by (with_reducible repeat (first | apply Kd.R_alloc | apply Kd.R_drewN | apply Kd.R_drew)); exact HO223.out))) (below_size (by repeat (first | (with_reducible first | exact HB.out | apply below_alloc | apply pw_below_drewN | apply below_drew1) | exact HB.out)))); have n2_ := Aside0.mk (below_step (by repeat (first | (with_reducible first | exact HB.out | apply below_alloc | apply pw_below_drewN | apply below_drew1) | exact HB.out)) hb); clear HO223; clear HB; have HO223 := n0_; have HO228 := n1_; have HB := n2_; clear n0_ n1_ n2_; (try clear hb); (try clear hb2); (try clear hk); (try clear hi); (try clear ho0)) | ((with_reducible refine gate_callee (f := 20) rfl ?_); refine goesL_ (some 31) rfl rfl Try.func20 (by kernel_rfl) rfl #[.slice A0 l0.length c0] rfl (by (try simp only [List.map_toArray, List.map_cons, List.map_nil]); first | done | rfl | (simp only [List.length_drop, List.length_take]; rfl)) ?_; (with_reducible refine (frame_All.calls k _ _ l0 t229 t232 _ ?side1 ?side2 A7.out).mono ?_); (case side1 => repeat (first | exact (Kd.C_below HR0.out HB.out) | (with_reducible refine Kd.C_alloc ?_ _) | (with_reducible refine Kd.C_drewN ?_ _) | (with_reducible refine Kd.C_drew ?_))); (case side2 => exact HC0.out); rintro e w20 ⟨v230, rfl, ho0, hb⟩; refine ⟨_, rfl, ?_⟩; have n0_ := Aside0.mk (Kd.R_below (by (with_reducible repeat (first | apply Kd.R_alloc | apply Kd.R_drewN | apply Kd.R_drew)); exact HO223.out) hb); have n1_ := Aside0.mk (Kd.R_below (by (with_reducible repeat (first | apply Kd.R_alloc | apply Kd.R_drewN | apply Kd.R_drew)); exact HO228.out) hb); have n2_ := Aside0.mk (Kd.V_lower (Kd.V_mono (ok' := fun k_ => some k_ ≠ (v222 : Value).ownBlock ∧ some k_ ≠ (v227 : Value).ownBlock) ho0 (fun k_ hk_ => ⟨(Kd.fresh' (Kd.R_lt (by (with_reducible repeat (first | apply Kd.R_alloc | apply Kd.R_drewN | apply Kd.R_drew)); exact HO223.out)) k_ hk_), (Kd.fresh' (Kd.R_lt (by (with_reducible repeat (first | apply Kd.R_alloc | apply Kd.R_drewN | apply Kd.R_drew)); exact HO228.out)) k_ hk_)⟩)) (below_size (by repeat (first | (with_reducible first | exact HB.out | apply below_alloc | apply pw_below_drewN | apply below_drew1) | exact HB.out)))); have n3_ := Aside0.mk (below_step (by repeat (first | (with_reducible first | exact HB.out | apply below_alloc | apply pw_below_drewN | apply below_drew1) | exact HB.out)) hb); clear HO223; clear HO228; clear HB; have HO223 := n0_; have HO228 := n1_; have HO231 := n2_; have HB := n3_; clear n0_ n1_ n2_ n3_; (try clear hb); (try clear hb2); (try clear hk); (try clear hi); (try clear ho0)) | ((with_reducible refine gate_callee (f := 21) rfl ?_); refine goesL_ (some 36) rfl rfl Try.func21 (by kernel_rfl) rfl #[.slice A0 l0.length c0] rfl (by (try simp only [List.map_toArray, List.map_cons, List.map_nil]); first | done | rfl | (simp only [List.length_drop, List.length_take]; rfl)) ?_; (with_reducible refine (firkinref03_All.calls k _ _ l0 t233 t234 _ ?side1 ?side2 A8.out).mono ?_); (case side1 => repeat (first | exact (Kd.C_below HR0.out HB.out) | (with_reducible refine Kd.C_alloc ?_ _) | (with_reducible refine Kd.C_drewN ?_ _) | (with_reducible refine Kd.C_drew ?_))); (case side2 => exact HC0.out); rintro e w21 ⟨v235, rfl, ho0, hb⟩; refine ⟨_, rfl, ?_⟩; have n0_ := Aside0.mk (Kd.R_below (by (with_reducible repeat (first | apply Kd.R_alloc | apply Kd.R_drewN | apply Kd.R_drew)); exact HO223.out) hb); have n1_ := Aside0.mk (Kd.R_below (by (with_reducible repeat (first | apply Kd.R_alloc | apply Kd.R_drewN | apply Kd.R_drew)); exact HO228.out) hb); have n2_ := Aside0.mk (Kd.V_elder' (by (with_reducible repeat (first | apply Kd.V_alloc | apply Kd.V_drewN | apply Kd.V_drew)); exact HO231.out) (Kd.S_base ho0) hb); have n3_ := Aside0.mk (Kd.S_lower (Kd.S_new' (Kd.S_new' ho0 (Kd.R_lt (by (with_reducible repeat (first | apply Kd.R_alloc | apply Kd.R_drewN | apply Kd.R_drew)); exact HO223.out))) (Kd.R_lt (by (with_reducible repeat (first | apply Kd.R_alloc | apply Kd.R_drewN | apply Kd.R_drew)); exact HO228.out))) (below_size (by repeat (first | (with_reducible first | exact HB.out | apply below_alloc | apply pw_below_drewN | apply below_drew1) | exact HB.out)))); have n4_ := Aside0.mk (below_step (by repeat (first | (with_reducible first | exact HB.out | apply below_alloc | apply pw_below_drewN | apply below_drew1) | exact HB.out)) hb); clear HO223; clear HO228; clear HO231; clear HB; have HO223 := n0_; have HO228 := n1_; have HO231 := n2_; have HO236 := n3_; have HB := n4_; clear n0_ n1_ n2_ n3_ n4_; (try clear hb); (try clear hb2); (try clear hk); (try clear hi); (try clear ho0); obtain ⟨Ao22, co22, eo22⟩ := Kd.R_slice HO223.out; subst eo22; obtain ⟨Ao23, co23, eo23⟩ := Kd.R_slice HO228.out; subst eo23) | ((with_reducible refine gate_callee (f := 16) rfl ?_); refine goesL_ (some 41) rfl rfl Try.func16 (by kernel_rfl) rfl #[.slice Ao22 t219.length co22, .slice Ao23 t224.length co23] rfl (by (try simp only [List.map_toArray, List.map_cons, List.map_nil]); first | done | rfl | (simp only [List.length_drop, List.length_take]; rfl)) ?_; (with_reducible refine (firkinref01_Same.calls _ _ t219 _ _ t224 true _ ?side1 ?side2 ?side3 ?side4 A9.out).mono ?_); (case side1 => repeat (first | exact (Kd.R_reads' HO223.out).2.2 | (with_reducible refine Kd.C_alloc ?_ _) | (with_reducible refine Kd.C_drewN ?_ _) | (with_reducible refine Kd.C_drew ?_))); (case side2 => exact (Kd.R_reads' HO223.out).2.1); (case side3 => repeat (first | exact (Kd.R_reads' HO228.out).2.2 | (with_reducible refine Kd.C_alloc ?_ _) | (with_reducible refine Kd.C_drewN ?_ _) | (with_reducible refine Kd.C_drew ?_))); (case side4 => exact (Kd.R_reads' HO228.out).2.1); rintro e w' ⟨rfl, ⟨nd, rfl⟩⟩; refine ⟨_, rfl, ?_⟩) | (go_at_call 18; (with_reducible refine (firkinlaw03_num.calls t221 t238 _ A12.out).mono ?_); rintro e w' ⟨rfl, ⟨nd, rfl⟩⟩; obtain ⟨Ao24, co24, eo24⟩ := Kd.V_slice HO231.out; subst eo24; obtain ⟨Ao25, co25, eo25⟩ := Kd.S_slice HO236.out; subst eo25) | (go_at_call 22; (with_reducible refine (firkinref03_Lists.calls _ _ t229 _ _ t233 true _ ?side1 ?side2 ?side3 ?side4 A14.out).mono ?_); (case side1 => repeat (first | exact (Kd.V_reads' HO231.out).2.2 | (with_reducible refine Kd.C_alloc ?_ _) | (with_reducible refine Kd.C_drewN ?_ _) | (with_reducible refine Kd.C_drew ?_))); (case side2 => exact (Kd.V_reads' HO231.out).2.1); (case side3 => repeat (first | exact (Kd.S_reads' HO236.out).2.2 | (with_reducible refine Kd.C_alloc ?_ _) | (with_reducible refine Kd.C_drewN ?_ _) | (with_reducible refine Kd.C_drew ?_))); (case side4 => exact (Kd.S_reads' HO236.out).2.1); rintro e w' ⟨rfl, ⟨nd, rfl⟩⟩) | (go_at_call 13; (with_reducible refine (firkinlaw03_live.calls  t240 _ A17.out).mono ?_); rintro e w26 ⟨rfl, hb⟩; have n0_ := Aside0.mk (Kd.R_below (by (with_reducible repeat (first | apply Kd.R_alloc | apply Kd.R_drewN | apply Kd.R_drew)); exact HO223.out) hb); have n1_ := Aside0.mk (Kd.R_below (by (with_reducible repeat (first | apply Kd.R_alloc | apply Kd.R_drewN | apply Kd.R_drew)); exact HO228.out) hb); have n2_ := Aside0.mk (Kd.V_below (by (with_reducible repeat (first | apply Kd.V_alloc | apply Kd.V_drewN | apply Kd.V_drew)); exact HO231.out) hb); have n3_ := Aside0.mk (Kd.S_below (by (with_reducible repeat (first | apply Kd.S_alloc | apply Kd.S_drewN | apply Kd.S_drew)); exact HO236.out) hb); have n4_ := Aside0.mk (below_step (by repeat (first | (with_reducible first | exact HB.out | apply below_alloc | apply pw_below_drewN | apply below_drew1) | exact HB.out)) hb); clear HO223; clear HO228; clear HO231; clear HO236; clear HB; have HO223 := n0_; have HO228 := n1_; have HO231 := n2_; have HO236 := n3_; have HB := n4_; clear n0_ n1_ n2_ n3_ n4_; (try clear hb); (try clear hb2); (try clear hk); (try clear hi); (try clear A17)))
              go_ret
              exact ⟨by first | rfl | (simp [errW_none, errW_some] <;> rfl) | (simp [*, errW_none, errW_some] <;> rfl), by repeat (first | (with_reducible first | exact HB.out | apply below_alloc | apply pw_below_drewN | apply below_drew1) | exact HB.out)⟩
            · rw [if_neg c16] at H
              have c16b0 : (t232 == t234) = false := beq_eq_false_iff_ne.mpr c16
              have c16b1 : (t232 != t234) = true := bne_iff_ne.mpr c16
              obtain rfl := Option.some.inj H
              go_enter Try.func5, Try.ntmps5
              go_wp2_with (first | ((with_reducible refine gate_callee (f := 15) rfl ?_); refine goesL_ (some 19) rfl rfl Try.func15 (by kernel_rfl) rfl #[.slice A0 l0.length c0] rfl (by (try simp only [List.map_toArray, List.map_cons, List.map_nil]); first | done | rfl | (simp only [List.length_drop, List.length_take]; rfl)) ?_; (with_reducible refine (frame_Get.calls k _ _ l0 t219 t220 t221 _ ?side1 ?side2 A5.out).mono ?_); (case side1 => repeat (first | exact HR0.out | (with_reducible refine Kd.C_alloc ?_ _) | (with_reducible refine Kd.C_drewN ?_ _) | (with_reducible refine Kd.C_drew ?_))); (case side2 => exact HC0.out); rintro e w27 ⟨v222, rfl, ho0, hb⟩; refine ⟨_, rfl, ?_⟩; have n0_ := Aside0.mk (Kd.R_lower ho0 (below_size (by repeat (first | (with_reducible first | exact HB.out | apply below_alloc | apply pw_below_drewN | apply below_drew1) | exact HB.out)))); have n1_ := Aside0.mk (below_step (by repeat (first | (with_reducible first | exact HB.out | apply below_alloc | apply pw_below_drewN | apply below_drew1) | exact HB.out)) hb); clear HB; have HO223 := n0_; have HB := n1_; clear n0_ n1_; (try clear hb); (try clear hb2); (try clear hk); (try clear hi); (try clear ho0)) | ((with_reducible refine gate_callee (f := 19) rfl ?_); refine goesL_ (some 25) rfl rfl Try.func19 (by kernel_rfl) rfl #[.slice A0 l0.length c0] rfl (by (try simp only [List.map_toArray, List.map_cons, List.map_nil]); first | done | rfl | (simp only [List.length_drop, List.length_take]; rfl)) ?_; (with_reducible refine (firkinref03_Get.calls k _ _ l0 t224 t225 t226 _ ?side1 ?side2 A6.out).mono ?_); (case side1 => repeat (first | exact (Kd.C_below HR0.out HB.out) | (with_reducible refine Kd.C_alloc ?_ _) | (with_reducible refine Kd.C_drewN ?_ _) | (with_reducible refine Kd.C_drew ?_))); (case side2 => exact HC0.out); rintro e w28 ⟨v227, rfl, ho0, hb⟩; refine ⟨_, rfl, ?_⟩; have n0_ := Aside0.mk (Kd.R_elder' (by (with_reducible repeat (first | apply Kd.R_alloc | apply Kd.R_drewN | apply Kd.R_drew)); exact HO223.out) (Kd.R_base ho0) hb); have n1_ := Aside0.mk (Kd.R_lower (Kd.R_new' ho0 (Kd.R_lt (by (with_reducible repeat (first | apply Kd.R_alloc | apply Kd.R_drewN | apply Kd.R_drew)); exact HO223.out))) (below_size (by repeat (first | (with_reducible first | exact HB.out | apply below_alloc | apply pw_below_drewN | apply below_drew1) | exact HB.out)))); have n2_ := Aside0.mk (below_step (by repeat (first | (with_reducible first | exact HB.out | apply below_alloc | apply pw_below_drewN | apply below_drew1) | exact HB.out)) hb); clear HO223; clear HB; have HO223 := n0_; have HO228 := n1_; have HB := n2_; clear n0_ n1_ n2_; (try clear hb); (try clear hb2); (try clear hk); (try clear hi); (try clear ho0)) | ((with_reducible refine gate_callee (f := 20) rfl ?_); refine goesL_ (some 31) rfl rfl Try.func20 (by kernel_rfl) rfl #[.slice A0 l0.length c0] rfl (by (try simp only [List.map_toArray, List.map_cons, List.map_nil]); first | done | rfl | (simp only [List.length_drop, List.length_take]; rfl)) ?_; (with_reducible refine (frame_All.calls k _ _ l0 t229 t232 _ ?side1 ?side2 A7.out).mono ?_); (case side1 => repeat (first | exact (Kd.C_below HR0.out HB.out) | (with_reducible refine Kd.C_alloc ?_ _) | (with_reducible refine Kd.C_drewN ?_ _) | (with_reducible refine Kd.C_drew ?_))); (case side2 => exact HC0.out); rintro e w29 ⟨v230, rfl, ho0, hb⟩; refine ⟨_, rfl, ?_⟩; have n0_ := Aside0.mk (Kd.R_below (by (with_reducible repeat (first | apply Kd.R_alloc | apply Kd.R_drewN | apply Kd.R_drew)); exact HO223.out) hb); have n1_ := Aside0.mk (Kd.R_below (by (with_reducible repeat (first | apply Kd.R_alloc | apply Kd.R_drewN | apply Kd.R_drew)); exact HO228.out) hb); have n2_ := Aside0.mk (Kd.V_lower (Kd.V_mono (ok' := fun k_ => some k_ ≠ (v222 : Value).ownBlock ∧ some k_ ≠ (v227 : Value).ownBlock) ho0 (fun k_ hk_ => ⟨(Kd.fresh' (Kd.R_lt (by (with_reducible repeat (first | apply Kd.R_alloc | apply Kd.R_drewN | apply Kd.R_drew)); exact HO223.out)) k_ hk_), (Kd.fresh' (Kd.R_lt (by (with_reducible repeat (first | apply Kd.R_alloc | apply Kd.R_drewN | apply Kd.R_drew)); exact HO228.out)) k_ hk_)⟩)) (below_size (by repeat (first | (with_reducible first | exact HB.out | apply below_alloc | apply pw_below_drewN | apply below_drew1) | exact HB.out)))); have n3_ := Aside0.mk (below_step (by repeat (first | (with_reducible first | exact HB.out | apply below_alloc | apply pw_below_drewN | apply below_drew1) | exact HB.out)) hb); clear HO223; clear HO228; clear HB; have HO223 := n0_; have HO228 := n1_; have HO231 := n2_; have HB := n3_; clear n0_ n1_ n2_ n3_; (try clear hb); (try clear hb2); (try clear hk); (try clear hi); (try clear ho0)) | ((with_reducible refine gate_callee (f := 21) rfl ?_); refine goesL_ (some 36) rfl rfl Try.func21 (by kernel_rfl) rfl #[.slice A0 l0.length c0] rfl (by (try simp only [List.map_toArray, List.map_cons, List.map_nil]); first | done | rfl | (simp only [List.length_drop, List.length_take]; rfl)) ?_; (with_reducible refine (firkinref03_All.calls k _ _ l0 t233 t234 _ ?side1 ?side2 A8.out).mono ?_); (case side1 => repeat (first | exact (Kd.C_below HR0.out HB.out) | (with_reducible refine Kd.C_alloc ?_ _) | (with_reducible refine Kd.C_drewN ?_ _) | (with_reducible refine Kd.C_drew ?_))); (case side2 => exact HC0.out); rintro e w30 ⟨v235, rfl, ho0, hb⟩; refine ⟨_, rfl, ?_⟩; have n0_ := Aside0.mk (Kd.R_below (by (with_reducible repeat (first | apply Kd.R_alloc | apply Kd.R_drewN | apply Kd.R_drew)); exact HO223.out) hb); have n1_ := Aside0.mk (Kd.R_below (by (with_reducible repeat (first | apply Kd.R_alloc | apply Kd.R_drewN | apply Kd.R_drew)); exact HO228.out) hb); have n2_ := Aside0.mk (Kd.V_elder' (by (with_reducible repeat (first | apply Kd.V_alloc | apply Kd.V_drewN | apply Kd.V_drew)); exact HO231.out) (Kd.S_base ho0) hb); have n3_ := Aside0.mk (Kd.S_lower (Kd.S_new' (Kd.S_new' ho0 (Kd.R_lt (by (with_reducible repeat (first | apply Kd.R_alloc | apply Kd.R_drewN | apply Kd.R_drew)); exact HO223.out))) (Kd.R_lt (by (with_reducible repeat (first | apply Kd.R_alloc | apply Kd.R_drewN | apply Kd.R_drew)); exact HO228.out))) (below_size (by repeat (first | (with_reducible first | exact HB.out | apply below_alloc | apply pw_below_drewN | apply below_drew1) | exact HB.out)))); have n4_ := Aside0.mk (below_step (by repeat (first | (with_reducible first | exact HB.out | apply below_alloc | apply pw_below_drewN | apply below_drew1) | exact HB.out)) hb); clear HO223; clear HO228; clear HO231; clear HB; have HO223 := n0_; have HO228 := n1_; have HO231 := n2_; have HO236 := n3_; have HB := n4_; clear n0_ n1_ n2_ n3_ n4_; (try clear hb); (try clear hb2); (try clear hk); (try clear hi); (try clear ho0); obtain ⟨Ao31, co31, eo31⟩ := Kd.R_slice HO223.out; subst eo31; obtain ⟨Ao32, co32, eo32⟩ := Kd.R_slice HO228.out; subst eo32) | ((with_reducible refine gate_callee (f := 16) rfl ?_); refine goesL_ (some 41) rfl rfl Try.func16 (by kernel_rfl) rfl #[.slice Ao31 t219.length co31, .slice Ao32 t224.length co32] rfl (by (try simp only [List.map_toArray, List.map_cons, List.map_nil]); first | done | rfl | (simp only [List.length_drop, List.length_take]; rfl)) ?_; (with_reducible refine (firkinref01_Same.calls _ _ t219 _ _ t224 true _ ?side1 ?side2 ?side3 ?side4 A9.out).mono ?_); (case side1 => repeat (first | exact (Kd.R_reads' HO223.out).2.2 | (with_reducible refine Kd.C_alloc ?_ _) | (with_reducible refine Kd.C_drewN ?_ _) | (with_reducible refine Kd.C_drew ?_))); (case side2 => exact (Kd.R_reads' HO223.out).2.1); (case side3 => repeat (first | exact (Kd.R_reads' HO228.out).2.2 | (with_reducible refine Kd.C_alloc ?_ _) | (with_reducible refine Kd.C_drewN ?_ _) | (with_reducible refine Kd.C_drew ?_))); (case side4 => exact (Kd.R_reads' HO228.out).2.1); rintro e w' ⟨rfl, ⟨nd, rfl⟩⟩; refine ⟨_, rfl, ?_⟩) | (go_at_call 18; (with_reducible refine (firkinlaw03_num.calls t221 t238 _ A12.out).mono ?_); rintro e w' ⟨rfl, ⟨nd, rfl⟩⟩; obtain ⟨Ao33, co33, eo33⟩ := Kd.V_slice HO231.out; subst eo33; obtain ⟨Ao34, co34, eo34⟩ := Kd.S_slice HO236.out; subst eo34) | (go_at_call 22; (with_reducible refine (firkinref03_Lists.calls _ _ t229 _ _ t233 true _ ?side1 ?side2 ?side3 ?side4 A14.out).mono ?_); (case side1 => repeat (first | exact (Kd.V_reads' HO231.out).2.2 | (with_reducible refine Kd.C_alloc ?_ _) | (with_reducible refine Kd.C_drewN ?_ _) | (with_reducible refine Kd.C_drew ?_))); (case side2 => exact (Kd.V_reads' HO231.out).2.1); (case side3 => repeat (first | exact (Kd.S_reads' HO236.out).2.2 | (with_reducible refine Kd.C_alloc ?_ _) | (with_reducible refine Kd.C_drewN ?_ _) | (with_reducible refine Kd.C_drew ?_))); (case side4 => exact (Kd.S_reads' HO236.out).2.1); rintro e w' ⟨rfl, ⟨nd, rfl⟩⟩))
              go_ret
              exact ⟨by first | rfl | (simp [errW_none, errW_some] <;> rfl) | (simp [*, errW_none, errW_some] <;> rfl), by repeat (first | (with_reducible first | exact HB.out | apply below_alloc | apply pw_below_drewN | apply below_drew1) | exact HB.out)⟩
          · replace c15 := Bool.eq_false_iff.mpr c15
            subst c15
            have H1 : (some false) = some r := by rw [if_neg (show ¬ (false = true) by decide)] at H; exact H
            clear H
            have H := H1
            clear H1
            obtain rfl := Option.some.inj H
            go_enter Try.func5, Try.ntmps5
            go_wp2_with (first | ((with_reducible refine gate_callee (f := 15) rfl ?_); refine goesL_ (some 19) rfl rfl Try.func15 (by kernel_rfl) rfl #[.slice A0 l0.length c0] rfl (by (try simp only [List.map_toArray, List.map_cons, List.map_nil]); first | done | rfl | (simp only [List.length_drop, List.length_take]; rfl)) ?_; (with_reducible refine (frame_Get.calls k _ _ l0 t219 t220 t221 _ ?side1 ?side2 A5.out).mono ?_); (case side1 => repeat (first | exact HR0.out | (with_reducible refine Kd.C_alloc ?_ _) | (with_reducible refine Kd.C_drewN ?_ _) | (with_reducible refine Kd.C_drew ?_))); (case side2 => exact HC0.out); rintro e w35 ⟨v222, rfl, ho0, hb⟩; refine ⟨_, rfl, ?_⟩; have n0_ := Aside0.mk (Kd.R_lower ho0 (below_size (by repeat (first | (with_reducible first | exact HB.out | apply below_alloc | apply pw_below_drewN | apply below_drew1) | exact HB.out)))); have n1_ := Aside0.mk (below_step (by repeat (first | (with_reducible first | exact HB.out | apply below_alloc | apply pw_below_drewN | apply below_drew1) | exact HB.out)) hb); clear HB; have HO223 := n0_; have HB := n1_; clear n0_ n1_; (try clear hb); (try clear hb2); (try clear hk); (try clear hi); (try clear ho0)) | ((with_reducible refine gate_callee (f := 19) rfl ?_); refine goesL_ (some 25) rfl rfl Try.func19 (by kernel_rfl) rfl #[.slice A0 l0.length c0] rfl (by (try simp only [List.map_toArray, List.map_cons, List.map_nil]); first | done | rfl | (simp only [List.length_drop, List.length_take]; rfl)) ?_; (with_reducible refine (firkinref03_Get.calls k _ _ l0 t224 t225 t226 _ ?side1 ?side2 A6.out).mono ?_); (case side1 => repeat (first | exact (Kd.C_below HR0.out HB.out) | (with_reducible refine Kd.C_alloc ?_ _) | (with_reducible refine Kd.C_drewN ?_ _) | (with_reducible refine Kd.C_drew ?_))); (case side2 => exact HC0.out); rintro e w36 ⟨v227, rfl, ho0, hb⟩; refine ⟨_, rfl, ?_⟩; have n0_ := Aside0.mk (Kd.R_elder' (by (with_reducible repeat (first | apply Kd.R_alloc | apply Kd.R_drewN | apply Kd.R_drew)); exact HO223.out) (Kd.R_base ho0) hb); have n1_ := Aside0.mk (Kd.R_lower (Kd.R_new' ho0 (Kd.R_lt (by (with_reducible repeat (first | apply Kd.R_alloc | apply Kd.R_drewN | apply Kd.R_drew)); exact HO223.out))) (below_size (by repeat (first | (with_reducible first | exact HB.out | apply below_alloc | apply pw_below_drewN | apply below_drew1) | exact HB.out)))); have n2_ := Aside0.mk (below_step (by repeat (first | (with_reducible first | exact HB.out | apply below_alloc | apply pw_below_drewN | apply below_drew1) | exact HB.out)) hb); clear HO223; clear HB; have HO223 := n0_; have HO228 := n1_; have HB := n2_; clear n0_ n1_ n2_; (try clear hb); (try clear hb2); (try clear hk); (try clear hi); (try clear ho0)) | ((with_reducible refine gate_callee (f := 20) rfl ?_); refine goesL_ (some 31) rfl rfl Try.func20 (by kernel_rfl) rfl #[.slice A0 l0.length c0] rfl (by (try simp only [List.map_toArray, List.map_cons, List.map_nil]); first | done | rfl | (simp only [List.length_drop, List.length_take]; rfl)) ?_; (with_reducible refine (frame_All.calls k _ _ l0 t229 t232 _ ?side1 ?side2 A7.out).mono ?_); (case side1 => repeat (first | exact (Kd.C_below HR0.out HB.out) | (with_reducible refine Kd.C_alloc ?_ _) | (with_reducible refine Kd.C_drewN ?_ _) | (with_reducible refine Kd.C_drew ?_))); (case side2 => exact HC0.out); rintro e w37 ⟨v230, rfl, ho0, hb⟩; refine ⟨_, rfl, ?_⟩; have n0_ := Aside0.mk (Kd.R_below (by (with_reducible repeat (first | apply Kd.R_alloc | apply Kd.R_drewN | apply Kd.R_drew)); exact HO223.out) hb); have n1_ := Aside0.mk (Kd.R_below (by (with_reducible repeat (first | apply Kd.R_alloc | apply Kd.R_drewN | apply Kd.R_drew)); exact HO228.out) hb); have n2_ := Aside0.mk (Kd.V_lower (Kd.V_mono (ok' := fun k_ => some k_ ≠ (v222 : Value).ownBlock ∧ some k_ ≠ (v227 : Value).ownBlock) ho0 (fun k_ hk_ => ⟨(Kd.fresh' (Kd.R_lt (by (with_reducible repeat (first | apply Kd.R_alloc | apply Kd.R_drewN | apply Kd.R_drew)); exact HO223.out)) k_ hk_), (Kd.fresh' (Kd.R_lt (by (with_reducible repeat (first | apply Kd.R_alloc | apply Kd.R_drewN | apply Kd.R_drew)); exact HO228.out)) k_ hk_)⟩)) (below_size (by repeat (first | (with_reducible first | exact HB.out | apply below_alloc | apply pw_below_drewN | apply below_drew1) | exact HB.out)))); have n3_ := Aside0.mk (below_step (by repeat (first | (with_reducible first | exact HB.out | apply below_alloc | apply pw_below_drewN | apply below_drew1) | exact HB.out)) hb); clear HO223; clear HO228; clear HB; have HO223 := n0_; have HO228 := n1_; have HO231 := n2_; have HB := n3_; clear n0_ n1_ n2_ n3_; (try clear hb); (try clear hb2); (try clear hk); (try clear hi); (try clear ho0)) | ((with_reducible refine gate_callee (f := 21) rfl ?_); refine goesL_ (some 36) rfl rfl Try.func21 (by kernel_rfl) rfl #[.slice A0 l0.length c0] rfl (by (try simp only [List.map_toArray, List.map_cons, List.map_nil]); first | done | rfl | (simp only [List.length_drop, List.length_take]; rfl)) ?_; (with_reducible refine (firkinref03_All.calls k _ _ l0 t233 t234 _ ?side1 ?side2 A8.out).mono ?_); (case side1 => repeat (first | exact (Kd.C_below HR0.out HB.out) | (with_reducible refine Kd.C_alloc ?_ _) | (with_reducible refine Kd.C_drewN ?_ _) | (with_reducible refine Kd.C_drew ?_))); (case side2 => exact HC0.out); rintro e w38 ⟨v235, rfl, ho0, hb⟩; refine ⟨_, rfl, ?_⟩; have n0_ := Aside0.mk (Kd.R_below (by (with_reducible repeat (first | apply Kd.R_alloc | apply Kd.R_drewN | apply Kd.R_drew)); exact HO223.out) hb); have n1_ := Aside0.mk (Kd.R_below (by (with_reducible repeat (first | apply Kd.R_alloc | apply Kd.R_drewN | apply Kd.R_drew)); exact HO228.out) hb); have n2_ := Aside0.mk (Kd.V_elder' (by (with_reducible repeat (first | apply Kd.V_alloc | apply Kd.V_drewN | apply Kd.V_drew)); exact HO231.out) (Kd.S_base ho0) hb); have n3_ := Aside0.mk (Kd.S_lower (Kd.S_new' (Kd.S_new' ho0 (Kd.R_lt (by (with_reducible repeat (first | apply Kd.R_alloc | apply Kd.R_drewN | apply Kd.R_drew)); exact HO223.out))) (Kd.R_lt (by (with_reducible repeat (first | apply Kd.R_alloc | apply Kd.R_drewN | apply Kd.R_drew)); exact HO228.out))) (below_size (by repeat (first | (with_reducible first | exact HB.out | apply below_alloc | apply pw_below_drewN | apply below_drew1) | exact HB.out)))); have n4_ := Aside0.mk (below_step (by repeat (first | (with_reducible first | exact HB.out | apply below_alloc | apply pw_below_drewN | apply below_drew1) | exact HB.out)) hb); clear HO223; clear HO228; clear HO231; clear HB; have HO223 := n0_; have HO228 := n1_; have HO231 := n2_; have HO236 := n3_; have HB := n4_; clear n0_ n1_ n2_ n3_ n4_; (try clear hb); (try clear hb2); (try clear hk); (try clear hi); (try clear ho0); obtain ⟨Ao39, co39, eo39⟩ := Kd.R_slice HO223.out; subst eo39; obtain ⟨Ao40, co40, eo40⟩ := Kd.R_slice HO228.out; subst eo40) | ((with_reducible refine gate_callee (f := 16) rfl ?_); refine goesL_ (some 41) rfl rfl Try.func16 (by kernel_rfl) rfl #[.slice Ao39 t219.length co39, .slice Ao40 t224.length co40] rfl (by (try simp only [List.map_toArray, List.map_cons, List.map_nil]); first | done | rfl | (simp only [List.length_drop, List.length_take]; rfl)) ?_; (with_reducible refine (firkinref01_Same.calls _ _ t219 _ _ t224 true _ ?side1 ?side2 ?side3 ?side4 A9.out).mono ?_); (case side1 => repeat (first | exact (Kd.R_reads' HO223.out).2.2 | (with_reducible refine Kd.C_alloc ?_ _) | (with_reducible refine Kd.C_drewN ?_ _) | (with_reducible refine Kd.C_drew ?_))); (case side2 => exact (Kd.R_reads' HO223.out).2.1); (case side3 => repeat (first | exact (Kd.R_reads' HO228.out).2.2 | (with_reducible refine Kd.C_alloc ?_ _) | (with_reducible refine Kd.C_drewN ?_ _) | (with_reducible refine Kd.C_drew ?_))); (case side4 => exact (Kd.R_reads' HO228.out).2.1); rintro e w' ⟨rfl, ⟨nd, rfl⟩⟩; refine ⟨_, rfl, ?_⟩) | (go_at_call 18; (with_reducible refine (firkinlaw03_num.calls t221 t238 _ A12.out).mono ?_); rintro e w' ⟨rfl, ⟨nd, rfl⟩⟩; obtain ⟨Ao41, co41, eo41⟩ := Kd.V_slice HO231.out; subst eo41; obtain ⟨Ao42, co42, eo42⟩ := Kd.S_slice HO236.out; subst eo42) | (go_at_call 22; (with_reducible refine (firkinref03_Lists.calls _ _ t229 _ _ t233 false _ ?side1 ?side2 ?side3 ?side4 A14.out).mono ?_); (case side1 => repeat (first | exact (Kd.V_reads' HO231.out).2.2 | (with_reducible refine Kd.C_alloc ?_ _) | (with_reducible refine Kd.C_drewN ?_ _) | (with_reducible refine Kd.C_drew ?_))); (case side2 => exact (Kd.V_reads' HO231.out).2.1); (case side3 => repeat (first | exact (Kd.S_reads' HO236.out).2.2 | (with_reducible refine Kd.C_alloc ?_ _) | (with_reducible refine Kd.C_drewN ?_ _) | (with_reducible refine Kd.C_drew ?_))); (case side4 => exact (Kd.S_reads' HO236.out).2.1); rintro e w' ⟨rfl, ⟨nd, rfl⟩⟩))
            go_ret
            exact ⟨by first | rfl | (simp [errW_none, errW_some] <;> rfl) | (simp [*, errW_none, errW_some] <;> rfl), by repeat (first | (with_reducible first | exact HB.out | apply below_alloc | apply pw_below_drewN | apply below_drew1) | exact HB.out)⟩
        · rw [if_neg c13] at H
          have c13b0 : (t238 == t226) = false := beq_eq_false_iff_ne.mpr c13
          have c13b1 : (t238 != t226) = true := bne_iff_ne.mpr c13
          obtain rfl := Option.some.inj H
          go_enter Try.func5, Try.ntmps5
          go_wp2_with (first | ((with_reducible refine gate_callee (f := 15) rfl ?_); refine goesL_ (some 19) rfl rfl Try.func15 (by kernel_rfl) rfl #[.slice A0 l0.length c0] rfl (by (try simp only [List.map_toArray, List.map_cons, List.map_nil]); first | done | rfl | (simp only [List.length_drop, List.length_take]; rfl)) ?_; (with_reducible refine (frame_Get.calls k _ _ l0 t219 t220 t221 _ ?side1 ?side2 A5.out).mono ?_); (case side1 => repeat (first | exact HR0.out | (with_reducible refine Kd.C_alloc ?_ _) | (with_reducible refine Kd.C_drewN ?_ _) | (with_reducible refine Kd.C_drew ?_))); (case side2 => exact HC0.out); rintro e w43 ⟨v222, rfl, ho0, hb⟩; refine ⟨_, rfl, ?_⟩; have n0_ := Aside0.mk (Kd.R_lower ho0 (below_size (by repeat (first | (with_reducible first | exact HB.out | apply below_alloc | apply pw_below_drewN | apply below_drew1) | exact HB.out)))); have n1_ := Aside0.mk (below_step (by repeat (first | (with_reducible first | exact HB.out | apply below_alloc | apply pw_below_drewN | apply below_drew1) | exact HB.out)) hb); clear HB; have HO223 := n0_; have HB := n1_; clear n0_ n1_; (try clear hb); (try clear hb2); (try clear hk); (try clear hi); (try clear ho0)) | ((with_reducible refine gate_callee (f := 19) rfl ?_); refine goesL_ (some 25) rfl rfl Try.func19 (by kernel_rfl) rfl #[.slice A0 l0.length c0] rfl (by (try simp only [List.map_toArray, List.map_cons, List.map_nil]); first | done | rfl | (simp only [List.length_drop, List.length_take]; rfl)) ?_; (with_reducible refine (firkinref03_Get.calls k _ _ l0 t224 t225 t226 _ ?side1 ?side2 A6.out).mono ?_); (case side1 => repeat (first | exact (Kd.C_below HR0.out HB.out) | (with_reducible refine Kd.C_alloc ?_ _) | (with_reducible refine Kd.C_drewN ?_ _) | (with_reducible refine Kd.C_drew ?_))); (case side2 => exact HC0.out); rintro e w44 ⟨v227, rfl, ho0, hb⟩; refine ⟨_, rfl, ?_⟩; have n0_ := Aside0.mk (Kd.R_elder' (by (with_reducible repeat (first | apply Kd.R_alloc | apply Kd.R_drewN | apply Kd.R_drew)); exact HO223.out) (Kd.R_base ho0) hb); have n1_ := Aside0.mk (Kd.R_lower (Kd.R_new' ho0 (Kd.R_lt (by (with_reducible repeat (first | apply Kd.R_alloc | apply Kd.R_drewN | apply Kd.R_drew)); exact HO223.out))) (below_size (by repeat (first | (with_reducible first | exact HB.out | apply below_alloc | apply pw_below_drewN | apply below_drew1) | exact HB.out)))); have n2_ := Aside0.mk (below_step (by repeat (first | (with_reducible first | exact HB.out | apply below_alloc | apply pw_below_drewN | apply below_drew1) | exact HB.out)) hb); clear HO223; clear HB; have HO223 := n0_; have HO228 := n1_; have HB := n2_; clear n0_ n1_ n2_; (try clear hb); (try clear hb2); (try clear hk); (try clear hi); (try clear ho0)) | ((with_reducible refine gate_callee (f := 20) rfl ?_); refine goesL_ (some 31) rfl rfl Try.func20 (by kernel_rfl) rfl #[.slice A0 l0.length c0] rfl (by (try simp only [List.map_toArray, List.map_cons, List.map_nil]); first | done | rfl | (simp only [List.length_drop, List.length_take]; rfl)) ?_; (with_reducible refine (frame_All.calls k _ _ l0 t229 t232 _ ?side1 ?side2 A7.out).mono ?_); (case side1 => repeat (first | exact (Kd.C_below HR0.out HB.out) | (with_reducible refine Kd.C_alloc ?_ _) | (with_reducible refine Kd.C_drewN ?_ _) | (with_reducible refine Kd.C_drew ?_))); (case side2 => exact HC0.out); rintro e w45 ⟨v230, rfl, ho0, hb⟩; refine ⟨_, rfl, ?_⟩; have n0_ := Aside0.mk (Kd.R_below (by (with_reducible repeat (first | apply Kd.R_alloc | apply Kd.R_drewN | apply Kd.R_drew)); exact HO223.out) hb); have n1_ := Aside0.mk (Kd.R_below (by (with_reducible repeat (first | apply Kd.R_alloc | apply Kd.R_drewN | apply Kd.R_drew)); exact HO228.out) hb); have n2_ := Aside0.mk (Kd.V_lower (Kd.V_mono (ok' := fun k_ => some k_ ≠ (v222 : Value).ownBlock ∧ some k_ ≠ (v227 : Value).ownBlock) ho0 (fun k_ hk_ => ⟨(Kd.fresh' (Kd.R_lt (by (with_reducible repeat (first | apply Kd.R_alloc | apply Kd.R_drewN | apply Kd.R_drew)); exact HO223.out)) k_ hk_), (Kd.fresh' (Kd.R_lt (by (with_reducible repeat (first | apply Kd.R_alloc | apply Kd.R_drewN | apply Kd.R_drew)); exact HO228.out)) k_ hk_)⟩)) (below_size (by repeat (first | (with_reducible first | exact HB.out | apply below_alloc | apply pw_below_drewN | apply below_drew1) | exact HB.out)))); have n3_ := Aside0.mk (below_step (by repeat (first | (with_reducible first | exact HB.out | apply below_alloc | apply pw_below_drewN | apply below_drew1) | exact HB.out)) hb); clear HO223; clear HO228; clear HB; have HO223 := n0_; have HO228 := n1_; have HO231 := n2_; have HB := n3_; clear n0_ n1_ n2_ n3_; (try clear hb); (try clear hb2); (try clear hk); (try clear hi); (try clear ho0)) | ((with_reducible refine gate_callee (f := 21) rfl ?_); refine goesL_ (some 36) rfl rfl Try.func21 (by kernel_rfl) rfl #[.slice A0 l0.length c0] rfl (by (try simp only [List.map_toArray, List.map_cons, List.map_nil]); first | done | rfl | (simp only [List.length_drop, List.length_take]; rfl)) ?_; (with_reducible refine (firkinref03_All.calls k _ _ l0 t233 t234 _ ?side1 ?side2 A8.out).mono ?_); (case side1 => repeat (first | exact (Kd.C_below HR0.out HB.out) | (with_reducible refine Kd.C_alloc ?_ _) | (with_reducible refine Kd.C_drewN ?_ _) | (with_reducible refine Kd.C_drew ?_))); (case side2 => exact HC0.out); rintro e w46 ⟨v235, rfl, ho0, hb⟩; refine ⟨_, rfl, ?_⟩; have n0_ := Aside0.mk (Kd.R_below (by (with_reducible repeat (first | apply Kd.R_alloc | apply Kd.R_drewN | apply Kd.R_drew)); exact HO223.out) hb); have n1_ := Aside0.mk (Kd.R_below (by (with_reducible repeat (first | apply Kd.R_alloc | apply Kd.R_drewN | apply Kd.R_drew)); exact HO228.out) hb); have n2_ := Aside0.mk (Kd.V_elder' (by (with_reducible repeat (first | apply Kd.V_alloc | apply Kd.V_drewN | apply Kd.V_drew)); exact HO231.out) (Kd.S_base ho0) hb); have n3_ := Aside0.mk (Kd.S_lower (Kd.S_new' (Kd.S_new' ho0 (Kd.R_lt (by (with_reducible repeat (first | apply Kd.R_alloc | apply Kd.R_drewN | apply Kd.R_drew)); exact HO223.out))) (Kd.R_lt (by (with_reducible repeat (first | apply Kd.R_alloc | apply Kd.R_drewN | apply Kd.R_drew)); exact HO228.out))) (below_size (by repeat (first | (with_reducible first | exact HB.out | apply below_alloc | apply pw_below_drewN | apply below_drew1) | exact HB.out)))); have n4_ := Aside0.mk (below_step (by repeat (first | (with_reducible first | exact HB.out | apply below_alloc | apply pw_below_drewN | apply below_drew1) | exact HB.out)) hb); clear HO223; clear HO228; clear HO231; clear HB; have HO223 := n0_; have HO228 := n1_; have HO231 := n2_; have HO236 := n3_; have HB := n4_; clear n0_ n1_ n2_ n3_ n4_; (try clear hb); (try clear hb2); (try clear hk); (try clear hi); (try clear ho0); obtain ⟨Ao47, co47, eo47⟩ := Kd.R_slice HO223.out; subst eo47; obtain ⟨Ao48, co48, eo48⟩ := Kd.R_slice HO228.out; subst eo48) | ((with_reducible refine gate_callee (f := 16) rfl ?_); refine goesL_ (some 41) rfl rfl Try.func16 (by kernel_rfl) rfl #[.slice Ao47 t219.length co47, .slice Ao48 t224.length co48] rfl (by (try simp only [List.map_toArray, List.map_cons, List.map_nil]); first | done | rfl | (simp only [List.length_drop, List.length_take]; rfl)) ?_; (with_reducible refine (firkinref01_Same.calls _ _ t219 _ _ t224 true _ ?side1 ?side2 ?side3 ?side4 A9.out).mono ?_); (case side1 => repeat (first | exact (Kd.R_reads' HO223.out).2.2 | (with_reducible refine Kd.C_alloc ?_ _) | (with_reducible refine Kd.C_drewN ?_ _) | (with_reducible refine Kd.C_drew ?_))); (case side2 => exact (Kd.R_reads' HO223.out).2.1); (case side3 => repeat (first | exact (Kd.R_reads' HO228.out).2.2 | (with_reducible refine Kd.C_alloc ?_ _) | (with_reducible refine Kd.C_drewN ?_ _) | (with_reducible refine Kd.C_drew ?_))); (case side4 => exact (Kd.R_reads' HO228.out).2.1); rintro e w' ⟨rfl, ⟨nd, rfl⟩⟩; refine ⟨_, rfl, ?_⟩) | (go_at_call 18; (with_reducible refine (firkinlaw03_num.calls t221 t238 _ A12.out).mono ?_); rintro e w' ⟨rfl, ⟨nd, rfl⟩⟩))
          go_ret
          exact ⟨by first | rfl | (simp [errW_none, errW_some] <;> rfl) | (simp [*, errW_none, errW_some] <;> rfl), by repeat (first | (with_reducible first | exact HB.out | apply below_alloc | apply pw_below_drewN | apply below_drew1) | exact HB.out)⟩
      · rw [if_neg c11] at H
        have c11b0 : (t220 == t225) = false := beq_eq_false_iff_ne.mpr c11
        have c11b1 : (t220 != t225) = true := bne_iff_ne.mpr c11
        obtain rfl := Option.some.inj H
        go_enter Try.func5, Try.ntmps5
        go_wp2_with (first | ((with_reducible refine gate_callee (f := 15) rfl ?_); refine goesL_ (some 19) rfl rfl Try.func15 (by kernel_rfl) rfl #[.slice A0 l0.length c0] rfl (by (try simp only [List.map_toArray, List.map_cons, List.map_nil]); first | done | rfl | (simp only [List.length_drop, List.length_take]; rfl)) ?_; (with_reducible refine (frame_Get.calls k _ _ l0 t219 t220 t221 _ ?side1 ?side2 A5.out).mono ?_); (case side1 => repeat (first | exact HR0.out | (with_reducible refine Kd.C_alloc ?_ _) | (with_reducible refine Kd.C_drewN ?_ _) | (with_reducible refine Kd.C_drew ?_))); (case side2 => exact HC0.out); rintro e w49 ⟨v222, rfl, ho0, hb⟩; refine ⟨_, rfl, ?_⟩; have n0_ := Aside0.mk (Kd.R_lower ho0 (below_size (by repeat (first | (with_reducible first | exact HB.out | apply below_alloc | apply pw_below_drewN | apply below_drew1) | exact HB.out)))); have n1_ := Aside0.mk (below_step (by repeat (first | (with_reducible first | exact HB.out | apply below_alloc | apply pw_below_drewN | apply below_drew1) | exact HB.out)) hb); clear HB; have HO223 := n0_; have HB := n1_; clear n0_ n1_; (try clear hb); (try clear hb2); (try clear hk); (try clear hi); (try clear ho0)) | ((with_reducible refine gate_callee (f := 19) rfl ?_); refine goesL_ (some 25) rfl rfl Try.func19 (by kernel_rfl) rfl #[.slice A0 l0.length c0] rfl (by (try simp only [List.map_toArray, List.map_cons, List.map_nil]); first | done | rfl | (simp only [List.length_drop, List.length_take]; rfl)) ?_; (with_reducible refine (firkinref03_Get.calls k _ _ l0 t224 t225 t226 _ ?side1 ?side2 A6.out).mono ?_); (case side1 => repeat (first | exact (Kd.C_below HR0.out HB.out) | (with_reducible refine Kd.C_alloc ?_ _) | (with_reducible refine Kd.C_drewN ?_ _) | (with_reducible refine Kd.C_drew ?_))); (case side2 => exact HC0.out); rintro e w50 ⟨v227, rfl, ho0, hb⟩; refine ⟨_, rfl, ?_⟩; have n0_ := Aside0.mk (Kd.R_elder' (by (with_reducible repeat (first | apply Kd.R_alloc | apply Kd.R_drewN | apply Kd.R_drew)); exact HO223.out) (Kd.R_base ho0) hb); have n1_ := Aside0.mk (Kd.R_lower (Kd.R_new' ho0 (Kd.R_lt (by (with_reducible repeat (first | apply Kd.R_alloc | apply Kd.R_drewN | apply Kd.R_drew)); exact HO223.out))) (below_size (by repeat (first | (with_reducible first | exact HB.out | apply below_alloc | apply pw_below_drewN | apply below_drew1) | exact HB.out)))); have n2_ := Aside0.mk (below_step (by repeat (first | (with_reducible first | exact HB.out | apply below_alloc | apply pw_below_drewN | apply below_drew1) | exact HB.out)) hb); clear HO223; clear HB; have HO223 := n0_; have HO228 := n1_; have HB := n2_; clear n0_ n1_ n2_; (try clear hb); (try clear hb2); (try clear hk); (try clear hi); (try clear ho0)) | ((with_reducible refine gate_callee (f := 20) rfl ?_); refine goesL_ (some 31) rfl rfl Try.func20 (by kernel_rfl) rfl #[.slice A0 l0.length c0] rfl (by (try simp only [List.map_toArray, List.map_cons, List.map_nil]); first | done | rfl | (simp only [List.length_drop, List.length_take]; rfl)) ?_; (with_reducible refine (frame_All.calls k _ _ l0 t229 t232 _ ?side1 ?side2 A7.out).mono ?_); (case side1 => repeat (first | exact (Kd.C_below HR0.out HB.out) | (with_reducible refine Kd.C_alloc ?_ _) | (with_reducible refine Kd.C_drewN ?_ _) | (with_reducible refine Kd.C_drew ?_))); (case side2 => exact HC0.out); rintro e w51 ⟨v230, rfl, ho0, hb⟩; refine ⟨_, rfl, ?_⟩; have n0_ := Aside0.mk (Kd.R_below (by (with_reducible repeat (first | apply Kd.R_alloc | apply Kd.R_drewN | apply Kd.R_drew)); exact HO223.out) hb); have n1_ := Aside0.mk (Kd.R_below (by (with_reducible repeat (first | apply Kd.R_alloc | apply Kd.R_drewN | apply Kd.R_drew)); exact HO228.out) hb); have n2_ := Aside0.mk (Kd.V_lower (Kd.V_mono (ok' := fun k_ => some k_ ≠ (v222 : Value).ownBlock ∧ some k_ ≠ (v227 : Value).ownBlock) ho0 (fun k_ hk_ => ⟨(Kd.fresh' (Kd.R_lt (by (with_reducible repeat (first | apply Kd.R_alloc | apply Kd.R_drewN | apply Kd.R_drew)); exact HO223.out)) k_ hk_), (Kd.fresh' (Kd.R_lt (by (with_reducible repeat (first | apply Kd.R_alloc | apply Kd.R_drewN | apply Kd.R_drew)); exact HO228.out)) k_ hk_)⟩)) (below_size (by repeat (first | (with_reducible first | exact HB.out | apply below_alloc | apply pw_below_drewN | apply below_drew1) | exact HB.out)))); have n3_ := Aside0.mk (below_step (by repeat (first | (with_reducible first | exact HB.out | apply below_alloc | apply pw_below_drewN | apply below_drew1) | exact HB.out)) hb); clear HO223; clear HO228; clear HB; have HO223 := n0_; have HO228 := n1_; have HO231 := n2_; have HB := n3_; clear n0_ n1_ n2_ n3_; (try clear hb); (try clear hb2); (try clear hk); (try clear hi); (try clear ho0)) | ((with_reducible refine gate_callee (f := 21) rfl ?_); refine goesL_ (some 36) rfl rfl Try.func21 (by kernel_rfl) rfl #[.slice A0 l0.length c0] rfl (by (try simp only [List.map_toArray, List.map_cons, List.map_nil]); first | done | rfl | (simp only [List.length_drop, List.length_take]; rfl)) ?_; (with_reducible refine (firkinref03_All.calls k _ _ l0 t233 t234 _ ?side1 ?side2 A8.out).mono ?_); (case side1 => repeat (first | exact (Kd.C_below HR0.out HB.out) | (with_reducible refine Kd.C_alloc ?_ _) | (with_reducible refine Kd.C_drewN ?_ _) | (with_reducible refine Kd.C_drew ?_))); (case side2 => exact HC0.out); rintro e w52 ⟨v235, rfl, ho0, hb⟩; refine ⟨_, rfl, ?_⟩; have n0_ := Aside0.mk (Kd.R_below (by (with_reducible repeat (first | apply Kd.R_alloc | apply Kd.R_drewN | apply Kd.R_drew)); exact HO223.out) hb); have n1_ := Aside0.mk (Kd.R_below (by (with_reducible repeat (first | apply Kd.R_alloc | apply Kd.R_drewN | apply Kd.R_drew)); exact HO228.out) hb); have n2_ := Aside0.mk (Kd.V_elder' (by (with_reducible repeat (first | apply Kd.V_alloc | apply Kd.V_drewN | apply Kd.V_drew)); exact HO231.out) (Kd.S_base ho0) hb); have n3_ := Aside0.mk (Kd.S_lower (Kd.S_new' (Kd.S_new' ho0 (Kd.R_lt (by (with_reducible repeat (first | apply Kd.R_alloc | apply Kd.R_drewN | apply Kd.R_drew)); exact HO223.out))) (Kd.R_lt (by (with_reducible repeat (first | apply Kd.R_alloc | apply Kd.R_drewN | apply Kd.R_drew)); exact HO228.out))) (below_size (by repeat (first | (with_reducible first | exact HB.out | apply below_alloc | apply pw_below_drewN | apply below_drew1) | exact HB.out)))); have n4_ := Aside0.mk (below_step (by repeat (first | (with_reducible first | exact HB.out | apply below_alloc | apply pw_below_drewN | apply below_drew1) | exact HB.out)) hb); clear HO223; clear HO228; clear HO231; clear HB; have HO223 := n0_; have HO228 := n1_; have HO231 := n2_; have HO236 := n3_; have HB := n4_; clear n0_ n1_ n2_ n3_ n4_; (try clear hb); (try clear hb2); (try clear hk); (try clear hi); (try clear ho0); obtain ⟨Ao53, co53, eo53⟩ := Kd.R_slice HO223.out; subst eo53; obtain ⟨Ao54, co54, eo54⟩ := Kd.R_slice HO228.out; subst eo54) | ((with_reducible refine gate_callee (f := 16) rfl ?_); refine goesL_ (some 41) rfl rfl Try.func16 (by kernel_rfl) rfl #[.slice Ao53 t219.length co53, .slice Ao54 t224.length co54] rfl (by (try simp only [List.map_toArray, List.map_cons, List.map_nil]); first | done | rfl | (simp only [List.length_drop, List.length_take]; rfl)) ?_; (with_reducible refine (firkinref01_Same.calls _ _ t219 _ _ t224 true _ ?side1 ?side2 ?side3 ?side4 A9.out).mono ?_); (case side1 => repeat (first | exact (Kd.R_reads' HO223.out).2.2 | (with_reducible refine Kd.C_alloc ?_ _) | (with_reducible refine Kd.C_drewN ?_ _) | (with_reducible refine Kd.C_drew ?_))); (case side2 => exact (Kd.R_reads' HO223.out).2.1); (case side3 => repeat (first | exact (Kd.R_reads' HO228.out).2.2 | (with_reducible refine Kd.C_alloc ?_ _) | (with_reducible refine Kd.C_drewN ?_ _) | (with_reducible refine Kd.C_drew ?_))); (case side4 => exact (Kd.R_reads' HO228.out).2.1); rintro e w' ⟨rfl, ⟨nd, rfl⟩⟩; refine ⟨_, rfl, ?_⟩))
        go_ret
        exact ⟨by first | rfl | (simp [errW_none, errW_some] <;> rfl) | (simp [*, errW_none, errW_some] <;> rfl), by repeat (first | (with_reducible first | exact HB.out | apply below_alloc | apply pw_below_drewN | apply below_drew1) | exact HB.out)⟩
    · replace c10 := Bool.eq_false_iff.mpr c10
      subst c10
      have H1 : (some false) = some r := by rw [if_neg (show ¬ (false = true) by decide)] at H; exact H
      clear H
      have H := H1
      clear H1
      obtain rfl := Option.some.inj H
      go_enter Try.func5, Try.ntmps5
      go_wp2_with (first | ((with_reducible refine gate_callee (f := 15) rfl ?_); refine goesL_ (some 19) rfl rfl Try.func15 (by kernel_rfl) rfl #[.slice A0 l0.length c0] rfl (by (try simp only [List.map_toArray, List.map_cons, List.map_nil]); first | done | rfl | (simp only [List.length_drop, List.length_take]; rfl)) ?_; (with_reducible refine (frame_Get.calls k _ _ l0 t219 t220 t221 _ ?side1 ?side2 A5.out).mono ?_); (case side1 => repeat (first | exact HR0.out | (with_reducible refine Kd.C_alloc ?_ _) | (with_reducible refine Kd.C_drewN ?_ _) | (with_reducible refine Kd.C_drew ?_))); (case side2 => exact HC0.out); rintro e w55 ⟨v222, rfl, ho0, hb⟩; refine ⟨_, rfl, ?_⟩; have n0_ := Aside0.mk (Kd.R_lower ho0 (below_size (by repeat (first | (with_reducible first | exact HB.out | apply below_alloc | apply pw_below_drewN | apply below_drew1) | exact HB.out)))); have n1_ := Aside0.mk (below_step (by repeat (first | (with_reducible first | exact HB.out | apply below_alloc | apply pw_below_drewN | apply below_drew1) | exact HB.out)) hb); clear HB; have HO223 := n0_; have HB := n1_; clear n0_ n1_; (try clear hb); (try clear hb2); (try clear hk); (try clear hi); (try clear ho0)) | ((with_reducible refine gate_callee (f := 19) rfl ?_); refine goesL_ (some 25) rfl rfl Try.func19 (by kernel_rfl) rfl #[.slice A0 l0.length c0] rfl (by (try simp only [List.map_toArray, List.map_cons, List.map_nil]); first | done | rfl | (simp only [List.length_drop, List.length_take]; rfl)) ?_; (with_reducible refine (firkinref03_Get.calls k _ _ l0 t224 t225 t226 _ ?side1 ?side2 A6.out).mono ?_); (case side1 => repeat (first | exact (Kd.C_below HR0.out HB.out) | (with_reducible refine Kd.C_alloc ?_ _) | (with_reducible refine Kd.C_drewN ?_ _) | (with_reducible refine Kd.C_drew ?_))); (case side2 => exact HC0.out); rintro e w56 ⟨v227, rfl, ho0, hb⟩; refine ⟨_, rfl, ?_⟩; have n0_ := Aside0.mk (Kd.R_elder' (by (with_reducible repeat (first | apply Kd.R_alloc | apply Kd.R_drewN | apply Kd.R_drew)); exact HO223.out) (Kd.R_base ho0) hb); have n1_ := Aside0.mk (Kd.R_lower (Kd.R_new' ho0 (Kd.R_lt (by (with_reducible repeat (first | apply Kd.R_alloc | apply Kd.R_drewN | apply Kd.R_drew)); exact HO223.out))) (below_size (by repeat (first | (with_reducible first | exact HB.out | apply below_alloc | apply pw_below_drewN | apply below_drew1) | exact HB.out)))); have n2_ := Aside0.mk (below_step (by repeat (first | (with_reducible first | exact HB.out | apply below_alloc | apply pw_below_drewN | apply below_drew1) | exact HB.out)) hb); clear HO223; clear HB; have HO223 := n0_; have HO228 := n1_; have HB := n2_; clear n0_ n1_ n2_; (try clear hb); (try clear hb2); (try clear hk); (try clear hi); (try clear ho0)) | ((with_reducible refine gate_callee (f := 20) rfl ?_); refine goesL_ (some 31) rfl rfl Try.func20 (by kernel_rfl) rfl #[.slice A0 l0.length c0] rfl (by (try simp only [List.map_toArray, List.map_cons, List.map_nil]); first | done | rfl | (simp only [List.length_drop, List.length_take]; rfl)) ?_; (with_reducible refine (frame_All.calls k _ _ l0 t229 t232 _ ?side1 ?side2 A7.out).mono ?_); (case side1 => repeat (first | exact (Kd.C_below HR0.out HB.out) | (with_reducible refine Kd.C_alloc ?_ _) | (with_reducible refine Kd.C_drewN ?_ _) | (with_reducible refine Kd.C_drew ?_))); (case side2 => exact HC0.out); rintro e w57 ⟨v230, rfl, ho0, hb⟩; refine ⟨_, rfl, ?_⟩; have n0_ := Aside0.mk (Kd.R_below (by (with_reducible repeat (first | apply Kd.R_alloc | apply Kd.R_drewN | apply Kd.R_drew)); exact HO223.out) hb); have n1_ := Aside0.mk (Kd.R_below (by (with_reducible repeat (first | apply Kd.R_alloc | apply Kd.R_drewN | apply Kd.R_drew)); exact HO228.out) hb); have n2_ := Aside0.mk (Kd.V_lower (Kd.V_mono (ok' := fun k_ => some k_ ≠ (v222 : Value).ownBlock ∧ some k_ ≠ (v227 : Value).ownBlock) ho0 (fun k_ hk_ => ⟨(Kd.fresh' (Kd.R_lt (by (with_reducible repeat (first | apply Kd.R_alloc | apply Kd.R_drewN | apply Kd.R_drew)); exact HO223.out)) k_ hk_), (Kd.fresh' (Kd.R_lt (by (with_reducible repeat (first | apply Kd.R_alloc | apply Kd.R_drewN | apply Kd.R_drew)); exact HO228.out)) k_ hk_)⟩)) (below_size (by repeat (first | (with_reducible first | exact HB.out | apply below_alloc | apply pw_below_drewN | apply below_drew1) | exact HB.out)))); have n3_ := Aside0.mk (below_step (by repeat (first | (with_reducible first | exact HB.out | apply below_alloc | apply pw_below_drewN | apply below_drew1) | exact HB.out)) hb); clear HO223; clear HO228; clear HB; have HO223 := n0_; have HO228 := n1_; have HO231 := n2_; have HB := n3_; clear n0_ n1_ n2_ n3_; (try clear hb); (try clear hb2); (try clear hk); (try clear hi); (try clear ho0)) | ((with_reducible refine gate_callee (f := 21) rfl ?_); refine goesL_ (some 36) rfl rfl Try.func21 (by kernel_rfl) rfl #[.slice A0 l0.length c0] rfl (by (try simp only [List.map_toArray, List.map_cons, List.map_nil]); first | done | rfl | (simp only [List.length_drop, List.length_take]; rfl)) ?_; (with_reducible refine (firkinref03_All.calls k _ _ l0 t233 t234 _ ?side1 ?side2 A8.out).mono ?_); (case side1 => repeat (first | exact (Kd.C_below HR0.out HB.out) | (with_reducible refine Kd.C_alloc ?_ _) | (with_reducible refine Kd.C_drewN ?_ _) | (with_reducible refine Kd.C_drew ?_))); (case side2 => exact HC0.out); rintro e w58 ⟨v235, rfl, ho0, hb⟩; refine ⟨_, rfl, ?_⟩; have n0_ := Aside0.mk (Kd.R_below (by (with_reducible repeat (first | apply Kd.R_alloc | apply Kd.R_drewN | apply Kd.R_drew)); exact HO223.out) hb); have n1_ := Aside0.mk (Kd.R_below (by (with_reducible repeat (first | apply Kd.R_alloc | apply Kd.R_drewN | apply Kd.R_drew)); exact HO228.out) hb); have n2_ := Aside0.mk (Kd.V_elder' (by (with_reducible repeat (first | apply Kd.V_alloc | apply Kd.V_drewN | apply Kd.V_drew)); exact HO231.out) (Kd.S_base ho0) hb); have n3_ := Aside0.mk (Kd.S_lower (Kd.S_new' (Kd.S_new' ho0 (Kd.R_lt (by (with_reducible repeat (first | apply Kd.R_alloc | apply Kd.R_drewN | apply Kd.R_drew)); exact HO223.out))) (Kd.R_lt (by (with_reducible repeat (first | apply Kd.R_alloc | apply Kd.R_drewN | apply Kd.R_drew)); exact HO228.out))) (below_size (by repeat (first | (with_reducible first | exact HB.out | apply below_alloc | apply pw_below_drewN | apply below_drew1) | exact HB.out)))); have n4_ := Aside0.mk (below_step (by repeat (first | (with_reducible first | exact HB.out | apply below_alloc | apply pw_below_drewN | apply below_drew1) | exact HB.out)) hb); clear HO223; clear HO228; clear HO231; clear HB; have HO223 := n0_; have HO228 := n1_; have HO231 := n2_; have HO236 := n3_; have HB := n4_; clear n0_ n1_ n2_ n3_ n4_; (try clear hb); (try clear hb2); (try clear hk); (try clear hi); (try clear ho0); obtain ⟨Ao59, co59, eo59⟩ := Kd.R_slice HO223.out; subst eo59; obtain ⟨Ao60, co60, eo60⟩ := Kd.R_slice HO228.out; subst eo60) | ((with_reducible refine gate_callee (f := 16) rfl ?_); refine goesL_ (some 41) rfl rfl Try.func16 (by kernel_rfl) rfl #[.slice Ao59 t219.length co59, .slice Ao60 t224.length co60] rfl (by (try simp only [List.map_toArray, List.map_cons, List.map_nil]); first | done | rfl | (simp only [List.length_drop, List.length_take]; rfl)) ?_; (with_reducible refine (firkinref01_Same.calls _ _ t219 _ _ t224 false _ ?side1 ?side2 ?side3 ?side4 A9.out).mono ?_); (case side1 => repeat (first | exact (Kd.R_reads' HO223.out).2.2 | (with_reducible refine Kd.C_alloc ?_ _) | (with_reducible refine Kd.C_drewN ?_ _) | (with_reducible refine Kd.C_drew ?_))); (case side2 => exact (Kd.R_reads' HO223.out).2.1); (case side3 => repeat (first | exact (Kd.R_reads' HO228.out).2.2 | (with_reducible refine Kd.C_alloc ?_ _) | (with_reducible refine Kd.C_drewN ?_ _) | (with_reducible refine Kd.C_drew ?_))); (case side4 => exact (Kd.R_reads' HO228.out).2.1); rintro e w' ⟨rfl, ⟨nd, rfl⟩⟩; refine ⟨_, rfl, ?_⟩))
      go_ret
      exact ⟨by first | rfl | (simp [errW_none, errW_some] <;> rfl) | (simp [*, errW_none, errW_some] <;> rfl), by repeat (first | (with_reducible first | exact HB.out | apply below_alloc | apply pw_below_drewN | apply below_drew1) | exact HB.out)⟩

end Go.Proofs.Ythcmokglgepgjaa.X
/- Plain facts on layer 2 (crc): the sum, bit by bit, and that four bits at once by the table are the same. -/
namespace Go.Proofs.Ythcmokglgepgjaa.Crc
open Go.RowKit Go.Proofs.Ythcmokglgepgjaa.X Go.Proofs.YthcmokglgepgjaaW.PrintWords Go.Proofs.YthcmokglgepgjaaW.PrintLast Go.Proofs.YthcmokglgepgjaaW.PrintMore
set_option linter.unusedVariables false
theorem w64 {x : Int} (h0 : -9223372036854775808 ≤ x) (h1 : x < 9223372036854775808) : wrap64 x = x := by unfold wrap64; omega
/-- One bit's step. -/
def st (s : Nat) : Nat := (s / 2) ^^^ (if s % 2 = 1 then 2197175160 else 0)
def st4 (s : Nat) : Nat := st (st (st (st s)))
def st8 (s : Nat) : Nat := st4 (st4 s)
theorem st_lt {s : Nat} (h : s < 4294967296) : st s < 4294967296 := by
  unfold st
  have : s / 2 ^^^ (if s % 2 = 1 then 2197175160 else 0) < 2 ^ 32 := Nat.xor_lt_two_pow (by omega) (by split <;> omega)
  simpa using this
theorem st4_lt {s : Nat} (h : s < 4294967296) : st4 s < 4294967296 := st_lt (st_lt (st_lt (st_lt h)))
theorem st_xor (a b : Nat) : st (a ^^^ b) = st a ^^^ st b := by
  unfold st
  rw [Nat.xor_div_two]
  have h := @Nat.xor_mod_two_eq_one a b
  by_cases ha : a % 2 = 1 <;> by_cases hb : b % 2 = 1
  · have : ¬ (a ^^^ b) % 2 = 1 := by rw [h]; simp [ha, hb]
    rw [if_neg this, if_pos ha, if_pos hb, Nat.xor_zero, Nat.xor_assoc, Nat.xor_comm 2197175160 _, Nat.xor_assoc, Nat.xor_self, Nat.xor_zero]
  · have : (a ^^^ b) % 2 = 1 := by rw [h]; simp [ha, hb]
    rw [if_pos this, if_pos ha, if_neg hb, Nat.xor_zero, Nat.xor_assoc, Nat.xor_assoc, Nat.xor_comm (b / 2)]
  · have : (a ^^^ b) % 2 = 1 := by rw [h]; simp [ha, hb]
    rw [if_pos this, if_neg ha, if_pos hb, Nat.xor_zero, Nat.xor_assoc]
  · have : ¬ (a ^^^ b) % 2 = 1 := by rw [h]; simp [ha, hb]
    rw [if_neg this, if_neg ha, if_neg hb, Nat.xor_zero, Nat.xor_zero, Nat.xor_zero]
theorem st4_xor (a b : Nat) : st4 (a ^^^ b) = st4 a ^^^ st4 b := by unfold st4; rw [st_xor, st_xor, st_xor, st_xor]
theorem split16 (x : Nat) : x = (16 * (x / 16)) ^^^ (x % 16) := by
  apply Nat.eq_of_testBit_eq
  intro i
  have e1 : 16 * (x / 16) = (x >>> 4) <<< 4 := by rw [Nat.shiftLeft_eq, Nat.shiftRight_eq_div_pow]; omega
  have e2 : x % 16 = x % 2 ^ 4 := rfl
  rw [Nat.testBit_xor, e1, e2, Nat.testBit_shiftLeft, Nat.testBit_mod_two_pow, Nat.testBit_shiftRight]
  by_cases hi : 4 ≤ i
  · have h1 : 4 + (i - 4) = i := by omega
    have h2 : decide (i < 4) = false := by simp; omega
    simp [hi, h1, h2]
  · have h2 : decide (i < 4) = true := by simp; omega
    simp [hi, h2]
theorem st4_16 (h : Nat) : st4 (16 * h) = h := by
  have s1 : st (16 * h) = 8 * h := by unfold st; rw [if_neg (by omega), Nat.xor_zero]; omega
  have s2 : st (8 * h) = 4 * h := by unfold st; rw [if_neg (by omega), Nat.xor_zero]; omega
  have s3 : st (4 * h) = 2 * h := by unfold st; rw [if_neg (by omega), Nat.xor_zero]; omega
  have s4 : st (2 * h) = h := by unfold st; rw [if_neg (by omega), Nat.xor_zero]; omega
  unfold st4; rw [s1, s2, s3, s4]
theorem tab_is : ∀ j, j < 16 → halfTab.getD j 0 = ((st4 j : Nat) : Int)
  | 0, _ | 1, _ | 2, _ | 3, _ | 4, _ | 5, _ | 6, _ | 7, _ | 8, _ | 9, _ | 10, _ | 11, _ | 12, _ | 13, _ | 14, _ | 15, _ => by decide +kernel
  | n + 16, h => absurd h (by omega)
theorem half_is (x : Nat) (h : x < 4294967296) : crc_half.f (x : Int) = some ((st4 x : Nat) : Int) := by
  unfold crc_half.f
  rw [if_pos ⟨by omega, by omega⟩, show ((x : Int) % 16).toNat = x % 16 by omega, tab_is _ (Nat.mod_lt _ (by decide)), show ((x : Int) / 16) = ((x / 16 : Nat) : Int) by omega]
  have hl : st4 (x % 16) < 4294967296 := st4_lt (by omega)
  rw [u32_xor _ _ (by omega) (by omega) (by omega) (by omega), Int.toNat_natCast, Int.toNat_natCast]
  have hx : st4 x = x / 16 ^^^ st4 (x % 16) := by
    conv => lhs; rw [split16 x]
    rw [st4_xor, st4_16]
  rw [hx]
/-- The state behind bytes. -/
def run (s : Nat) (l : List Int) : Nat := l.foldl (fun s c => st8 (s ^^^ c.toNat)) s
def IsBytes (b : List Int) : Prop := ∀ x ∈ b, 0 ≤ x ∧ x < 256
theorem byte_bounds {x : Int} (h : (Lit.int .u8 x).wf = true) : 0 ≤ x ∧ x < 256 := by
  have h' : (decide ((0 : Int) ≤ x) && decide (x ≤ 255)) = true := h
  rw [Bool.and_eq_true, decide_eq_true_eq, decide_eq_true_eq] at h'
  omega
theorem u32_bounds {x : Int} (h : (Lit.int .u32 x).wf = true) : 0 ≤ x ∧ x < 4294967296 := by
  have h' : (decide ((0 : Int) ≤ x) && decide (x ≤ 4294967295)) = true := h
  rw [Bool.and_eq_true, decide_eq_true_eq, decide_eq_true_eq] at h'
  omega
theorem xor_lt {a b : Nat} (ha : a < 4294967296) (hb : b < 4294967296) : a ^^^ b < 4294967296 := by
  have : a ^^^ b < 2 ^ 32 := Nat.xor_lt_two_pow (by omega) (by omega)
  simpa using this
theorem run_cons (s : Nat) (c : Int) (l : List Int) : run s (c :: l) = run (st8 (s ^^^ c.toNat)) l := by unfold run; rw [List.foldl_cons]
theorem st8_eq (s : Nat) : st8 s = st4 (st4 s) := rfl
theorem run_lt {l : List Int} (hb : IsBytes l) : ∀ {s : Nat}, s < 4294967296 → run s l < 4294967296 := by
  induction l with
  | nil => intro s h; exact h
  | cons c l ih =>
    intro s h
    have hc := hb c (List.mem_cons_self ..)
    rw [run_cons]
    exact ih (fun x hx => hb x (List.mem_cons_of_mem _ hx)) (st4_lt (st4_lt (xor_lt h (by omega))))
/-- A sum behind bytes, as the document says it. -/
def more (sum : Nat) (l : List Int) : Nat := 4294967295 ^^^ run (4294967295 ^^^ sum) l
theorem rd_nat (xs : List Int) (q : Nat) : rd xs (q : Int) = xs.getD q 0 := rfl
theorem drop_get {l : List Int} {i : Nat} (h : i < l.length) : l.drop i = l.getD i 0 :: l.drop (i + 1) := by
  rw [List.drop_eq_getElem_cons h]; simp [List.getD, h]
theorem get_byte {l : List Int} (hb : IsBytes l) {i : Nat} (h : i < l.length) : 0 ≤ l.getD i 0 ∧ l.getD i 0 < 256 := by
  have : l.getD i 0 = l[i] := by simp [List.getD, h]
  rw [this]; exact hb _ (List.getElem_mem h)
theorem more_loop (l : List Int) (hb : IsBytes l) (hl : l.length < 1000000000) (d : Nat) : ∀ (k i s : Nat), i + d = l.length → d < k → s < 4294967296 →
    crc_More.l0 k (s : Int) l (l.length : Int) (i : Int) = some ((4294967295 ^^^ run s (l.drop i) : Nat) : Int) := by
  induction d with
  | zero =>
    intro k i s hd hk hs
    obtain ⟨k, rfl⟩ : ∃ m, k = m + 1 := ⟨k - 1, by omega⟩
    simp only [crc_More.l0]
    rw [if_neg (by omega), u32_xor _ _ (by omega) (by omega) (by omega) (by omega), List.drop_eq_nil_of_le (by omega), Int.toNat_natCast, show (4294967295 : Int).toNat = 4294967295 by decide]
    unfold run; rw [List.foldl_nil]
  | succ d ih =>
    intro k i s hd hk hs
    obtain ⟨k, rfl⟩ : ∃ m, k = m + 1 := ⟨k - 1, by omega⟩
    have hi : i < l.length := by omega
    have hc := get_byte hb hi
    simp only [crc_More.l0]
    rw [if_pos (by omega), if_pos (by omega), if_pos (by omega), rd_nat, show l.getD i 0 % 4294967296 = l.getD i 0 by omega, u32_xor _ _ (by omega) (by omega) (by omega) (by omega), Int.toNat_natCast]
    have hx := xor_lt hs (show (l.getD i 0).toNat < 4294967296 by omega)
    rw [half_is _ hx, Option.bind_some, half_is _ (st4_lt hx), Option.bind_some]
    rw [w64 (by omega) (by omega), show ((i : Int) + 1) = ((i + 1 : Nat) : Int) by omega, ih k (i + 1) _ (by omega) (by omega) (st4_lt (st4_lt hx)), drop_get hi]
    rw [run_cons, st8_eq]
theorem more_is (l : List Int) (hb : IsBytes l) (hl : l.length < 1000000000) (s : Nat) (hs : s < 4294967296) (k : Nat) (hk : l.length < k) : crc_More.f k (s : Int) l = some ((more s l : Nat) : Int) := by
  unfold crc_More.f
  rw [u32_xor _ _ (by omega) (by omega) (by omega) (by omega), Int.toNat_natCast, show (4294967295 : Int).toNat = 4294967295 by decide]
  have := more_loop l hb hl l.length k 0 _ (by omega) hk (xor_lt (show 4294967295 < 4294967296 by decide) hs)
  rw [List.drop_zero] at this
  exact this
theorem of_loop (ls : List (List Int)) (hb : ∀ l ∈ ls, IsBytes l ∧ l.length < 1000000000) (hl : ls.length < 1000000000) (K : Nat) (hK : ∀ l ∈ ls, l.length < K) (d : Nat) : ∀ (k i s : Nat), i + d = ls.length → d + K < k → s < 4294967296 →
    crc_Of.l0 k (s : Int) ls (ls.length : Int) (i : Int) = some (((ls.drop i).foldl more s : Nat) : Int) := by
  induction d with
  | zero =>
    intro k i s hd hk hs
    obtain ⟨k, rfl⟩ : ∃ m, k = m + 1 := ⟨k - 1, by omega⟩
    simp only [crc_Of.l0]
    rw [if_neg (by omega), List.drop_eq_nil_of_le (by omega)]
    rfl
  | succ d ih =>
    intro k i s hd hk hs
    obtain ⟨k, rfl⟩ : ∃ m, k = m + 1 := ⟨k - 1, by omega⟩
    have hi : i < ls.length := by omega
    have hm : ls[i] ∈ ls := List.getElem_mem hi
    simp only [crc_Of.l0]
    rw [if_pos (by omega), if_pos (by omega), if_pos (by omega)]
    have hg : ∀ z : List Int, List.getD ls (i : Int).toNat z = ls[i] := fun z => by rw [Int.toNat_natCast]; simp [List.getD, hi]
    have hg2 : rd_L4 ls (i : Int) = ls[i] := hg _
    rw [hg2, more_is _ (hb _ hm).1 (hb _ hm).2 s hs k (by have := hK _ hm; omega)]
    simp only [Option.bind_some]
    have hlt : more s ls[i] < 4294967296 := xor_lt (by decide) (run_lt (hb _ hm).1 (xor_lt (by decide) hs))
    rw [w64 (by omega) (by omega), show ((i : Int) + 1) = ((i + 1 : Nat) : Int) by omega, ih k (i + 1) _ (by omega) (by omega) hlt, List.drop_eq_getElem_cons hi]
    rfl
theorem of_is (ls : List (List Int)) (hb : ∀ l ∈ ls, IsBytes l ∧ l.length < 1000000000) (hl : ls.length < 1000000000) (K : Nat) (hK : ∀ l ∈ ls, l.length < K) (k : Nat) (hk : ls.length + K < k) :
    crc_Of.f k ls = some ((ls.foldl more 0 : Nat) : Int) := by
  unfold crc_Of.f
  have := of_loop ls hb hl K hK ls.length k 0 0 (by omega) (by omega) (by decide)
  rw [List.drop_zero] at this
  exact this
/-- Parted bytes' sums go on from each other. -/
theorem xx (a b : Nat) : a ^^^ (a ^^^ b) = b := by rw [← Nat.xor_assoc, Nat.xor_self, Nat.zero_xor]
theorem more_append (s : Nat) (l m : List Int) : more s (l ++ m) = more (more s l) m := by
  unfold more run; rw [List.foldl_append, xx]
theorem more_flat (ls : List (List Int)) : ∀ s, ls.foldl more s = more s ls.flatten := by
  induction ls with
  | nil => intro s; show s = _; unfold more run; simp [xx]
  | cons l ls ih => intro s; rw [List.foldl_cons, ih, List.flatten_cons, more_append]
/-- The reference's loops. -/
theorem tmod2 (s : Nat) : Int.tmod (s : Int) 2 = ((s % 2 : Nat) : Int) := by rw [Int.tmod_eq_emod_of_nonneg (by omega)]; omega
theorem tdiv2 (s : Nat) : Int.tdiv (s : Int) 2 = ((s / 2 : Nat) : Int) := by rw [Int.tdiv_eq_ediv_of_nonneg (by omega)]; omega
theorem bit_step (k : Nat) (l : List Int) (i : Int) (s : Nat) (hs : s < 4294967296) (j : Nat) (hj : j < 8) : firkinref02_More.l1 (k + 1) l (s : Int) i (j : Int) = firkinref02_More.l1 k l ((st s : Nat) : Int) i ((j + 1 : Nat) : Int) := by
  conv => lhs; simp only [firkinref02_More.l1]
  rw [if_pos (by omega), tmod2, tdiv2, show (((s / 2 : Nat) : Int) % 4294967296) = ((s / 2 : Nat) : Int) by omega, w64 (by omega) (by omega), show ((j : Int) + 1) = ((j + 1 : Nat) : Int) by omega]
  unfold st
  by_cases h : s % 2 = 1
  · rw [if_pos (by omega), if_pos h, u32_xor _ _ (by omega) (by omega) (by omega) (by omega)]; rfl
  · rw [if_neg (by omega), if_neg h, Nat.xor_zero]
theorem byte_step (k : Nat) (l : List Int) (i : Int) (s : Nat) (hs : s < 4294967296) : firkinref02_More.l1 (k + 9) l (s : Int) i 0 = firkinref02_More.l0 k l ((st8 s : Nat) : Int) (wrap64 (i + 1)) := by
  have e0 : ((0 : Nat) : Int) = 0 := rfl
  rw [← e0]
  show _ = firkinref02_More.l0 k l ((st4 (st4 s) : Nat) : Int) (wrap64 (i + 1))
  rw [bit_step (k + 8) l i s hs 0 (by decide), bit_step (k + 7) l i _ (st_lt hs) 1 (by decide), bit_step (k + 6) l i _ (st_lt (st_lt hs)) 2 (by decide), bit_step (k + 5) l i _ (st_lt (st_lt (st_lt hs))) 3 (by decide)]
  have h4 : st (st (st (st s))) = st4 s := rfl
  rw [h4]
  have hs' := st4_lt hs
  generalize st4 s = t at *
  rw [bit_step (k + 4) l i t hs' 4 (by decide), bit_step (k + 3) l i _ (st_lt hs') 5 (by decide), bit_step (k + 2) l i _ (st_lt (st_lt hs')) 6 (by decide), bit_step (k + 1) l i _ (st_lt (st_lt (st_lt hs'))) 7 (by decide)]
  have h5 : st (st (st (st t))) = st4 t := rfl
  rw [h5]
  simp only [firkinref02_More.l1]
  rw [if_neg (by decide)]
theorem ref_loop (l : List Int) (hb : IsBytes l) (hl : l.length < 1000000000) (d : Nat) : ∀ (k i s : Nat), i + d = l.length → 10 * d < k → s < 4294967296 →
    firkinref02_More.l0 k l (s : Int) (i : Int) = some ((4294967295 ^^^ run s (l.drop i) : Nat) : Int) := by
  induction d with
  | zero =>
    intro k i s hd hk hs
    obtain ⟨k, rfl⟩ : ∃ m, k = m + 1 := ⟨k - 1, by omega⟩
    simp only [firkinref02_More.l0]
    rw [if_neg (by omega), u32_xor _ _ (by omega) (by omega) (by omega) (by omega), List.drop_eq_nil_of_le (by omega), Int.toNat_natCast, show (4294967295 : Int).toNat = 4294967295 by decide, Nat.xor_comm]
    unfold run; rw [List.foldl_nil]
  | succ d ih =>
    intro k i s hd hk hs
    obtain ⟨k, rfl⟩ : ∃ m, k = m + 10 := ⟨k - 10, by omega⟩
    have hi : i < l.length := by omega
    have hc := get_byte hb hi
    have hx := xor_lt hs (show (l.getD i 0).toNat < 4294967296 by omega)
    rw [show k + 10 = (k + 9) + 1 from rfl]
    rw [firkinref02_More.l0]
    rw [if_pos (by omega), if_pos (by omega), rd_nat, show l.getD i 0 % 4294967296 = l.getD i 0 by omega, u32_xor _ _ (by omega) (by omega) (by omega) (by omega), Int.toNat_natCast, byte_step _ _ _ _ hx]
    rw [w64 (by omega) (by omega), show ((i : Int) + 1) = ((i + 1 : Nat) : Int) by omega, ih k (i + 1) (st8 _) (by omega) (by omega) (st4_lt (st4_lt hx)), drop_get hi]
    rw [run_cons]
theorem ref_is (l : List Int) (hb : IsBytes l) (hl : l.length < 1000000000) (s : Nat) (hs : s < 4294967296) (k : Nat) (hk : 10 * l.length < k) : firkinref02_More.f k (s : Int) l = some ((more s l : Nat) : Int) := by
  unfold firkinref02_More.f
  rw [u32_xor _ _ (by omega) (by omega) (by omega) (by omega), Int.toNat_natCast, show (4294967295 : Int).toNat = 4294967295 by decide]
  have := ref_loop l hb hl l.length k 0 _ (by omega) (by omega) (xor_lt hs (show 4294967295 < 4294967296 by decide))
  rw [List.drop_zero] at this
  rw [show ((0 : Nat) : Int) = 0 from rfl] at this
  rw [this]; unfold more; rw [Nat.xor_comm s]
end Go.Proofs.Ythcmokglgepgjaa.Crc
/- A number's bytes, plain law: the code's and the document's are the same. -/
namespace Go.Proofs.Ythcmokglgepgjaa.Enc
open Go.RowKit Go.Proofs.Ythcmokglgepgjaa.X Go.Proofs.Ythcmokglgepgjaa.Dec Go.Proofs.YthcmokglgepgjaaW.PrintWords Go.Proofs.YthcmokglgepgjaaW.PrintLast Go.Proofs.YthcmokglgepgjaaW.PrintMore
set_option linter.unusedVariables false
theorem num_loop (n G : Nat) (hG : 1 ≤ G) (hG2 : G ≤ 10) (d : Nat) : ∀ (k i : Nat), i + d = G → d < k →
    vint_Num.l0 k (n : Int) (G : Int) (laid n G i) (G : Int) (i : Int) = some (encL n G) := by
  induction d with
  | zero =>
    intro k i hd hk
    obtain ⟨k, rfl⟩ : ∃ m, k = m + 1 := ⟨k - 1, by omega⟩
    obtain rfl : i = G := by omega
    rw [vint_Num.l0, if_neg (by omega), w64 (by omega) (by omega), if_pos (by omega), if_pos (by rw [laid_length]; omega)]
    rw [show ((i : Int) - 1) = ((i - 1 : Nat) : Int) by omega, rd_nat, Int.toNat_natCast]
    have hg : (laid n i i).getD (i - 1) 0 = ((n / 2 ^ (7 * (i - 1)) % 128 + 128 : Nat) : Int) := by
      simp only [laid, List.getD]
      rw [List.getElem?_map, List.getElem?_range (by omega)]
      simp; omega
    rw [hg, last_seven _ (Nat.mod_lt _ (by decide)), laid_end n i hG]
  | succ d ih =>
    intro k i hd hk
    obtain ⟨k, rfl⟩ : ∃ m, k = m + 1 := ⟨k - 1, by omega⟩
    rw [vint_Num.l0, if_pos (by omega), w64 (x := 7 * (i : Int)) (by omega) (by omega), if_pos (by omega), if_pos (by omega), if_pos (by rw [laid_length]; omega)]
    rw [show (7 * (i : Int)) = ((7 * i : Nat) : Int) by omega, shr_nat n i (by omega), seven, Int.toNat_natCast, laid_set n G i (by omega), w64 (by omega) (by omega), show ((i : Int) + 1) = ((i + 1 : Nat) : Int) by omega]
    exact ih k (i + 1) (by omega) (by omega)
theorem num_is (n : Nat) (h : n < 18446744073709551616) (k : Nat) (hk : 10 < k) : vint_Num.f k (n : Int) = some (enc n) := by
  have hl := len_le n h
  have hg := grp_le (n := n) h
  unfold vint_Num.f bits_Len64.f
  rw [if_pos ⟨by omega, by omega⟩, Option.bind_some, Int.toNat_natCast]
  have e : mx 1 (wrap64 (Int.tdiv (wrap64 ((wrap64 (((Lib.bitLen n : Nat) : Int) + 7)) - 1)) 7)) = ((grp n : Nat) : Int) := by
    rw [w64 (x := ((Lib.bitLen n : Nat) : Int) + 7) (by omega) (by omega), w64 (x := ((Lib.bitLen n : Nat) : Int) + 7 - 1) (by omega) (by omega), Int.tdiv_eq_ediv_of_nonneg (by omega), w64 (by omega) (by omega)]
    unfold mx grp
    split <;> omega
  rw [e]
  rw [if_pos (by omega), Int.toNat_natCast, if_pos (by omega), Option.bind_some, List.length_replicate, ← laid_zero n]
  have := num_loop n (grp n) (grp_has h).1 hg (grp n) k 0 (by omega) (by omega)
  exact this
theorem rnum_loop (n G : Nat) (hn : Has n G) (hlt : n < 18446744073709551616) (hG : G ≤ 10) (d : Nat) : ∀ (k i : Nat) (acc : List Int), i + d = G → 1 ≤ d → d < k → acc = (encL n G).take i →
    firkinref01_Num.l0 k ((n / 2 ^ (7 * i) : Nat) : Int) acc = some (encL n G) := by
  induction d with
  | zero => intro k i acc hd h1; omega
  | succ d ih =>
    intro k i acc hd _ hk hacc
    obtain ⟨k, rfl⟩ : ∃ m, k = m + 1 := ⟨k - 1, by omega⟩
    have hq : n / 2 ^ (7 * i) < 18446744073709551616 := Nat.lt_of_le_of_lt (Nat.div_le_self _ _) hlt
    have hlen : acc.length ≤ 10 := by rw [hacc, List.length_take, encL_length]; omega
    have hget : (encL n G)[i]? = some ((encByte n G i : Nat) : Int) := by
      rw [encL, List.getElem?_map, List.getElem?_range (by omega)]; rfl
    have hsnoc : (encL n G).take i ++ [((encByte n G i : Nat) : Int)] = (encL n G).take (i + 1) := by
      have hi : i < (encL n G).length := by rw [encL_length]; omega
      rw [List.take_succ_eq_append_getElem hi]
      congr 1
      rw [List.getElem?_eq_getElem hi] at hget
      rw [Option.some.inj hget]
    have hpow : 2 ^ (7 * (i + 1)) = 2 ^ (7 * i) * 128 := by rw [show 7 * (i + 1) = 7 * i + 7 by omega, Nat.pow_add]
    rw [firkinref01_Num.l0]
    by_cases hd0 : d = 0
    · have hi : i + 1 = G := by omega
      have hsm : n / 2 ^ (7 * i) < 128 := by
        have := hn.2.1
        rw [← hi, hpow] at this
        exact Nat.div_lt_of_lt_mul this
      rw [if_neg (by omega), if_pos (by omega), hacc]
      have he : encByte n G i = n / 2 ^ (7 * i) := by unfold encByte; rw [if_neg (by omega), Nat.mod_eq_of_lt hsm, Nat.add_zero]
      rw [show (((n / 2 ^ (7 * i) : Nat) : Int) % 256) = ((n / 2 ^ (7 * i) : Nat) : Int) by omega, ← he, hsnoc, List.take_of_length_le (by rw [encL_length]; omega)]
    · have hbig : 128 ≤ n / 2 ^ (7 * i) := by
        have h1 := hn.2.2 (by omega)
        have h2 : 2 ^ (7 * (i + 1)) ≤ 2 ^ (7 * (G - 1)) := Nat.pow_le_pow_right (by decide) (by omega)
        rw [hpow] at h2
        rw [Nat.le_div_iff_mul_le (Nat.two_pow_pos _), Nat.mul_comm]
        omega
      have he : encByte n G i = n / 2 ^ (7 * i) % 128 + 128 := by unfold encByte; rw [if_pos (by omega)]
      have hdd : n / 2 ^ (7 * i) / 128 = n / 2 ^ (7 * (i + 1)) := by rw [Nat.div_div_eq_div_mul, hpow]
      rw [if_pos (by omega), if_pos (by omega), Int.tdiv_eq_ediv_of_nonneg (by omega), Int.tmod_eq_emod_of_nonneg (by omega)]
      rw [IntKind.wrap_u64, IntKind.wrap_u64]
      rw [show ((((n / 2 ^ (7 * i) : Nat) : Int) / 128) % 18446744073709551616) = ((n / 2 ^ (7 * i) / 128 : Nat) : Int) by omega, hdd]
      rw [show (((((n / 2 ^ (7 * i) : Nat) : Int) % 128 + 128) % 18446744073709551616) % 256) = ((n / 2 ^ (7 * i) % 128 + 128 : Nat) : Int) by omega, ← he]
      exact ih k (i + 1) _ (by omega) (by omega) (by omega) (by rw [hacc, hsnoc])
theorem rnum_is (n : Nat) (h : n < 18446744073709551616) (k : Nat) (hk : 11 < k) : firkinref01_Num.f k (n : Int) = some (enc n) := by
  unfold firkinref01_Num.f
  have hg := grp_le (n := n) h
  have := rnum_loop n (grp n) (grp_has h) h hg (grp n) k 0 [] (by omega) (grp_has h).1 (by omega) (by simp)
  rw [Nat.mul_zero, Nat.pow_zero, Nat.div_one] at this
  exact this
end Go.Proofs.Ythcmokglgepgjaa.Enc
/- What is read of a source, plain law: numbers, numbers below another one: the code's source and the document's read the same. -/
namespace Go.Proofs.Ythcmokglgepgjaa.Read
open Go Go.RowKit Go.Proofs.Ythcmokglgepgjaa.X Go.Proofs.Ythcmokglgepgjaa.Dec Go.Proofs.Ythcmokglgepgjaa.Enc Go.Proofs.Ythcmokglgepgjaa.Round Go.Proofs.YthcmokglgepgjaaW.PrintWords Go.Proofs.YthcmokglgepgjaaW.PrintLast Go.Proofs.YthcmokglgepgjaaW.PrintMore
set_option linter.unusedVariables false
/-- A source as it can be: of one that failed nothing is left. -/
def GoodS (l : List Int) (bad : Bool) : Prop := Fit l ∧ (bad = true → l = [])
theorem GoodS.nil (b : Bool) : GoodS [] b := ⟨Fit.nil, fun _ => rfl⟩
theorem GoodS.of {l : List Int} (h : Fit l) : GoodS l false := ⟨h, fun h => by cases h⟩
theorem GoodS.drop {l : List Int} {b : Bool} (h : GoodS l b) (k : Nat) : GoodS (l.drop k) b := ⟨h.1.drop k, fun e => by rw [h.2 e]; exact List.drop_nil⟩
def gNum (l : List Int) (bad : Bool) : Int × List Int × Bool :=
  if bad = true ∨ szS 0 l = 0 then (0, [], true) else (((valS 0 (l.take (szS 0 l)) : Nat) : Int), l.drop (szS 0 l), false)
theorem gNum_good {l : List Int} {b : Bool} (h : GoodS l b) : GoodS (gNum l b).2.1 (gNum l b).2.2 := by
  unfold gNum; split
  · exact GoodS.nil _
  · exact GoodS.of (h.1.drop _)
theorem gNum_len (l : List Int) (b : Bool) : (gNum l b).2.1.length ≤ l.length := by
  unfold gNum; split <;> simp
theorem gNum_range {l : List Int} {b : Bool} (h : GoodS l b) : 0 ≤ (gNum l b).1 ∧ (gNum l b).1 < 18446744073709551616 := by
  unfold gNum; split
  · simp
  · have := val_lt h.1.1 (Nat.le_refl (szS 0 l))
    show 0 ≤ ((_ : Nat) : Int) ∧ ((_ : Nat) : Int) < _
    omega
theorem num_g {l : List Int} {b : Bool} (h : GoodS l b) : vint_Source_Num.f l b = some (gNum l b) := by
  unfold vint_Source_Num.f numS gNum
  rw [if_pos h.1]
  cases b with
  | true => rw [if_pos rfl, if_pos (.inl rfl), h.2 rfl]
  | false =>
    rw [if_neg (by decide)]
    by_cases hz : szS 0 l = 0
    · rw [if_pos hz, if_pos (.inr hz)]
    · rw [if_neg hz, if_neg (by simp [hz])]
theorem rnum_g {l : List Int} {b : Bool} (h : GoodS l b) : firkinref01_S_Num.f l b = some (gNum l b) := by
  unfold firkinref01_S_Num.f rnumS gNum
  rw [if_pos h.1]
  cases b with
  | true => obtain rfl := h.2 rfl; rfl
  | false =>
    by_cases hz : szS 0 l = 0
    · rw [if_pos hz, if_pos (.inr hz)]
    · rw [if_neg hz, if_neg (by simp [hz])]
def gBelow (l : List Int) (bad : Bool) (n : Int) : Int × List Int × Bool :=
  if (gNum l bad).2.2 = true ∨ n ≤ 0 ∨ n ≤ (gNum l bad).1 then (0, [], true) else gNum l bad
theorem gBelow_good {l : List Int} {b : Bool} (h : GoodS l b) (n : Int) : GoodS (gBelow l b n).2.1 (gBelow l b n).2.2 := by
  unfold gBelow; split
  · exact GoodS.nil _
  · exact gNum_good h
theorem gBelow_len (l : List Int) (b : Bool) (n : Int) : (gBelow l b n).2.1.length ≤ l.length := by
  unfold gBelow; split
  · simp
  · exact gNum_len l b
theorem gBelow_range {l : List Int} {b : Bool} (h : GoodS l b) (n : Int) : 0 ≤ (gBelow l b n).1 ∧ ((gBelow l b n).1 < n ∨ (gBelow l b n).1 = 0) := by
  unfold gBelow; split
  · simp
  · have := gNum_range h; omega
theorem wrap_u64_of {n : Int} (h0 : 0 ≤ n) (h1 : n < 18446744073709551616) : IntKind.u64.wrap n = n := by rw [IntKind.wrap_u64]; omega
theorem below_g {l : List Int} {b : Bool} (h : GoodS l b) (n : Int) (hn : n < 9223372036854775808) : vint_Source_Below.f l b n = some (gBelow l b n) := by
  unfold vint_Source_Below.f vint_Source_Ok.f vint_Source_Fail.f
  rw [num_g h, Option.bind_some]
  obtain ⟨h0, h1⟩ := gNum_range h
  unfold gBelow
  generalize gNum l b = g at h0 h1 ⊢
  obtain ⟨x, l', b'⟩ := g
  simp only [Option.bind_some] at h0 h1 ⊢
  cases b' with
  | true => simp
  | false =>
    by_cases hn0 : n > 0
    · rw [wrap_u64_of (by omega) (by omega)]
      by_cases hx : x < n
      · have hw : wrap64 x = x := w64 (by omega) (by omega)
        have : ¬ n ≤ 0 := by omega
        simp [hn0, hx, hw, this]
      · have : n ≤ x := by omega
        simp [hn0, hx, this]
    · have : n ≤ 0 := by omega
      simp [hn0, this]
theorem rbelow_g {l : List Int} {b : Bool} (h : GoodS l b) (n : Int) (hn : n < 9223372036854775808) : firkinref01_S_Below.f l b n = some (gBelow l b n) := by
  unfold firkinref01_S_Below.f firkinref01_S_Fail.f
  rw [rnum_g h, Option.bind_some]
  obtain ⟨h0, h1⟩ := gNum_range h
  unfold gBelow
  generalize gNum l b = g at h0 h1 ⊢
  obtain ⟨x, l', b'⟩ := g
  simp only [Option.bind_some] at h0 h1 ⊢
  cases b' with
  | true => simp
  | false =>
    by_cases hn0 : n < 1
    · have : n ≤ 0 := by omega
      simp [hn0, this]
    · have hn2 : ¬ n ≤ 0 := by omega
      rw [wrap_u64_of (by omega) (by omega)]
      by_cases hx : x ≥ n
      · have : n ≤ x := by omega
        simp [hn0, hn2, this]
      · have hw : wrap64 x = x := w64 (by omega) (by omega)
        have : ¬ n ≤ x := by omega
        simp [hn0, hn2, hw, this]
end Go.Proofs.Ythcmokglgepgjaa.Read
/- What was written is read again: numbers. -/
namespace Go.Proofs.Ythcmokglgepgjaa.Read
open Go Go.RowKit Go.Proofs.Ythcmokglgepgjaa.X Go.Proofs.Ythcmokglgepgjaa.Dec Go.Proofs.Ythcmokglgepgjaa.Enc Go.Proofs.Ythcmokglgepgjaa.Round Go.Proofs.YthcmokglgepgjaaW.PrintWords Go.Proofs.YthcmokglgepgjaaW.PrintLast Go.Proofs.YthcmokglgepgjaaW.PrintMore
set_option linter.unusedVariables false
theorem gNum_enc {n : Nat} (h : n < 18446744073709551616) (rest : List Int) : gNum (enc n ++ rest) false = ((n : Int), rest, false) := by
  have h1 := num_enc h rest
  unfold numS at h1
  rw [if_neg (by decide)] at h1
  unfold gNum
  by_cases hz : szS 0 (enc n ++ rest) = 0
  · rw [if_pos hz] at h1; simp at h1
  · rw [if_neg hz] at h1
    rw [if_neg (by simp [hz])]
    exact h1
theorem gBelow_enc {n : Nat} {m : Int} (h : (n : Int) < m) (hm : m < 9223372036854775808) (rest : List Int) : gBelow (enc n ++ rest) false m = ((n : Int), rest, false) := by
  unfold gBelow
  rw [gNum_enc (by omega)]
  rw [if_neg]
  simp only [not_or]
  exact ⟨by decide, by omega, by omega⟩
end Go.Proofs.Ythcmokglgepgjaa.Read
/- What is read of a source, plain law: bytes; the code's source and the document's read the same. -/
namespace Go.Proofs.Ythcmokglgepgjaa.Read
open Go Go.RowKit Go.Proofs.Ythcmokglgepgjaa.X Go.Proofs.Ythcmokglgepgjaa.Dec Go.Proofs.Ythcmokglgepgjaa.Enc Go.Proofs.Ythcmokglgepgjaa.Round Go.Proofs.YthcmokglgepgjaaW.PrintWords Go.Proofs.YthcmokglgepgjaaW.PrintLast Go.Proofs.YthcmokglgepgjaaW.PrintMore
set_option linter.unusedVariables false
def gTake (l : List Int) (bad : Bool) (n : Int) : List Int × List Int × Bool :=
  if bad = true ∨ n < 0 ∨ (l.length : Int) < n then ([], [], true) else (l.take n.toNat, l.drop n.toNat, false)
theorem gTake_good {l : List Int} {b : Bool} (h : GoodS l b) (n : Int) : GoodS (gTake l b n).2.1 (gTake l b n).2.2 := by
  unfold gTake; split
  · exact GoodS.nil _
  · exact GoodS.of (h.1.drop _)
theorem gTake_len (l : List Int) (b : Bool) (n : Int) : (gTake l b n).2.1.length ≤ l.length := by unfold gTake; split <;> simp
theorem gTake_bytes {l : List Int} {b : Bool} (h : GoodS l b) (n : Int) : IsBytes (gTake l b n).1 := by
  unfold gTake; split
  · intro x hx; simp at hx
  · exact h.1.1.take _
theorem take_g {l : List Int} {b : Bool} (h : GoodS l b) (n : Int) : vint_Source_Take.f l b n = some (gTake l b n) := by
  unfold vint_Source_Take.f; rw [if_pos h.1.2]; rfl
theorem rtake_g {l : List Int} {b : Bool} (h : GoodS l b) (n : Int) : firkinref01_S_Take.f l b n = some (gTake l b n) := by
  unfold firkinref01_S_Take.f; rw [if_pos h.1.2]; rfl
end Go.Proofs.Ythcmokglgepgjaa.Read
/- What was written is read again: bytes. -/
namespace Go.Proofs.Ythcmokglgepgjaa.Read
open Go Go.RowKit Go.Proofs.Ythcmokglgepgjaa.X Go.Proofs.Ythcmokglgepgjaa.Dec Go.Proofs.Ythcmokglgepgjaa.Enc Go.Proofs.Ythcmokglgepgjaa.Round Go.Proofs.YthcmokglgepgjaaW.PrintWords Go.Proofs.YthcmokglgepgjaaW.PrintLast Go.Proofs.YthcmokglgepgjaaW.PrintMore
set_option linter.unusedVariables false
theorem gTake_app (l rest : List Int) : gTake (l ++ rest) false (l.length : Int) = (l, rest, false) := by
  unfold gTake
  rw [if_neg]
  · simp
  · simp only [not_or]
    exact ⟨by decide, by omega, by rw [List.length_append]; omega⟩
end Go.Proofs.Ythcmokglgepgjaa.Read
/- How much is left of a source, plain law. -/
namespace Go.Proofs.Ythcmokglgepgjaa.Read
open Go Go.RowKit Go.Proofs.Ythcmokglgepgjaa.X Go.Proofs.Ythcmokglgepgjaa.Dec Go.Proofs.Ythcmokglgepgjaa.Enc Go.Proofs.Ythcmokglgepgjaa.Round Go.Proofs.YthcmokglgepgjaaW.PrintWords Go.Proofs.YthcmokglgepgjaaW.PrintLast Go.Proofs.YthcmokglgepgjaaW.PrintMore
set_option linter.unusedVariables false
theorem left_g {l : List Int} {b : Bool} (h : GoodS l b) : vint_Source_Left.f l b = some ((l.length : Int), l, b) := by
  unfold vint_Source_Left.f vint_Source_Ok.f
  cases b with
  | true => rw [h.2 rfl]; rfl
  | false => rfl
end Go.Proofs.Ythcmokglgepgjaa.Read
/- Frames, plain law: the code's and the document's are the same, and what is put is got. -/
namespace Go.Proofs.Ythcmokglgepgjaa.Frame
open Go Go.RowKit Go.Proofs.Ythcmokglgepgjaa.X Go.Proofs.Ythcmokglgepgjaa.Dec Go.Proofs.Ythcmokglgepgjaa.Enc Go.Proofs.Ythcmokglgepgjaa.Read Go.Proofs.YthcmokglgepgjaaW.PrintWords Go.Proofs.YthcmokglgepgjaaW.PrintLast Go.Proofs.YthcmokglgepgjaaW.PrintMore
set_option linter.unusedVariables false
/-- A sum's bytes, the lowest first. -/
def sumB (n : Nat) : List Int := [(n : Int) % 256, (n : Int) / 256 % 256, (n : Int) / 65536 % 256, (n : Int) / 16777216 % 256]
theorem sumB_bytes (n : Nat) : IsBytes (sumB n) := by
  intro x hx
  simp only [sumB, List.mem_cons, List.not_mem_nil, or_false] at hx
  rcases hx with rfl | rfl | rfl | rfl <;> omega
theorem sumB_inj {m n : Nat} (hm : m < 4294967296) (hn : n < 4294967296) (h : sumB m = sumB n) : m = n := by
  simp only [sumB, List.cons.injEq] at h
  omega
/-- The sum of bytes. -/
def sum (l : List Int) : Nat := Crc.more 0 l
theorem sum_lt {l : List Int} (hb : IsBytes l) : sum l < 4294967296 := Crc.xor_lt (by decide) (Crc.run_lt hb (Crc.xor_lt (by decide) (by decide)))
def frameL (l : List Int) : List Int := enc l.length ++ sumB (sum l) ++ l
theorem frameL_bytes {l : List Int} (hb : IsBytes l) : IsBytes (frameL l) := by
  intro x hx
  rcases List.mem_append.1 hx with hx | hx
  · rcases List.mem_append.1 hx with hx | hx
    · exact enc_bytes _ x hx
    · exact sumB_bytes _ x hx
  · exact hb x hx
theorem enc_len (n : Nat) (h : n < 18446744073709551616) : (enc n).length ≤ 10 := by
  unfold enc; rw [encL_length]; exact grp_le h
theorem frameL_len (l : List Int) (h : l.length < 1000000000) : (frameL l).length ≤ l.length + 14 := by
  unfold frameL; rw [List.length_append, List.length_append]; have := enc_len l.length (by omega); simp [sumB]; omega
theorem crc_one {l : List Int} (hb : IsBytes l) (hl : l.length < 1000000000) (k : Nat) (hk : l.length + 2 < k) : crc_Of.f k [l] = some ((sum l : Nat) : Int) := by
  have := Crc.of_is [l] (by intro m hm; obtain rfl := List.mem_singleton.mp hm; exact ⟨hb, hl⟩) (by simp) (l.length + 1) (by intro m hm; obtain rfl := List.mem_singleton.mp hm; omega) k (by simp; omega)
  simpa [sum] using this
theorem sumOf_is {l : List Int} (hb : IsBytes l) (hl : l.length < 1000000000) (k : Nat) (hk : l.length + 2 < k) : frame_sumOf.f k l = some (sumB (sum l)) := by
  unfold frame_sumOf.f
  rw [crc_one hb hl k hk]
  rfl
theorem put_is {l : List Int} (hb : IsBytes l) (hl : l.length < 1000000000) (k : Nat) (hk : l.length + 20 < k) : frame_Put.f k l = some (frameL l) := by
  have he := enc_len l.length (by omega)
  unfold frame_Put.f
  rw [wrap_u64_of (by omega) (by omega), num_is l.length (by omega) k (by omega), Option.bind_some, sumOf_is hb hl k (by omega), Option.bind_some]
  rw [if_pos (by simp [sumB]; omega), Option.bind_some, if_pos (by rw [List.length_append]; simp [sumB]; omega)]
  rfl
theorem rof_is {l : List Int} (hb : IsBytes l) (hl : l.length < 1000000000) (k : Nat) (hk : 10 * l.length < k) : firkinref02_Of.f k l = some ((sum l : Nat) : Int) := by
  unfold firkinref02_Of.f
  have := Crc.ref_is l hb hl 0 (by decide) k hk
  rw [show ((0 : Nat) : Int) = 0 from rfl] at this
  rw [this]; rfl
theorem rput_is {l : List Int} (hb : IsBytes l) (hl : l.length < 1000000000) (k : Nat) (hk : 10 * l.length + 20 < k) : firkinref03_Put.f k l = some (frameL l) := by
  have he := enc_len l.length (by omega)
  have hs := sum_lt hb
  unfold firkinref03_Put.f
  rw [rof_is hb hl k (by omega), Option.bind_some, wrap_u64_of (by omega) (by omega), rnum_is l.length (by omega) k (by omega), Option.bind_some, Option.bind_some]
  have e : ([((sum l : Nat) : Int) % 256, ((Int.tdiv ((sum l : Nat) : Int) 256) % 4294967296) % 256, ((Int.tdiv ((sum l : Nat) : Int) 65536) % 4294967296) % 256, ((Int.tdiv ((sum l : Nat) : Int) 16777216) % 4294967296) % 256] : List Int) = sumB (sum l) := by
    rw [Int.tdiv_eq_ediv_of_nonneg (by omega), Int.tdiv_eq_ediv_of_nonneg (by omega), Int.tdiv_eq_ediv_of_nonneg (by omega)]
    unfold sumB
    congr 1
    congr 1
    · omega
    congr 1
    · omega
    congr 1
    omega
  rw [e]
  rw [if_pos (by simp [sumB]; omega), Option.bind_some, if_pos (by rw [List.length_append]; simp [sumB]; omega)]
  rfl
/-- What bytes begin with: the frame's bytes, and how many bytes it has. -/
def gGet (l : List Int) : List Int × Int × Int :=
  let a := gBelow l false 1048577
  let s := gTake a.2.1 a.2.2 4
  let x := gTake s.2.1 s.2.2 a.1
  if x.2.2 = true then ([], 0, 2) else if s.1 = sumB (sum x.1) then (x.1, (l.length : Int) - (x.2.1.length : Int), 0) else ([], 0, 13)
theorem strEq {a b : List Int} (ha : IsBytes a) (hb : IsBytes b) : ((strOfNums a).toList = (strOfNums b).toList) ↔ a = b := by
  rw [Go.Lib.strOfNums_toList, Go.Lib.strOfNums_toList]
  constructor
  · intro h
    have hl : a.length = b.length := by have := congrArg List.length h; simpa [Go.Lib.bytesOf] using this
    apply List.ext_getElem hl
    intro i h1 h2
    have h3 := congrArg (fun l : List UInt8 => l[i]?) h
    simp only [Go.Lib.bytesOf, List.getElem?_map, List.getElem?_eq_getElem h1, List.getElem?_eq_getElem h2, Option.map_some, Option.some.injEq] at h3
    have ha1 := ha _ (List.getElem_mem h1)
    have hb1 := hb _ (List.getElem_mem h2)
    have h4 := congrArg UInt8.toNat h3
    rw [UInt8.toNat_ofNat', UInt8.toNat_ofNat'] at h4
    omega
  · rintro rfl; rfl
theorem get_is {l : List Int} (hb : IsBytes l) (hl : l.length < 1000000000) (k : Nat) (hk : l.length + 2 < k) : frame_Get.f k l = some (gGet l) := by
  have hg : GoodS l false := GoodS.of ⟨hb, by omega⟩
  unfold frame_Get.f vint_From.f
  rw [Option.bind_some, below_g hg _ (by decide), Option.bind_some]
  have ha := gBelow_good hg 1048577
  have hal := gBelow_len l false 1048577
  have har := gBelow_range hg 1048577
  unfold gGet
  generalize gBelow l false 1048577 = a at ha hal har ⊢
  obtain ⟨n, l1, b1⟩ := a
  simp only at ha hal har ⊢
  rw [take_g ha, Option.bind_some]
  have hs := gTake_good ha 4
  have hsl := gTake_len l1 b1 4
  have hsb := gTake_bytes ha 4
  generalize gTake l1 b1 4 = s at hs hsl hsb ⊢
  obtain ⟨s1, l2, b2⟩ := s
  simp only at hs hsl hsb ⊢
  rw [take_g hs, Option.bind_some]
  have hx := gTake_good hs n
  have hxl := gTake_len l2 b2 n
  have hxb := gTake_bytes hs n
  have hxn : (gTake l2 b2 n).1.length ≤ l2.length := by
    unfold gTake; split
    · simp
    · rw [List.length_take]; exact Nat.min_le_right _ _
  generalize gTake l2 b2 n = x at hx hxl hxb hxn ⊢
  obtain ⟨x1, l3, b3⟩ := x
  simp only at hx hxl hxb hxn ⊢
  unfold vint_Source_Ok.f
  rw [Option.bind_some]
  cases b3 with
  | true => rfl
  | false =>
    simp only [Bool.not_false, if_true, Bool.false_eq_true, if_false]
    rw [sumOf_is hxb (by omega) k (by omega), Option.bind_some]
    by_cases e : s1 = sumB (sum x1)
    · rw [if_pos ((strEq hsb (sumB_bytes _)).mpr e), if_pos e, left_g hx, Option.bind_some, w64 (by omega) (by omega)]
    · rw [if_neg (fun h => e ((strEq hsb (sumB_bytes _)).mp h)), if_neg e]
theorem four {s : List Int} (hb : IsBytes s) (h4 : s.length = 4) {n : Nat} (hn : n < 4294967296) : four4 s = (n : Int) ↔ s = sumB n := by
  obtain ⟨a, b, c, d, rfl⟩ : ∃ a b c d, s = [a, b, c, d] := by
    match s, h4 with
    | [a, b, c, d], _ => exact ⟨a, b, c, d, rfl⟩
  have ha := hb a (by simp)
  have hb' := hb b (by simp)
  have hc := hb c (by simp)
  have hd := hb d (by simp)
  simp only [four4, sumB, List.cons.injEq, and_true]
  omega
theorem rget_is {l : List Int} (hb : IsBytes l) (hl : l.length < 1000000000) (k : Nat) (hk : 10 * l.length + 2 < k) : firkinref03_Get.f k l = some (gGet l) := by
  have hg : GoodS l false := GoodS.of ⟨hb, by omega⟩
  unfold firkinref03_Get.f
  rw [rbelow_g hg _ (by decide), Option.bind_some]
  have ha := gBelow_good hg 1048577
  have hal := gBelow_len l false 1048577
  unfold gGet
  generalize gBelow l false 1048577 = a at ha hal ⊢
  obtain ⟨n, l1, b1⟩ := a
  simp only at ha hal ⊢
  rw [rtake_g ha, Option.bind_some]
  have hs := gTake_good ha 4
  have hsl := gTake_len l1 b1 4
  have hsb := gTake_bytes ha 4
  have hs4 : (gTake l1 b1 4).2.2 = false → (gTake l1 b1 4).1.length = 4 := by
    unfold gTake; split
    · intro h; cases h
    · rename_i h
      intro _
      simp only [not_or] at h
      have := h.2.2
      simp; omega
  generalize gTake l1 b1 4 = s at hs hsl hsb hs4 ⊢
  obtain ⟨s1, l2, b2⟩ := s
  simp only at hs hsl hsb hs4 ⊢
  rw [rtake_g hs, Option.bind_some]
  have hx := gTake_good hs n
  have hxl := gTake_len l2 b2 n
  have hxb := gTake_bytes hs n
  have hx2 : (gTake l2 b2 n).2.2 = false → b2 = false := by
    unfold gTake; split
    · intro h; cases h
    · rename_i h
      intro _
      simp only [not_or] at h
      simpa using h.1
  have hxn : (gTake l2 b2 n).1.length ≤ l2.length := by
    unfold gTake; split
    · simp
    · rw [List.length_take]; exact Nat.min_le_right _ _
  generalize gTake l2 b2 n = x at hx hxl hxb hx2 hxn ⊢
  obtain ⟨x1, l3, b3⟩ := x
  simp only at hx hxl hxb hx2 hxn ⊢
  cases b3 with
  | true => rfl
  | false =>
    have h4 := hs4 (hx2 rfl)
    have hlt := sum_lt hxb
    simp only [Bool.false_eq_true, if_false]
    rw [if_pos ⟨h4, hsb⟩, rof_is hxb (by omega) k (by omega), Option.bind_some]
    by_cases e : s1 = sumB (sum x1)
    · rw [if_pos ((four hsb h4 hlt).mpr e), if_pos e]
    · rw [if_neg (fun h => e ((four hsb h4 hlt).mp h)), if_neg e]
theorem get_put {l : List Int} (hl : l.length ≤ 1048576) (rest : List Int) : gGet (frameL l ++ rest) = (l, ((frameL l).length : Int), 0) := by
  unfold gGet
  have e1 : frameL l ++ rest = enc l.length ++ (sumB (sum l) ++ (l ++ rest)) := by unfold frameL; simp [List.append_assoc]
  have h4 : ((sumB (sum l)).length : Int) = 4 := rfl
  have e2 : gBelow (frameL l ++ rest) false 1048577 = ((l.length : Int), sumB (sum l) ++ (l ++ rest), false) := by rw [e1]; exact gBelow_enc (by omega) (by decide) _
  have e3 : gTake (sumB (sum l) ++ (l ++ rest)) false 4 = (sumB (sum l), l ++ rest, false) := by rw [← h4]; exact gTake_app _ _
  have e4 := gTake_app l rest
  simp only [e2, e3, e4]
  rw [if_neg (by decide), if_pos trivial, List.length_append]
  simp
theorem same_is (a b : List Int) : firkinref01_Same.f a b = some (decide ((strOfNums a).toList = (strOfNums b).toList)) := by
  unfold firkinref01_Same.f
  first | rfl | (simp; done) | (congr 1; rw [Bool.eq_iff_iff]; simp)
theorem same_self (l : List Int) : firkinref01_Same.f l l = some true := by rw [same_is]; simp
end Go.Proofs.Ythcmokglgepgjaa.Frame
/- Frames one behind the other, plain law: which frames whatever bytes begin with. -/
namespace Go.Proofs.Ythcmokglgepgjaa.Frame
open Go Go.RowKit Go.Proofs.Ythcmokglgepgjaa.X Go.Proofs.Ythcmokglgepgjaa.Dec Go.Proofs.Ythcmokglgepgjaa.Enc Go.Proofs.Ythcmokglgepgjaa.Read Go.Proofs.Ythcmokglgepgjaa.Round Go.Proofs.YthcmokglgepgjaaW.PrintWords Go.Proofs.YthcmokglgepgjaaW.PrintLast Go.Proofs.YthcmokglgepgjaaW.PrintMore
set_option linter.unusedVariables false
set_option linter.unusedSimpArgs false
/-- Bytes of which a frame was got begin with just that frame. -/
theorem gGet_frame {l : List Int} (hb : IsBytes l) (hl : l.length < 1000000000) (h : (gGet l).2.2 = 0) :
    ∃ rest, l = frameL (gGet l).1 ++ rest ∧ (gGet l).2.1 = ((frameL (gGet l).1).length : Int) ∧ (gGet l).1.length ≤ 1048576 := by
  unfold gGet gBelow at h ⊢
  by_cases hz : szS 0 l = 0
  · have e : gNum l false = (0, [], true) := by unfold gNum; rw [if_pos (.inr hz)]
    simp only [e, gTake] at h
    simp at h
  have eN : gNum l false = (((valS 0 (l.take (szS 0 l)) : Nat) : Int), l.drop (szS 0 l), false) := by unfold gNum; rw [if_neg (by simp [hz])]
  have henc := enc_num hb hz
  simp only [eN] at h ⊢
  generalize hv : valS 0 (l.take (szS 0 l)) = n at h henc ⊢
  generalize hs1 : l.drop (szS 0 l) = l1 at h ⊢
  have hl1 : l = enc n ++ l1 := by rw [henc, ← hs1]; exact (List.take_append_drop _ _).symm
  by_cases hn : (1048577 : Int) ≤ (n : Int)
  · have hn3 : ((false : Bool) = true ∨ (1048577 : Int) ≤ 0 ∨ (1048577 : Int) ≤ (n : Int)) := .inr (.inr hn)
    rw [if_pos hn3] at h
    simp [gTake] at h
  have hn2 : ¬ ((false : Bool) = true ∨ (1048577 : Int) ≤ 0 ∨ (1048577 : Int) ≤ (n : Int)) := by simp; omega
  rw [if_neg hn2] at h ⊢
  simp only at h ⊢
  by_cases h4 : (l1.length : Int) < 4
  · have e4 : gTake l1 false 4 = ([], [], true) := by unfold gTake; rw [if_pos (.inr (.inr h4))]
    simp only [e4] at h
    simp [gTake] at h
  have e4 : gTake l1 false 4 = (l1.take 4, l1.drop 4, false) := by unfold gTake; rw [if_neg (by simp; omega)]; rfl
  simp only [e4] at h ⊢
  by_cases h5 : ((l1.drop 4).length : Int) < (n : Int)
  · have e5 : gTake (l1.drop 4) false (n : Int) = ([], [], true) := by unfold gTake; rw [if_pos (.inr (.inr h5))]
    simp only [e5] at h
    simp at h
  have e5 : gTake (l1.drop 4) false (n : Int) = ((l1.drop 4).take n, (l1.drop 4).drop n, false) := by unfold gTake; rw [if_neg (by simp at h5 ⊢; omega), Int.toNat_natCast]
  simp only [e5] at h ⊢
  simp only [Bool.false_eq_true, if_false] at h ⊢
  by_cases h6 : l1.take 4 = sumB (sum ((l1.drop 4).take n))
  · rw [if_pos h6]
    simp only
    have hlen : ((l1.drop 4).take n).length = n := by rw [List.length_take]; omega
    have hfr : frameL ((l1.drop 4).take n) = enc n ++ l1.take 4 ++ (l1.drop 4).take n := by unfold frameL; rw [hlen, h6]
    have hall : l = frameL ((l1.drop 4).take n) ++ (l1.drop 4).drop n := by
      rw [hfr, List.append_assoc, List.append_assoc, List.take_append_drop, List.take_append_drop, ← hl1]
    refine ⟨(l1.drop 4).drop n, hall, ?_, by rw [hlen]; omega⟩
    have := congrArg List.length hall
    rw [List.length_append] at this
    omega
  · rw [if_neg h6] at h; simp at h
/-- Of a frame that is cut none is got. -/
theorem gGet_cut {y : List Int} (hb : IsBytes y) (hy : y.length ≤ 1048576) {m : Nat} (hm : m < (frameL y).length) : (gGet ((frameL y).take m)).2.2 ≠ 0 := by
  intro h
  have hfl := frameL_len y (by omega)
  obtain ⟨rest, e1, e2, e3⟩ := gGet_frame ((frameL_bytes hb).take m) (by rw [List.length_take]; omega) h
  have h1 := get_put hy []
  rw [List.append_nil] at h1
  have h2 := get_put e3 (rest ++ (frameL y).drop m)
  rw [← List.append_assoc, ← e1, List.take_append_drop, h1] at h2
  have h3 := congrArg (fun p : List Int × Int × Int => p.2.1) h2
  have h4 := congrArg List.length e1
  simp only at h3
  rw [List.length_append, List.length_take] at h4
  omega
/-- The frames that bytes begin with, and how many bytes these have. -/
def gAll : Nat → List Int → List (List Int) × Nat
  | 0, _ => ([], 0)
  | n + 1, l => if l = [] ∨ (gGet l).2.2 ≠ 0 then ([], 0) else ((gGet l).1 :: (gAll n (l.drop (gGet l).2.1.toNat)).1, (gGet l).2.1.toNat + (gAll n (l.drop (gGet l).2.1.toNat)).2)
theorem frameL_pos (x : List Int) : 4 ≤ (frameL x).length := by unfold frameL; simp [sumB]; omega
theorem gGet_adv {l : List Int} (hb : IsBytes l) (hl : l.length < 1000000000) (h : (gGet l).2.2 = 0) : 4 ≤ (gGet l).2.1 ∧ (gGet l).2.1 ≤ (l.length : Int) := by
  obtain ⟨rest, e1, e2, _⟩ := gGet_frame hb hl h
  have := frameL_pos (gGet l).1
  have h2 := congrArg List.length e1
  rw [List.length_append] at h2
  omega
theorem all_is {l : List Int} (hb : IsBytes l) (hl : l.length < 1000000) : ∀ (n at_ : Nat) (acc : List (List Int)) (k : Nat), l.length ≤ at_ + n → at_ ≤ l.length → acc.length ≤ at_ → 2000000 + n < k →
    frame_All.l0 k l acc (at_ : Int) = some (acc ++ (gAll n (l.drop at_)).1, ((at_ + (gAll n (l.drop at_)).2 : Nat) : Int))
  | n, at_, acc, 0 => fun _ _ _ hk => by omega
  | 0, at_, acc, k + 1 => fun h1 h2 _ _ => by
    obtain rfl : at_ = l.length := by omega
    rw [frame_All.l0, if_neg (by omega), gAll]; simp
  | n + 1, at_, acc, k + 1 => fun h1 h2 h3 hk => by
    rw [frame_All.l0, gAll]
    by_cases hlt : at_ < l.length
    · have hne : l.drop at_ ≠ [] := by intro e; have := congrArg List.length e; simp at this; omega
      rw [if_pos (by omega), if_pos (by omega), Int.toNat_natCast, get_is (hb.drop at_) (by rw [List.length_drop]; omega) k (by rw [List.length_drop]; omega), Option.bind_some]
      by_cases he : (gGet (l.drop at_)).2.2 = 0
      · have hadv := gGet_adv (hb.drop at_) (by rw [List.length_drop]; omega) he
        rw [List.length_drop] at hadv
        obtain ⟨m, hm⟩ : ∃ m : Nat, (gGet (l.drop at_)).2.1 = (m : Int) := ⟨(gGet (l.drop at_)).2.1.toNat, by omega⟩
        rw [hm] at hadv
        rw [if_pos he, if_pos (by omega), if_neg (by simp [hne, he]), hm, w64 (by omega) (by omega), show ((at_ : Int) + (m : Int)) = ((at_ + m : Nat) : Int) by omega,
          all_is hb hl n (at_ + m) _ k (by omega) (by omega) (by rw [List.length_append]; simp; omega) (by omega), Int.toNat_natCast, List.drop_drop]
        simp [Nat.add_assoc]
      · rw [if_neg he, if_pos (.inr he)]; simp
    · obtain rfl : at_ = l.length := by omega
      rw [if_neg (by omega), if_pos (.inl (by simp))]; simp
theorem rall_is {l : List Int} (hb : IsBytes l) (hl : l.length < 1000000) : ∀ (n at_ : Nat) (acc : List (List Int)) (k : Nat), l.length ≤ at_ + n → at_ ≤ l.length → acc.length ≤ at_ → 20000000 + n < k →
    firkinref03_All.l0 k l acc (at_ : Int) = some (acc ++ (gAll n (l.drop at_)).1, ((at_ + (gAll n (l.drop at_)).2 : Nat) : Int))
  | n, at_, acc, 0 => fun _ _ _ hk => by omega
  | 0, at_, acc, k + 1 => fun h1 h2 _ _ => by
    obtain rfl : at_ = l.length := by omega
    rw [firkinref03_All.l0, if_neg (by omega), gAll]; simp
  | n + 1, at_, acc, k + 1 => fun h1 h2 h3 hk => by
    rw [firkinref03_All.l0, gAll]
    by_cases hlt : at_ < l.length
    · have hne : l.drop at_ ≠ [] := by intro e; have := congrArg List.length e; simp at this; omega
      rw [if_pos (by omega), if_pos (by omega), if_pos (by omega), Int.toNat_natCast, rget_is (hb.drop at_) (by rw [List.length_drop]; omega) k (by rw [List.length_drop]; omega), Option.bind_some]
      by_cases he : (gGet (l.drop at_)).2.2 = 0
      · have hadv := gGet_adv (hb.drop at_) (by rw [List.length_drop]; omega) he
        rw [List.length_drop] at hadv
        obtain ⟨m, hm⟩ : ∃ m : Nat, (gGet (l.drop at_)).2.1 = (m : Int) := ⟨(gGet (l.drop at_)).2.1.toNat, by omega⟩
        rw [hm] at hadv
        rw [if_pos he, if_pos (by omega), if_neg (by simp [hne, he]), hm, w64 (by omega) (by omega), show ((at_ : Int) + (m : Int)) = ((at_ + m : Nat) : Int) by omega,
          rall_is hb hl n (at_ + m) _ k (by omega) (by omega) (by rw [List.length_append]; simp; omega) (by omega), Int.toNat_natCast, List.drop_drop]
        simp [Nat.add_assoc]
      · rw [if_neg he, if_pos (.inr he)]; simp
    · obtain rfl : at_ = l.length := by omega
      rw [if_neg (by omega), if_pos (.inl (by simp))]; simp
theorem lists_self : ∀ a : List (List Int), listsGo a a = true
  | [] => rfl
  | x :: a => by rw [listsGo, if_pos rfl, lists_self a]
end Go.Proofs.Ythcmokglgepgjaa.Frame
/- FrameGets: which frames whatever bytes begin with is the document's. No condition. -/
namespace Go.Proofs.Ythcmokglgepgjaa.True_
open Go Go.RowKit Go.Proofs.Ythcmokglgepgjaa.X Go.Proofs.Ythcmokglgepgjaa.Dec Go.Proofs.Ythcmokglgepgjaa.Frame
theorem FrameGets : ∀ (x0 : List Int), (x0.length ≤ maxLen ∧ ∀ z ∈ x0, (Lit.int .u8 z).wf = true) → ∃ k, firkinlaw03_FrameGets.f k x0 = some true := by
  intro x0 h0
  have hb0 : IsBytes x0 := fun x hx => byte_bounds (h0.2 x hx)
  refine ⟨30000000, ?_⟩
  unfold firkinlaw03_FrameGets.f
  by_cases hl0 : (x0.length : Int) > 1000
  · rw [if_pos hl0]; rfl
  rw [if_neg hl0, get_is hb0 (by omega) _ (by omega), Option.bind_some, rget_is hb0 (by omega) _ (by omega), Option.bind_some]
  have h1 := all_is hb0 (by omega) x0.length 0 [] 30000000 (by omega) (by omega) (by simp) (by omega)
  have h2 := rall_is hb0 (by omega) x0.length 0 [] 30000000 (by omega) (by omega) (by simp) (by omega)
  rw [show ((0 : Nat) : Int) = 0 from rfl] at h1 h2
  unfold frame_All.f firkinref03_All.f
  rw [h1, Option.bind_some, h2, Option.bind_some, same_self, Option.bind_some, if_pos rfl, if_pos rfl]
  unfold firkinlaw03_num.f firkinref03_Lists.f
  rw [Option.bind_some, if_pos rfl, lists_self, Option.bind_some, if_pos rfl, if_pos rfl]
  rfl
end Go.Proofs.Ythcmokglgepgjaa.True_
/- FrameGets: for every input the call returns true, and each argument reads behind the call as it read before it. No condition. -/
namespace Go.Proofs.Ythcmokglgepgjaa.frameGets
open Go.ChangeShapes Go.WideShapes Go.ChangeAt Go.RowKit Go.Proofs.Ythcmokglgepgjaa.Opens Go.Proofs.Ythcmokglgepgjaa.X Go.Proofs.YthcmokglgepgjaaW.PrintWords Go.Proofs.YthcmokglgepgjaaW.PrintLast Go.Proofs.YthcmokglgepgjaaW.PrintMore
open Go.ChangeMaps (open_string shut_string)
set_option linter.unusedVariables false
set_option linter.unusedSimpArgs false
theorem own : ownKnob Try.prog.godebug = none := by kernel_rfl
theorem laidOut : laidOutB Try.prog = true := by kernel_rfl
set_option maxRecDepth 100000 in
theorem lifted (os : Os) (started : os.Started) (H : Type) (enc : TypeId × Value → H) :
    ReturnsInHanded {} Try.checked os 5 .any (Rows.frameGetsSpec.pre6 enc Try.prog Try.f5 Rows.frameGetsRow.domain false) (Rows.frameGetsSpec.post enc Try.prog Try.f5 false true false false) := by
  refine returnsInHanded_of_change_sized (C := Try.checked) own started (by kernel_rfl) Try.func5
    (ChangeSpec.witness6 (enc := enc) (C := Try.checked) false ⟨#[], #[.slice none 0 0], []⟩ 8 (by kernel_rfl) (by kernel_rfl) (by kernel_rfl) (by kernel_rfl)) ?_
  intro W base args ds gs before hval0 hW hcnd hsz0 _
  have hval : ∀ (j : Nat) t v, Try.f5.params[j]? = some t → args[j]? = some v → Value.okWide Try.prog W .any base t v := hval0
  have hW' := hW
  obtain ⟨p, q, hA0, hV, rfl, hfz, hnd⟩ := hW
  have hA : DataW.TrodAll enc Try.prog W 0 (fun _ => true) true Try.f5.params.toList args.toList ds p := hA0
  rw [Try.params5] at hA hval
  obtain ⟨v0, vs0, d0, ds0, p0, q0, hargs, rfl, rfl, h0, r0⟩ := trodAll_cons hA
  obtain ⟨rfl, rfl, rfl⟩ := trodAll_nil r0
  obtain rfl : args = #[v0] := by cases args; simp_all
  obtain ⟨rfl, rfl⟩ := trodVars_none hV
  have k0 := h0
  have lt0 : ∀ x ∈ p0, x.block < W.heap.size := by obtain ⟨m, hm⟩ := k0; exact DataW.trod_lt m _ _ _ hm
  obtain ⟨x0, hk0, ok0⟩ := Opens.arg (Opens.slice Try.underlying22 (by kernel_rfl) (Opens.int Try.underlying5 (by kernel_rfl))) h0
  obtain ⟨a0, len0, cap0, rfl⟩ := okWide_slice Try.underlying22 (hval 0 22 v0 rfl rfl)
  obtain ⟨A0, c0, hcs0, hc0, hr0⟩ := hk0
  simp only [Value.cells] at hcs0
  injection hcs0 with hcs0 _
  injection hcs0 with e1_0 e2_0 e3_0
  subst e1_0 e2_0 e3_0
  clear hA0 hval0 hsz0
  obtain ⟨k, h⟩ := True_.FrameGets x0 ok0
  refine (firkinlaw03_FrameGets.calls k _ _ x0 true W hr0 hc0 h).mono fun e W' ⟨he, bel0⟩ => ?_
  have bel : Below W.heap.size W W' := bel0
  subst he
  exact ⟨_, rfl, _, _, _, [], _, [], hW', trodAll_mk1 (shut_bool Try.underlying4 _), (trodAll_cons_mk (Below.trod laidOut (by kernel_rfl) (of_decide_eq_true (by kernel_rfl)) k0 bel lt0) trodAll_mk0), rfl, bel.frame _, fun h => by cases h⟩
theorem over : Rows.frameGetsRow.holds Try.pinned (OpenSpec.ofChange Rows.frameGetsSpec) :=
  OpenClaim.holds_of_wide 5 Try.f5 rfl rfl rfl rfl rfl rfl rfl ⟨rfl, rfl, rfl, rfl, rfl⟩ rfl rfl rfl rfl rfl (by kernel_rfl) Try.func5 (by kernel_rfl)
    (of_decide_eq_true (by kernel_rfl)) (by unfold Func.isWrapper; first | (rw [if_pos (by decide +kernel)]; kernel_rfl) | (rw [if_neg (by decide +kernel)]; exact ⟨rfl, rfl⟩))
    (fun os started H enc _ => lifted os started H enc)
theorem proved : Rows.FrameGetsSaid := over
end Go.Proofs.Ythcmokglgepgjaa.frameGets
namespace Go.Proofs.Ythcmokglgepgjaa
/-- The row, under a short name, for the claim. -/
theorem frameGets_holds : Rows.FrameGetsSaid := frameGets.proved
end Go.Proofs.Ythcmokglgepgjaa
