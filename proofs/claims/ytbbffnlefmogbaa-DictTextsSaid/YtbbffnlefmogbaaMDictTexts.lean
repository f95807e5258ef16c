/- DictTexts: for every input the call returns true, and each argument reads behind the call as it read before it. No condition. (Part 5 of 5: this session's texts, laid together by wip/merge.py.) -/
import Derived.Test.YtbbffnlefmogbaaX0
import Derived.Test.YtbbffnlefmogbaaRound
import Derived.Test.YtbbffnlefmogbaaWf
import Derived.Test.YtbbffnlefmogbaaWordsSame
import Derived.Test.YtbbffnlefmogbaaRows
import Derived.Test.YtbbffnlefmogbaaOpens
import Derived.WalkKit
import Derived.ProofKit
import Derived.OpenShut
import Derived.ShutString
import Derived.ChangeOld
import Derived.Below
import Derived.SizedLaws
import Derived.Test.YtbbffnlefmogbaaMDictTexts0
import Derived.Test.YtbbffnlefmogbaaMDictTexts1
import Derived.Test.YtbbffnlefmogbaaMDictTexts2
import Derived.Test.YtbbffnlefmogbaaMDictTexts3
-- Printed for this claim by a program of this session (wip/xprint.py) over the kit's printer; Lean checks it.
namespace Go.Proofs.Ytbbffnlefmogbaa.X
open Go.RowKit Go.Proofs.YtbbffnlefmogbaaW.PrintWords Go.Proofs.YtbbffnlefmogbaaW.PrintLast Go.Proofs.YtbbffnlefmogbaaW.PrintMore
attribute [local go_sem] max2_int min2_int max_two min_two max_three min_three max_four min_four   -- for this text's walks alone
set_option linter.unusedVariables false
set_option linter.unusedSimpArgs false

/-! ### firkinref08_Put: function 40 -/
mutual
def firkinref08_Put.l0 : Nat → List ByteArray → List ByteArray → List Int → Int → Option (List Int)
  | 0, _, _, _, _ => none
  | k + 1, x0, x3, x4, x5 => if x5 < (x0.length : Int) then (firkinref08_Put.l1 k x0 x3 x4 x5 0) else ((firkinref01_Num.f k (IntKind.u64.wrap ((x3.length : Int)))).bind fun t348 => ((firkinref08_Plain.f k x3).bind fun t351 => (if t348.length + t351.length < 140737488355328 then ((some (t348 ++ t351 : List Int)).bind fun y354 => ((firkinref07_Put.f k x4).bind fun t357 => (if y354.length + t357.length < 140737488355328 then (some (y354 ++ t357)) else (none)))) else (none))))
def firkinref08_Put.l1 : Nat → List ByteArray → List ByteArray → List Int → Int → Int → Option (List Int)
  | 0, _, _, _, _, _ => none
  | k + 1, x0, x3, x4, x5, x6 => if x6 < (x3.length : Int) then (if 0 ≤ x6 then (if 0 ≤ x5 then (if x5 < (x0.length : Int) then (if (rdOf ByteArray.empty x3 x6).toList = (rdOf ByteArray.empty x0 x5).toList then (if x4.length < 17592186044416 then (firkinref08_Put.l1 k x0 x3 (x4 ++ [x6]) x5 (wrap64 (x6 + 1))) else (none)) else (firkinref08_Put.l1 k x0 x3 x4 x5 (wrap64 (x6 + 1)))) else (none)) else (none)) else (none)) else (firkinref08_Put.l0 k x0 x3 x4 (wrap64 (x5 + 1)))
end
def firkinref08_Put.f (k : Nat) (l0 : List ByteArray) : Option (List Int) := (firkinref08_words.f l0).bind fun t342 => (firkinref08_Put.l0 k l0 t342 (([] : List Int)) 0)
theorem firkinref08_Put.mono_l : ∀ k, (∀ y0 y1 y2 y3, LeO (firkinref08_Put.l0 k y0 y1 y2 y3) (firkinref08_Put.l0 (k + 1) y0 y1 y2 y3)) ∧ (∀ y0 y1 y2 y3 y4, LeO (firkinref08_Put.l1 k y0 y1 y2 y3 y4) (firkinref08_Put.l1 (k + 1) y0 y1 y2 y3 y4))
  | 0 => ⟨fun _ _ _ _ r h => by simp [firkinref08_Put.l0] at h, fun _ _ _ _ _ r h => by simp [firkinref08_Put.l1] at h⟩
  | k + 1 => by
    obtain ⟨ih0, ih1⟩ := firkinref08_Put.mono_l k
    refine ⟨?_, ?_⟩
    · intro y0 y1 y2 y3
      unfold firkinref08_Put.l0
      repeat' first
      | (with_reducible exact ih0 _ _ _ _)
      | (with_reducible exact ih1 _ _ _ _ _)
      | (with_reducible exact firkinref01_Num.mono _ _)
      | (with_reducible exact firkinref07_Put.mono _ _)
      | (with_reducible exact firkinref08_Plain.mono _ _)
      | (with_reducible exact LeO.refl _)
      | (with_reducible exact LeO.none _)
      | (with_reducible refine LeO.ite ?_ ?_)
      | (with_reducible refine LeO.bind ?_ (fun _ => ?_))
      | exact ih0 _ _ _ _
      | exact ih1 _ _ _ _ _
      | exact firkinref01_Num.mono _ _
      | exact firkinref07_Put.mono _ _
      | exact firkinref08_Plain.mono _ _
      | exact LeO.none _
      | refine LeO.ite ?_ ?_
      | refine LeO.bind ?_ (fun _ => ?_)
    · intro y0 y1 y2 y3 y4
      unfold firkinref08_Put.l1
      repeat' first
      | (with_reducible exact ih0 _ _ _ _)
      | (with_reducible exact ih1 _ _ _ _ _)
      | (with_reducible exact firkinref01_Num.mono _ _)
      | (with_reducible exact firkinref07_Put.mono _ _)
      | (with_reducible exact firkinref08_Plain.mono _ _)
      | (with_reducible exact LeO.refl _)
      | (with_reducible exact LeO.none _)
      | (with_reducible refine LeO.ite ?_ ?_)
      | (with_reducible refine LeO.bind ?_ (fun _ => ?_))
      | exact ih0 _ _ _ _
      | exact ih1 _ _ _ _ _
      | exact firkinref01_Num.mono _ _
      | exact firkinref07_Put.mono _ _
      | exact firkinref08_Plain.mono _ _
      | exact LeO.none _
      | refine LeO.ite ?_ ?_
      | refine LeO.bind ?_ (fun _ => ?_)
theorem firkinref08_Put.mono : ∀ a0 k, LeO (firkinref08_Put.f k a0) (firkinref08_Put.f (k + 1) a0) := by
  intro a0 k
  obtain ⟨ih0, ih1⟩ := firkinref08_Put.mono_l k
  unfold firkinref08_Put.f
  repeat' first
      | (with_reducible exact ih0 _ _ _ _)
      | (with_reducible exact ih1 _ _ _ _ _)
      | (with_reducible exact firkinref01_Num.mono _ _)
      | (with_reducible exact firkinref07_Put.mono _ _)
      | (with_reducible exact firkinref08_Plain.mono _ _)
      | (with_reducible exact LeO.refl _)
      | (with_reducible exact LeO.none _)
      | (with_reducible refine LeO.ite ?_ ?_)
      | (with_reducible refine LeO.bind ?_ (fun _ => ?_))
      | exact ih0 _ _ _ _
      | exact ih1 _ _ _ _ _
      | exact firkinref01_Num.mono _ _
      | exact firkinref07_Put.mono _ _
      | exact firkinref08_Plain.mono _ _
      | exact LeO.none _
      | refine LeO.ite ?_ ?_
      | refine LeO.bind ?_ (fun _ => ?_)
set_option maxHeartbeats 8000000 in
set_option maxRecDepth 100000 in
theorem firkinref08_Put.calls (k : Nat) (A0 : Option Addr) (c0 : Nat) (l0 : List ByteArray) (r : List Int) (w : World) (hr0 : Kd.C Kd.string w A0 l0.length l0) (hc0 : l0.length ≤ c0) (h : firkinref08_Put.f k l0 = some r) :
    Calls Try.prog 40 #[.slice A0 l0.length c0] w fun e w' => ∃ v0_ : Value, e = .returned (v0_) ∧ Kd.R (Kd.int .u8) 5 w' w.heap.size (fun _ => True) v0_ r ∧ Below w.heap.size w w' := by
  have HR0 := Aside0.mk hr0
  have HC0 := Aside0.mk hc0
  clear hr0 hc0
  have HB := Aside0.mk (Below.refl w.heap.size w)
  have H : ((firkinref08_words.f l0).bind fun t342 => (firkinref08_Put.l0 k l0 t342 (([] : List Int)) 0)) = some r := h
  clear h
  replace H := Option.bind_eq_some_iff.mp H
  obtain ⟨t342, A20, H⟩ := H
  replace H : (firkinref08_Put.l0 k l0 t342 (([] : List Int)) 0) = some r := H
  have A2 := Aside0.mk A20
  clear A20
  obtain ⟨y345, hy345⟩ : ∃ y_ : List Int, y_ = (([] : List Int)) := ⟨_, rfl⟩
  replace H : (firkinref08_Put.l0 k l0 t342 y345 0) = some r := by first | (rw [hy345]; with_reducible exact H) | (have H2_ := (Option.bind_some _ _).symm.trans H; rw [hy345]; with_reducible exact H2_) | (have H2_ := (Option.bind_some _ _).symm.trans H; with_reducible exact H2_) | with_reducible exact H | (rw [hy345]; exact H) | exact H
  have Ny345 := Aside0.mk hy345
  clear hy345
  have H' := Aside0.mk H
  clear H
  go_enter Try.func40, Try.ntmps40
  go_wp2_with (first | (go_at_call 74; (with_reducible refine (firkinref08_words.calls _ _ l0 t342 _ ?side1 ?side2 A2.out).mono ?_); (case side1 => repeat (first | exact HR0.out | (with_reducible refine Kd.C_alloc ?_ _) | (with_reducible refine Kd.C_drewN ?_ _) | (with_reducible refine Kd.C_drew ?_))); (case side2 => exact HC0.out); rintro e w3 ⟨v343, rfl, ho0, hb⟩; have n0_ := Aside0.mk (Kd.R_lower ho0 (below_size (by repeat (first | (with_reducible first | exact HB.out | apply below_alloc | apply pw_below_drewN | apply below_drew1) | exact HB.out)))); have n1_ := Aside0.mk (below_step (by repeat (first | (with_reducible first | exact HB.out | apply below_alloc | apply pw_below_drewN | apply below_drew1) | exact HB.out)) hb); clear HB; have HO344 := n0_; have HB := n1_; clear n0_ n1_; (try clear hb); (try clear hb2); (try clear hk); (try clear hi); (try clear ho0)) | ((with_reducible refine gate_dst (N := 9) rfl ?_); refine Kd.R_lit (Kd.int .i64) _ 2 ?hg (N := 9) ?hd (xs := ([] : List Int)) (inner := []) (ok := fun _ => True) (okp := fun _ => True) ?hr ?hp (fun _ hk => hk) trivial (Below.refl _ _) (Nat.le_refl _) (by simp) ?_; (case hd => rfl); (case hg => rfl); (case hr => first | (go_simp; done) | (go_simp; rfl)); (case hp => exact (Reps.none _ _)); intro v346 w4 ho5 hb hg_ hnew_; clear hg_ hnew_; (first | rw [← Ny345.out] at ho5 | (simp only [Int.reduceToNat] at ho5; rw [← Ny345.out] at ho5)); have n0_ := Aside0.mk (Kd.R_below (by (with_reducible repeat (first | apply Kd.R_alloc | apply Kd.R_drewN | apply Kd.R_drew)); exact HO344.out) hb); have n1_ := Aside0.mk (Kd.R_lower ho5 (below_size (by repeat (first | (with_reducible first | exact HB.out | apply below_alloc | apply pw_below_drewN | apply below_drew1) | exact HB.out)))); have n2_ := Aside0.mk (below_step (by repeat (first | (with_reducible first | exact HB.out | apply below_alloc | apply pw_below_drewN | apply below_drew1) | exact HB.out)) hb); clear HO344; clear HB; have HO344 := n0_; have HO347 := n1_; have HB := n2_; clear n0_ n1_ n2_; clear hb ho5))
  repeat (go_quiet (first | (go_at_call 74; (with_reducible refine (firkinref08_words.calls _ _ l0 t342 _ ?side1 ?side2 A2.out).mono ?_); (case side1 => repeat (first | exact HR0.out | (with_reducible refine Kd.C_alloc ?_ _) | (with_reducible refine Kd.C_drewN ?_ _) | (with_reducible refine Kd.C_drew ?_))); (case side2 => exact HC0.out); rintro e w3 ⟨v343, rfl, ho0, hb⟩; have n0_ := Aside0.mk (Kd.R_lower ho0 (below_size (by repeat (first | (with_reducible first | exact HB.out | apply below_alloc | apply pw_below_drewN | apply below_drew1) | exact HB.out)))); have n1_ := Aside0.mk (below_step (by repeat (first | (with_reducible first | exact HB.out | apply below_alloc | apply pw_below_drewN | apply below_drew1) | exact HB.out)) hb); clear HB; have HO344 := n0_; have HB := n1_; clear n0_ n1_; (try clear hb); (try clear hb2); (try clear hk); (try clear hi); (try clear ho0)) | ((with_reducible refine gate_dst (N := 9) rfl ?_); refine Kd.R_lit (Kd.int .i64) _ 2 ?hg (N := 9) ?hd (xs := ([] : List Int)) (inner := []) (ok := fun _ => True) (okp := fun _ => True) ?hr ?hp (fun _ hk => hk) trivial (Below.refl _ _) (Nat.le_refl _) (by simp) ?_; (case hd => rfl); (case hg => rfl); (case hr => first | (go_simp; done) | (go_simp; rfl)); (case hp => exact (Reps.none _ _)); intro v346 w4 ho5 hb hg_ hnew_; clear hg_ hnew_; (first | rw [← Ny345.out] at ho5 | (simp only [Int.reduceToNat] at ho5; rw [← Ny345.out] at ho5)); have n0_ := Aside0.mk (Kd.R_below (by (with_reducible repeat (first | apply Kd.R_alloc | apply Kd.R_drewN | apply Kd.R_drew)); exact HO344.out) hb); have n1_ := Aside0.mk (Kd.R_lower ho5 (below_size (by repeat (first | (with_reducible first | exact HB.out | apply below_alloc | apply pw_below_drewN | apply below_drew1) | exact HB.out)))); have n2_ := Aside0.mk (below_step (by repeat (first | (with_reducible first | exact HB.out | apply below_alloc | apply pw_below_drewN | apply below_drew1) | exact HB.out)) hb); clear HO344; clear HB; have HO344 := n0_; have HO347 := n1_; have HB := n2_; clear n0_ n1_ n2_; clear hb ho5)); try go_wp2_with (first | (go_at_call 74; (with_reducible refine (firkinref08_words.calls _ _ l0 t342 _ ?side1 ?side2 A2.out).mono ?_); (case side1 => repeat (first | exact HR0.out | (with_reducible refine Kd.C_alloc ?_ _) | (with_reducible refine Kd.C_drewN ?_ _) | (with_reducible refine Kd.C_drew ?_))); (case side2 => exact HC0.out); rintro e w3 ⟨v343, rfl, ho0, hb⟩; have n0_ := Aside0.mk (Kd.R_lower ho0 (below_size (by repeat (first | (with_reducible first | exact HB.out | apply below_alloc | apply pw_below_drewN | apply below_drew1) | exact HB.out)))); have n1_ := Aside0.mk (below_step (by repeat (first | (with_reducible first | exact HB.out | apply below_alloc | apply pw_below_drewN | apply below_drew1) | exact HB.out)) hb); clear HB; have HO344 := n0_; have HB := n1_; clear n0_ n1_; (try clear hb); (try clear hb2); (try clear hk); (try clear hi); (try clear ho0)) | ((with_reducible refine gate_dst (N := 9) rfl ?_); refine Kd.R_lit (Kd.int .i64) _ 2 ?hg (N := 9) ?hd (xs := ([] : List Int)) (inner := []) (ok := fun _ => True) (okp := fun _ => True) ?hr ?hp (fun _ hk => hk) trivial (Below.refl _ _) (Nat.le_refl _) (by simp) ?_; (case hd => rfl); (case hg => rfl); (case hr => first | (go_simp; done) | (go_simp; rfl)); (case hp => exact (Reps.none _ _)); intro v346 w4 ho5 hb hg_ hnew_; clear hg_ hnew_; (first | rw [← Ny345.out] at ho5 | (simp only [Int.reduceToNat] at ho5; rw [← Ny345.out] at ho5)); have n0_ := Aside0.mk (Kd.R_below (by (with_reducible repeat (first | apply Kd.R_alloc | apply Kd.R_drewN | apply Kd.R_drew)); exact HO344.out) hb); have n1_ := Aside0.mk (Kd.R_lower ho5 (below_size (by repeat (first | (with_reducible first | exact HB.out | apply below_alloc | apply pw_below_drewN | apply below_drew1) | exact HB.out)))); have n2_ := Aside0.mk (below_step (by repeat (first | (with_reducible first | exact HB.out | apply below_alloc | apply pw_below_drewN | apply below_drew1) | exact HB.out)) hb); clear HO344; clear HB; have HO344 := n0_; have HO347 := n1_; have HB := n2_; clear n0_ n1_ n2_; clear hb ho5)))
  go_loopg [4, 5] k (fun kq v4 v5 w' => ∃ (x4_1 : List Int) (x5_1 : Int), v5 = .int .i64 x5_1 ∧ Aside0 (firkinref08_Put.l0 kq l0 t342 x4_1 x5_1 = some r) ∧ Aside0 (kq ≤ k) ∧ Aside0 (Kd.R Kd.string 9 w' w.heap.size (fun _ => True) v343 t342) ∧ Aside0 (Kd.R (Kd.int .i64) 2 w' w.heap.size (fun _ => True) v4 x4_1) ∧ Aside0 (Below w.heap.size w w'))
  case atStart => exact ⟨(y345), (0), (by first | rfl | (simp; done) | (simp [*]; done)), H', ⟨Nat.le_refl _⟩, ⟨by (with_reducible repeat (first | apply Kd.R_alloc | apply Kd.R_drewN | apply Kd.R_drew)); exact HO344.out⟩, ⟨by (with_reducible repeat (first | apply Kd.R_alloc | apply Kd.R_drewN | apply Kd.R_drew)); exact HO347.out⟩, ⟨by repeat (first | (with_reducible first | exact HB.out | apply below_alloc | apply pw_below_drewN | apply below_drew1) | exact HB.out)⟩⟩
  case round =>
    clear H'
    try clear p2
    try clear c4
    obtain ⟨x4_1, x5_1, rfl, HA, HK1, HO_3, HO_4, HB⟩ := hrel
    cases gk with
    | zero => exact absurd HA.out (by simp [firkinref08_Put.l0])
    | succ k1 =>
      have H := HA.out
      clear HA
      simp only [firkinref08_Put.l0] at H
      by_cases c6 : x5_1 < (l0.length : Int)
      · rw [if_pos c6] at H
        have c6b0 : decide (x5_1 < (l0.length : Int)) = true := decide_eq_true c6
        clear c6
        have H' := Aside0.mk H
        clear H
        go_wp2
        repeat (go_quiet (fail); try go_wp2)
        go_loopg [4, 6] k1 (fun kq v4 v6 w' => ∃ (x4_2 : List Int) (x6_2 : Int), v6 = .int .i64 x6_2 ∧ Aside0 (firkinref08_Put.l1 kq l0 t342 x4_2 x5_1 x6_2 = some r) ∧ Aside0 (kq ≤ k1) ∧ Aside0 (Kd.R Kd.string 9 w' w.heap.size (fun _ => True) v343 t342) ∧ Aside0 (Kd.R (Kd.int .i64) 2 w' w.heap.size (fun _ => True) v4 x4_2) ∧ Aside0 (Below w.heap.size w w'))
        case atStart => exact ⟨(x4_1), (0), (by first | rfl | (simp; done) | (simp [*]; done)), H', ⟨Nat.le_refl _⟩, ⟨by (with_reducible repeat (first | apply Kd.R_alloc | apply Kd.R_drewN | apply Kd.R_drew)); exact HO_3.out⟩, ⟨by (with_reducible repeat (first | apply Kd.R_alloc | apply Kd.R_drewN | apply Kd.R_drew)); exact HO_4.out⟩, ⟨by repeat (first | (with_reducible first | exact HB.out | apply below_alloc | apply pw_below_drewN | apply below_drew1) | exact HB.out)⟩⟩
        case round =>
          clear H'
          try clear p2
          try clear c4
          try clear c6
          try clear c6b0
          try clear p2
          obtain ⟨x4_2, x6_2, rfl, HA, HK2, HO_3, HO_4, HB⟩ := hrel
          cases gk with
          | zero => exact absurd HA.out (by simp [firkinref08_Put.l1])
          | succ k2 =>
            have H := HA.out
            clear HA
            simp only [firkinref08_Put.l1] at H
            by_cases c7 : x6_2 < (t342.length : Int)
            · rw [if_pos c7] at H
              have c7b0 : decide (x6_2 < (t342.length : Int)) = true := decide_eq_true c7
              clear c7
              by_cases c8 : 0 ≤ x6_2
              · rw [if_pos c8] at H
                have c8b0 : decide (0 ≤ x6_2) = true := decide_eq_true c8
                clear c8
                by_cases c9 : 0 ≤ x5_1
                · rw [if_pos c9] at H
                  have c9b0 : decide (0 ≤ x5_1) = true := decide_eq_true c9
                  clear c9
                  by_cases c10 : x5_1 < (l0.length : Int)
                  · rw [if_pos c10] at H
                    have c10b0 : decide (x5_1 < (l0.length : Int)) = true := decide_eq_true c10
                    clear c10
                    by_cases c11 : (rdOf ByteArray.empty t342 x6_2).toList = (rdOf ByteArray.empty l0 x5_1).toList
                    · rw [if_pos c11] at H
                      have c11b0 : ((rdOf ByteArray.empty t342 x6_2).toList == (rdOf ByteArray.empty l0 x5_1).toList) = true := beq_iff_eq.mpr c11
                      have c11b1 : ((rdOf ByteArray.empty t342 x6_2).toList != (rdOf ByteArray.empty l0 x5_1).toList) = false := bne_eq_false_iff_eq.mpr c11
                      clear c11
                      by_cases c12 : x4_2.length < 17592186044416
                      · rw [if_pos c12] at H
                        have LMc12 := Aside0.mk c12
                        clear c12
                        obtain ⟨y365, hy365⟩ : ∃ y_ : List Int, y_ = (x4_2 ++ [x6_2]) := ⟨_, rfl⟩
                        replace H : (firkinref08_Put.l1 k2 l0 t342 y365 x5_1 (wrap64 (x6_2 + 1))) = some r := by first | (rw [hy365]; with_reducible exact H) | (have H2_ := (Option.bind_some _ _).symm.trans H; rw [hy365]; with_reducible exact H2_) | (have H2_ := (Option.bind_some _ _).symm.trans H; with_reducible exact H2_) | with_reducible exact H | (rw [hy365]; exact H) | exact H
                        have Ny365 := Aside0.mk hy365
                        clear hy365
                        have H' := Aside0.mk H
                        clear H
                        obtain ⟨Ao13, co13, eo13⟩ := Kd.R_slice HO_3.out
                        subst eo13
                        have p363 : 0 ≤ (x6_2 : Int) := of_decide_eq_true (by first | (with_reducible assumption) | assumption)
                        have q363 : x6_2 < (t342.length : Int) := of_decide_eq_true (by first | (with_reducible assumption) | assumption)
                        obtain ⟨ad363, e363, hx363_0⟩ := Kd.at_string (Kd.R_reads' HO_3.out).2.2 x6_2 p363 q363
                        cases e363
                        replace p363 := eq_true p363
                        replace q363 := eq_true q363
                        have p364 : 0 ≤ (x5_1 : Int) := of_decide_eq_true (by first | (with_reducible assumption) | assumption)
                        have q364 : x5_1 < (l0.length : Int) := of_decide_eq_true (by first | (with_reducible assumption) | assumption)
                        obtain ⟨ad364, e364, hx364_0⟩ := Kd.at_string HR0.out x5_1 p364 q364
                        cases e364
                        replace hx364_0 := (HB.out.cell (World.block_lt_of_cell? w _ hx364_0)).trans hx364_0
                        replace p364 := eq_true p364
                        replace q364 := eq_true q364
                        go_wp2_with (first | ((with_reducible refine gate_builtin (b := .append) (xs := #[.tmp 31, .tmp 33]) rfl ?_); at_builtin; refine Kd.R_append (Kd.int .i64) (w0 := w) w.heap.size rfl (.tmp 31) (.tmp 33) 22 2 (.int .i64 0) 8 rfl Try.underlying22 info2 rfl (by decide) (by omega) u4 x4_2 x6_2 [.int .i64 x6_2] (fun _ => True) (fun _ => False) rfl rfl ?aP (fun _ hk => hk.elim) ?aF ?aO ?aB ?aS ?aL ?_; (case aP => exact rfl); (case aB => exact (by repeat (first | (with_reducible first | exact HB.out | apply below_alloc | apply pw_below_drewN | apply below_drew1) | exact HB.out))); (case aF => exact (fun _ _ => trivial)); (case aO => exact (by (with_reducible repeat (first | apply Kd.R_alloc | apply Kd.R_drewN | apply Kd.R_drew)); exact HO_4.out)); (case aS => exact (below_size (by repeat (first | (with_reducible first | exact HB.out | apply below_alloc | apply pw_below_drewN | apply below_drew1) | exact HB.out)))); (case aL => have := LMc12.out; omega); intro v366 w14 ho hb hg hat; rw [← Ny365.out] at ho; have n0_ := Aside0.mk (Kd.R_over' (by (with_reducible repeat (first | apply Kd.R_alloc | apply Kd.R_drewN | apply Kd.R_drew)); exact HO_3.out) (Kd.R_typed (by (with_reducible repeat (first | apply Kd.R_alloc | apply Kd.R_drewN | apply Kd.R_drew)); exact HO_4.out)) (by decide) hg); have n1_ := Aside0.mk (hb); have n2_ := Aside0.mk (ho); clear HO_3; clear HB; clear HO_4; have HO_3 := n0_; have HB := n1_; have HO367 := n2_; clear n0_ n1_ n2_; clear ho hb hg hat))
                        repeat (go_quiet (first | ((with_reducible refine gate_builtin (b := .append) (xs := #[.tmp 31, .tmp 33]) rfl ?_); at_builtin; refine Kd.R_append (Kd.int .i64) (w0 := w) w.heap.size rfl (.tmp 31) (.tmp 33) 22 2 (.int .i64 0) 8 rfl Try.underlying22 info2 rfl (by decide) (by omega) u4 x4_2 x6_2 [.int .i64 x6_2] (fun _ => True) (fun _ => False) rfl rfl ?aP (fun _ hk => hk.elim) ?aF ?aO ?aB ?aS ?aL ?_; (case aP => exact rfl); (case aB => exact (by repeat (first | (with_reducible first | exact HB.out | apply below_alloc | apply pw_below_drewN | apply below_drew1) | exact HB.out))); (case aF => exact (fun _ _ => trivial)); (case aO => exact (by (with_reducible repeat (first | apply Kd.R_alloc | apply Kd.R_drewN | apply Kd.R_drew)); exact HO_4.out)); (case aS => exact (below_size (by repeat (first | (with_reducible first | exact HB.out | apply below_alloc | apply pw_below_drewN | apply below_drew1) | exact HB.out)))); (case aL => have := LMc12.out; omega); intro v366 w14 ho hb hg hat; rw [← Ny365.out] at ho; have n0_ := Aside0.mk (Kd.R_over' (by (with_reducible repeat (first | apply Kd.R_alloc | apply Kd.R_drewN | apply Kd.R_drew)); exact HO_3.out) (Kd.R_typed (by (with_reducible repeat (first | apply Kd.R_alloc | apply Kd.R_drewN | apply Kd.R_drew)); exact HO_4.out)) (by decide) hg); have n1_ := Aside0.mk (hb); have n2_ := Aside0.mk (ho); clear HO_3; clear HB; clear HO_4; have HO_3 := n0_; have HB := n1_; have HO367 := n2_; clear n0_ n1_ n2_; clear ho hb hg hat)); try go_wp2_with (first | ((with_reducible refine gate_builtin (b := .append) (xs := #[.tmp 31, .tmp 33]) rfl ?_); at_builtin; refine Kd.R_append (Kd.int .i64) (w0 := w) w.heap.size rfl (.tmp 31) (.tmp 33) 22 2 (.int .i64 0) 8 rfl Try.underlying22 info2 rfl (by decide) (by omega) u4 x4_2 x6_2 [.int .i64 x6_2] (fun _ => True) (fun _ => False) rfl rfl ?aP (fun _ hk => hk.elim) ?aF ?aO ?aB ?aS ?aL ?_; (case aP => exact rfl); (case aB => exact (by repeat (first | (with_reducible first | exact HB.out | apply below_alloc | apply pw_below_drewN | apply below_drew1) | exact HB.out))); (case aF => exact (fun _ _ => trivial)); (case aO => exact (by (with_reducible repeat (first | apply Kd.R_alloc | apply Kd.R_drewN | apply Kd.R_drew)); exact HO_4.out)); (case aS => exact (below_size (by repeat (first | (with_reducible first | exact HB.out | apply below_alloc | apply pw_below_drewN | apply below_drew1) | exact HB.out)))); (case aL => have := LMc12.out; omega); intro v366 w14 ho hb hg hat; rw [← Ny365.out] at ho; have n0_ := Aside0.mk (Kd.R_over' (by (with_reducible repeat (first | apply Kd.R_alloc | apply Kd.R_drewN | apply Kd.R_drew)); exact HO_3.out) (Kd.R_typed (by (with_reducible repeat (first | apply Kd.R_alloc | apply Kd.R_drewN | apply Kd.R_drew)); exact HO_4.out)) (by decide) hg); have n1_ := Aside0.mk (hb); have n2_ := Aside0.mk (ho); clear HO_3; clear HB; clear HO_4; have HO_3 := n0_; have HB := n1_; have HO367 := n2_; clear n0_ n1_ n2_; clear ho hb hg hat)))
                        go_roundg k2
                        case measure => have := HK1.out; have := HK2.out; omega
                        case rel => exact ⟨(y365), (wrap64 (x6_2 + 1)), (by first | rfl | (simp; done) | (simp [*]; done)), H', ⟨by have := HK1.out; have := HK2.out; omega⟩, ⟨by (with_reducible repeat (first | apply Kd.R_alloc | apply Kd.R_drewN | apply Kd.R_drew)); exact HO_3.out⟩, ⟨by (with_reducible repeat (first | apply Kd.R_alloc | apply Kd.R_drewN | apply Kd.R_drew)); exact HO367.out⟩, ⟨by repeat (first | (with_reducible first | exact HB.out | apply below_alloc | apply pw_below_drewN | apply below_drew1) | exact HB.out)⟩⟩
                      · rw [if_neg c12] at H
                        exact absurd H (by simp)
                    · rw [if_neg c11] at H
                      have c11b0 : ((rdOf ByteArray.empty t342 x6_2).toList == (rdOf ByteArray.empty l0 x5_1).toList) = false := beq_eq_false_iff_ne.mpr c11
                      have c11b1 : ((rdOf ByteArray.empty t342 x6_2).toList != (rdOf ByteArray.empty l0 x5_1).toList) = true := bne_iff_ne.mpr c11
                      have H' := Aside0.mk H
                      clear H
                      obtain ⟨Ao15, co15, eo15⟩ := Kd.R_slice HO_3.out
                      subst eo15
                      have p363 : 0 ≤ (x6_2 : Int) := of_decide_eq_true (by first | (with_reducible assumption) | assumption)
                      have q363 : x6_2 < (t342.length : Int) := of_decide_eq_true (by first | (with_reducible assumption) | assumption)
                      obtain ⟨ad363, e363, hx363_0⟩ := Kd.at_string (Kd.R_reads' HO_3.out).2.2 x6_2 p363 q363
                      cases e363
                      replace p363 := eq_true p363
                      replace q363 := eq_true q363
                      have p364 : 0 ≤ (x5_1 : Int) := of_decide_eq_true (by first | (with_reducible assumption) | assumption)
                      have q364 : x5_1 < (l0.length : Int) := of_decide_eq_true (by first | (with_reducible assumption) | assumption)
                      obtain ⟨ad364, e364, hx364_0⟩ := Kd.at_string HR0.out x5_1 p364 q364
                      cases e364
                      replace hx364_0 := (HB.out.cell (World.block_lt_of_cell? w _ hx364_0)).trans hx364_0
                      replace p364 := eq_true p364
                      replace q364 := eq_true q364
                      go_wp2
                      repeat (go_quiet (fail); try go_wp2)
                      go_roundg k2
                      case measure => have := HK1.out; have := HK2.out; omega
                      case rel => exact ⟨(x4_2), (wrap64 (x6_2 + 1)), (by first | rfl | (simp; done) | (simp [*]; done)), H', ⟨by have := HK1.out; have := HK2.out; omega⟩, ⟨by (with_reducible repeat (first | apply Kd.R_alloc | apply Kd.R_drewN | apply Kd.R_drew)); exact HO_3.out⟩, ⟨by (with_reducible repeat (first | apply Kd.R_alloc | apply Kd.R_drewN | apply Kd.R_drew)); exact HO_4.out⟩, ⟨by repeat (first | (with_reducible first | exact HB.out | apply below_alloc | apply pw_below_drewN | apply below_drew1) | exact HB.out)⟩⟩
                  · rw [if_neg c10] at H
                    exact absurd H (by simp)
                · rw [if_neg c9] at H
                  exact absurd H (by simp)
              · rw [if_neg c8] at H
                exact absurd H (by simp)
            · rw [if_neg c7] at H
              have c7b0 : decide (x6_2 < (t342.length : Int)) = false := decide_eq_false c7
              clear c7
              have H' := Aside0.mk H
              clear H
              obtain ⟨Ao16, co16, eo16⟩ := Kd.R_slice HO_3.out
              subst eo16
              go_wp2
              repeat (go_quiet (fail); try go_wp2)
              go_roundg k2
              case measure => have := HK1.out; have := HK2.out; omega
              case rel => exact ⟨(x4_2), (wrap64 (x5_1 + 1)), (by first | rfl | (simp; done) | (simp [*]; done)), H', ⟨by have := HK1.out; have := HK2.out; omega⟩, ⟨by (with_reducible repeat (first | apply Kd.R_alloc | apply Kd.R_drewN | apply Kd.R_drew)); exact HO_3.out⟩, ⟨by (with_reducible repeat (first | apply Kd.R_alloc | apply Kd.R_drewN | apply Kd.R_drew)); exact HO_4.out⟩, ⟨by repeat (first | (with_reducible first | exact HB.out | apply below_alloc | apply pw_below_drewN | apply below_drew1) | exact HB.out)⟩⟩
      · rw [if_neg c6] at H
        have c6b0 : decide (x5_1 < (l0.length : Int)) = false := decide_eq_false c6
        clear c6
        replace H := Option.bind_eq_some_iff.mp H
        obtain ⟨t348, A170, H⟩ := H
        replace H : ((firkinref08_Plain.f k1 t342).bind fun t351 => (if t348.length + t351.length < 140737488355328 then ((some (t348 ++ t351 : List Int)).bind fun y354 => ((firkinref07_Put.f k1 x4_1).bind fun t357 => (if y354.length + t357.length < 140737488355328 then (some (y354 ++ t357)) else (none)))) else (none))) = some r := H
        have A17 := Aside0.mk A170
        clear A170
        replace H := Option.bind_eq_some_iff.mp H
        obtain ⟨t351, A180, H⟩ := H
        replace H : (if t348.length + t351.length < 140737488355328 then ((some (t348 ++ t351 : List Int)).bind fun y354 => ((firkinref07_Put.f k1 x4_1).bind fun t357 => (if y354.length + t357.length < 140737488355328 then (some (y354 ++ t357)) else (none)))) else (none)) = some r := H
        have A18 := Aside0.mk A180
        clear A180
        by_cases c19 : t348.length + t351.length < 140737488355328
        · rw [if_pos c19] at H
          have LMc19 := Aside0.mk c19
          clear c19
          obtain ⟨y354, hy354⟩ : ∃ y_ : List Int, y_ = (t348 ++ t351) := ⟨_, rfl⟩
          replace H : ((firkinref07_Put.f k1 x4_1).bind fun t357 => (if y354.length + t357.length < 140737488355328 then (some (y354 ++ t357)) else (none))) = some r := by first | (rw [hy354]; with_reducible exact H) | (have H2_ := (Option.bind_some _ _).symm.trans H; rw [hy354]; with_reducible exact H2_) | (have H2_ := (Option.bind_some _ _).symm.trans H; with_reducible exact H2_) | with_reducible exact H | (rw [hy354]; exact H) | exact H
          have Ny354 := Aside0.mk hy354
          clear hy354
          replace H := Option.bind_eq_some_iff.mp H
          obtain ⟨t357, A200, H⟩ := H
          replace H : (if y354.length + t357.length < 140737488355328 then (some (y354 ++ t357)) else (none)) = some r := H
          have A20 := Aside0.mk A200
          clear A200
          by_cases c21 : y354.length + t357.length < 140737488355328
          · rw [if_pos c21] at H
            have LMc21 := Aside0.mk c21
            clear c21
            obtain ⟨y360, hy360⟩ : ∃ y_ : List Int, y_ = (y354 ++ t357) := ⟨_, rfl⟩
            replace H : (some y360) = some r := by first | (rw [hy360]; with_reducible exact H) | (have H2_ := (Option.bind_some _ _).symm.trans H; rw [hy360]; with_reducible exact H2_) | (have H2_ := (Option.bind_some _ _).symm.trans H; with_reducible exact H2_) | with_reducible exact H | (rw [hy360]; exact H) | exact H
            have Ny360 := Aside0.mk hy360
            clear hy360
            obtain rfl := Option.some.inj H
            obtain ⟨Ao22, co22, eo22⟩ := Kd.R_slice HO_3.out
            subst eo22
            go_wp2_with (first | (go_at_call 66; (with_reducible refine (firkinref01_Num.calls k1 (IntKind.u64.wrap ((t342.length : Int))) t348 _ A17.out).mono ?_); rintro e w23 ⟨v349, rfl, ho0, hb⟩; have n0_ := Aside0.mk (Kd.R_below (by (with_reducible repeat (first | apply Kd.R_alloc | apply Kd.R_drewN | apply Kd.R_drew)); exact HO_3.out) hb); have n1_ := Aside0.mk (Kd.R_below (by (with_reducible repeat (first | apply Kd.R_alloc | apply Kd.R_drewN | apply Kd.R_drew)); exact HO_4.out) hb); have n2_ := Aside0.mk (Kd.R_lower ho0 (below_size (by repeat (first | (with_reducible first | exact HB.out | apply below_alloc | apply pw_below_drewN | apply below_drew1) | exact HB.out)))); have n3_ := Aside0.mk (below_step (by repeat (first | (with_reducible first | exact HB.out | apply below_alloc | apply pw_below_drewN | apply below_drew1) | exact HB.out)) hb); clear HO_3; clear HO_4; clear HB; have HO_3 := n0_; have HO_4 := n1_; have HO350 := n2_; have HB := n3_; clear n0_ n1_ n2_ n3_; (try clear hb); (try clear hb2); (try clear hk); (try clear hi); (try clear ho0)) | (go_at_call 39; (with_reducible refine (firkinref08_Plain.calls k1 _ _ t342 t351 _ ?side1 ?side2 A18.out).mono ?_); (case side1 => repeat (first | exact (Kd.R_reads' HO_3.out).2.2 | (with_reducible refine Kd.C_alloc ?_ _) | (with_reducible refine Kd.C_drewN ?_ _) | (with_reducible refine Kd.C_drew ?_))); (case side2 => exact (Kd.R_reads' HO_3.out).2.1); rintro e w24 ⟨v352, rfl, ho0, hb⟩; have n0_ := Aside0.mk (Kd.R_below (by (with_reducible repeat (first | apply Kd.R_alloc | apply Kd.R_drewN | apply Kd.R_drew)); exact HO_3.out) hb); have n1_ := Aside0.mk (Kd.R_below (by (with_reducible repeat (first | apply Kd.R_alloc | apply Kd.R_drewN | apply Kd.R_drew)); exact HO_4.out) hb); have n2_ := Aside0.mk (Kd.R_elder' (by (with_reducible repeat (first | apply Kd.R_alloc | apply Kd.R_drewN | apply Kd.R_drew)); exact HO350.out) (Kd.R_base ho0) hb); have n3_ := Aside0.mk (Kd.R_lower (Kd.R_new' ho0 (Kd.R_lt (by (with_reducible repeat (first | apply Kd.R_alloc | apply Kd.R_drewN | apply Kd.R_drew)); exact HO350.out))) (below_size (by repeat (first | (with_reducible first | exact HB.out | apply below_alloc | apply pw_below_drewN | apply below_drew1) | exact HB.out)))); have n4_ := Aside0.mk (below_step (by repeat (first | (with_reducible first | exact HB.out | apply below_alloc | apply pw_below_drewN | apply below_drew1) | exact HB.out)) hb); clear HO_3; clear HO_4; clear HO350; clear HB; have HO_3 := n0_; have HO_4 := n1_; have HO350 := n2_; have HO353 := n3_; have HB := n4_; clear n0_ n1_ n2_ n3_ n4_; (try clear hb); (try clear hb2); (try clear hk); (try clear hi); (try clear ho0); obtain ⟨Ao26, co26, eo26⟩ := Kd.R_slice HO353.out; subst eo26) | ((with_reducible refine gate_builtin (b := .append) (xs := #[.tmp 38, .tmp 40]) rfl ?_); at_builtin; refine Kd.R_append_rows (Kd.int .u8) (w0 := w) w.heap.size rfl (.tmp 38) (.tmp 40) 24 5 (.int .u8 0) 1 rfl Try.underlying24 info5 rfl (by decide) (by omega) v349 t348 t351 _ _ _ (fun k_ => some k_ ≠ (.slice Ao26 t351.length co26 : Value).ownBlock) (fun _ => False) rfl rfl ?aO ?aR (fun _ _ h => h) (fun _ h => h.elim) ?aF ?aB ?aS ?aL ?_; (case aR => repeat (first | exact (Kd.R_reads' HO353.out).2.2 | (with_reducible refine Kd.C_alloc ?_ _) | (with_reducible refine Kd.C_drewN ?_ _) | (with_reducible refine Kd.C_drew ?_))); (case aB => exact (by repeat (first | (with_reducible first | exact HB.out | apply below_alloc | apply pw_below_drewN | apply below_drew1) | exact HB.out))); (case aF => exact (fun k_ hk => Kd.fresh' (Kd.R_lt (by (with_reducible repeat (first | apply Kd.R_alloc | apply Kd.R_drewN | apply Kd.R_drew)); exact HO353.out)) k_ hk)); (case aO => exact (by (with_reducible repeat (first | apply Kd.R_alloc | apply Kd.R_drewN | apply Kd.R_drew)); exact Kd.R_mono HO350.out (fun _ hk => hk.2))); (case aS => exact (below_size (by repeat (first | (with_reducible first | exact HB.out | apply below_alloc | apply pw_below_drewN | apply below_drew1) | exact HB.out)))); (case aL => have := LMc19.out; omega); intro v355 w25 ho hb hg hat; rw [← Ny354.out] at ho; have n0_ := Aside0.mk (Kd.R_over' (by (with_reducible repeat (first | apply Kd.R_alloc | apply Kd.R_drewN | apply Kd.R_drew)); exact HO_3.out) (Kd.R_typed (by (with_reducible repeat (first | apply Kd.R_alloc | apply Kd.R_drewN | apply Kd.R_drew)); exact HO350.out)) (by decide) hg); have n1_ := Aside0.mk (Kd.R_over' (by (with_reducible repeat (first | apply Kd.R_alloc | apply Kd.R_drewN | apply Kd.R_drew)); exact HO_4.out) (Kd.R_typed (by (with_reducible repeat (first | apply Kd.R_alloc | apply Kd.R_drewN | apply Kd.R_drew)); exact HO350.out)) (by decide) hg); have n2_ := Aside0.mk (Kd.R_after (ok := (fun _ => True)) (by (with_reducible repeat (first | apply Kd.R_alloc | apply Kd.R_drewN | apply Kd.R_drew)); exact HO353.out) hg hat); have n3_ := Aside0.mk (hb); have n4_ := Aside0.mk (ho); clear HO_3; clear HO_4; clear HO353; clear HB; clear HO350; have HO_3 := n0_; have HO_4 := n1_; have HO353 := n2_; have HB := n3_; have HO356 := n4_; clear n0_ n1_ n2_ n3_ n4_; clear ho hb hg hat; obtain ⟨Ao27, co27, eo27⟩ := Kd.R_slice HO_4.out; subst eo27) | (go_at_call 14; (with_reducible refine (firkinref07_Put.calls k1 _ _ x4_1 t357 _ ?side1 ?side2 A20.out).mono ?_); (case side1 => repeat (first | exact (Kd.R_reads' HO_4.out).2.2 | (with_reducible refine Kd.C_alloc ?_ _) | (with_reducible refine Kd.C_drewN ?_ _) | (with_reducible refine Kd.C_drew ?_))); (case side2 => exact (Kd.R_reads' HO_4.out).2.1); rintro e w28 ⟨v358, rfl, ho0, hb⟩; have n0_ := Aside0.mk (Kd.R_below (by (with_reducible repeat (first | apply Kd.R_alloc | apply Kd.R_drewN | apply Kd.R_drew)); exact HO_3.out) hb); have n1_ := Aside0.mk (Kd.R_below (by (with_reducible repeat (first | apply Kd.R_alloc | apply Kd.R_drewN | apply Kd.R_drew)); exact HO_4.out) hb); have n2_ := Aside0.mk (Kd.R_elder' (by (with_reducible repeat (first | apply Kd.R_alloc | apply Kd.R_drewN | apply Kd.R_drew)); exact HO353.out) (Kd.R_base ho0) hb); have n3_ := Aside0.mk (Kd.R_elder' (by (with_reducible repeat (first | apply Kd.R_alloc | apply Kd.R_drewN | apply Kd.R_drew)); exact HO356.out) (Kd.R_base ho0) hb); have n4_ := Aside0.mk (Kd.R_lower (Kd.R_new' (Kd.R_new' ho0 (Kd.R_lt (by (with_reducible repeat (first | apply Kd.R_alloc | apply Kd.R_drewN | apply Kd.R_drew)); exact HO353.out))) (Kd.R_lt (by (with_reducible repeat (first | apply Kd.R_alloc | apply Kd.R_drewN | apply Kd.R_drew)); exact HO356.out))) (below_size (by repeat (first | (with_reducible first | exact HB.out | apply below_alloc | apply pw_below_drewN | apply below_drew1) | exact HB.out)))); have n5_ := Aside0.mk (below_step (by repeat (first | (with_reducible first | exact HB.out | apply below_alloc | apply pw_below_drewN | apply below_drew1) | exact HB.out)) hb); clear HO_3; clear HO_4; clear HO353; clear HO356; clear HB; have HO_3 := n0_; have HO_4 := n1_; have HO353 := n2_; have HO356 := n3_; have HO359 := n4_; have HB := n5_; clear n0_ n1_ n2_ n3_ n4_ n5_; (try clear hb); (try clear hb2); (try clear hk); (try clear hi); (try clear ho0); obtain ⟨Ao30, co30, eo30⟩ := Kd.R_slice HO359.out; subst eo30) | ((with_reducible refine gate_builtin (b := .append) (xs := #[.tmp 41, .tmp 43]) rfl ?_); at_builtin; refine Kd.R_append_rows (Kd.int .u8) (w0 := w) w.heap.size rfl (.tmp 41) (.tmp 43) 24 5 (.int .u8 0) 1 rfl Try.underlying24 info5 rfl (by decide) (by omega) v355 y354 t357 _ _ _ (fun k_ => some k_ ≠ (.slice Ao26 t351.length co26 : Value).ownBlock ∧ some k_ ≠ (.slice Ao30 t357.length co30 : Value).ownBlock) (fun _ => False) rfl rfl ?aO ?aR (fun _ _ h => h) (fun _ h => h.elim) ?aF ?aB ?aS ?aL ?_; (case aR => repeat (first | exact (Kd.R_reads' HO359.out).2.2 | (with_reducible refine Kd.C_alloc ?_ _) | (with_reducible refine Kd.C_drewN ?_ _) | (with_reducible refine Kd.C_drew ?_))); (case aB => exact (by repeat (first | (with_reducible first | exact HB.out | apply below_alloc | apply pw_below_drewN | apply below_drew1) | exact HB.out))); (case aF => exact (fun k_ hk => ⟨Kd.fresh' (Kd.R_lt (by (with_reducible repeat (first | apply Kd.R_alloc | apply Kd.R_drewN | apply Kd.R_drew)); exact HO353.out)) k_ hk, Kd.fresh' (Kd.R_lt (by (with_reducible repeat (first | apply Kd.R_alloc | apply Kd.R_drewN | apply Kd.R_drew)); exact HO359.out)) k_ hk⟩)); (case aO => exact (by (with_reducible repeat (first | apply Kd.R_alloc | apply Kd.R_drewN | apply Kd.R_drew)); exact HO356.out)); (case aS => exact (below_size (by repeat (first | (with_reducible first | exact HB.out | apply below_alloc | apply pw_below_drewN | apply below_drew1) | exact HB.out)))); (case aL => have := LMc21.out; omega); intro v361 w29 ho hb hg hat; rw [← Ny360.out] at ho; have n0_ := Aside0.mk (Kd.R_over' (by (with_reducible repeat (first | apply Kd.R_alloc | apply Kd.R_drewN | apply Kd.R_drew)); exact HO_3.out) (Kd.R_typed (by (with_reducible repeat (first | apply Kd.R_alloc | apply Kd.R_drewN | apply Kd.R_drew)); exact HO356.out)) (by decide) hg); have n1_ := Aside0.mk (Kd.R_over' (by (with_reducible repeat (first | apply Kd.R_alloc | apply Kd.R_drewN | apply Kd.R_drew)); exact HO_4.out) (Kd.R_typed (by (with_reducible repeat (first | apply Kd.R_alloc | apply Kd.R_drewN | apply Kd.R_drew)); exact HO356.out)) (by decide) hg); have n2_ := Aside0.mk (Kd.R_after (ok := (fun k_ => some k_ ≠ (.slice Ao30 t357.length co30 : Value).ownBlock)) (by (with_reducible repeat (first | apply Kd.R_alloc | apply Kd.R_drewN | apply Kd.R_drew)); exact Kd.R_mono HO353.out (fun _ hk => ⟨hk.2, hk.1.2⟩)) hg hat); have n3_ := Aside0.mk (Kd.R_after (ok := (fun k_ => some k_ ≠ (.slice Ao26 t351.length co26 : Value).ownBlock)) (by (with_reducible repeat (first | apply Kd.R_alloc | apply Kd.R_drewN | apply Kd.R_drew)); exact Kd.R_mono HO359.out (fun _ hk => ⟨hk.1.2, hk.2⟩)) hg hat); have n4_ := Aside0.mk (hb); have n5_ := Aside0.mk (ho); clear HO_3; clear HO_4; clear HO353; clear HO359; clear HB; clear HO356; have HO_3 := n0_; have HO_4 := n1_; have HO353 := n2_; have HO359 := n3_; have HB := n4_; have HO362 := n5_; clear n0_ n1_ n2_ n3_ n4_ n5_; clear ho hb hg hat))
            repeat (go_quiet (first | (go_at_call 66; (with_reducible refine (firkinref01_Num.calls k1 (IntKind.u64.wrap ((t342.length : Int))) t348 _ A17.out).mono ?_); rintro e w23 ⟨v349, rfl, ho0, hb⟩; have n0_ := Aside0.mk (Kd.R_below (by (with_reducible repeat (first | apply Kd.R_alloc | apply Kd.R_drewN | apply Kd.R_drew)); exact HO_3.out) hb); have n1_ := Aside0.mk (Kd.R_below (by (with_reducible repeat (first | apply Kd.R_alloc | apply Kd.R_drewN | apply Kd.R_drew)); exact HO_4.out) hb); have n2_ := Aside0.mk (Kd.R_lower ho0 (below_size (by repeat (first | (with_reducible first | exact HB.out | apply below_alloc | apply pw_below_drewN | apply below_drew1) | exact HB.out)))); have n3_ := Aside0.mk (below_step (by repeat (first | (with_reducible first | exact HB.out | apply below_alloc | apply pw_below_drewN | apply below_drew1) | exact HB.out)) hb); clear HO_3; clear HO_4; clear HB; have HO_3 := n0_; have HO_4 := n1_; have HO350 := n2_; have HB := n3_; clear n0_ n1_ n2_ n3_; (try clear hb); (try clear hb2); (try clear hk); (try clear hi); (try clear ho0)) | (go_at_call 39; (with_reducible refine (firkinref08_Plain.calls k1 _ _ t342 t351 _ ?side1 ?side2 A18.out).mono ?_); (case side1 => repeat (first | exact (Kd.R_reads' HO_3.out).2.2 | (with_reducible refine Kd.C_alloc ?_ _) | (with_reducible refine Kd.C_drewN ?_ _) | (with_reducible refine Kd.C_drew ?_))); (case side2 => exact (Kd.R_reads' HO_3.out).2.1); rintro e w24 ⟨v352, rfl, ho0, hb⟩; have n0_ := Aside0.mk (Kd.R_below (by (with_reducible repeat (first | apply Kd.R_alloc | apply Kd.R_drewN | apply Kd.R_drew)); exact HO_3.out) hb); have n1_ := Aside0.mk (Kd.R_below (by (with_reducible repeat (first | apply Kd.R_alloc | apply Kd.R_drewN | apply Kd.R_drew)); exact HO_4.out) hb); have n2_ := Aside0.mk (Kd.R_elder' (by (with_reducible repeat (first | apply Kd.R_alloc | apply Kd.R_drewN | apply Kd.R_drew)); exact HO350.out) (Kd.R_base ho0) hb); have n3_ := Aside0.mk (Kd.R_lower (Kd.R_new' ho0 (Kd.R_lt (by (with_reducible repeat (first | apply Kd.R_alloc | apply Kd.R_drewN | apply Kd.R_drew)); exact HO350.out))) (below_size (by repeat (first | (with_reducible first | exact HB.out | apply below_alloc | apply pw_below_drewN | apply below_drew1) | exact HB.out)))); have n4_ := Aside0.mk (below_step (by repeat (first | (with_reducible first | exact HB.out | apply below_alloc | apply pw_below_drewN | apply below_drew1) | exact HB.out)) hb); clear HO_3; clear HO_4; clear HO350; clear HB; have HO_3 := n0_; have HO_4 := n1_; have HO350 := n2_; have HO353 := n3_; have HB := n4_; clear n0_ n1_ n2_ n3_ n4_; (try clear hb); (try clear hb2); (try clear hk); (try clear hi); (try clear ho0); obtain ⟨Ao26, co26, eo26⟩ := Kd.R_slice HO353.out; subst eo26) | ((with_reducible refine gate_builtin (b := .append) (xs := #[.tmp 38, .tmp 40]) rfl ?_); at_builtin; refine Kd.R_append_rows (Kd.int .u8) (w0 := w) w.heap.size rfl (.tmp 38) (.tmp 40) 24 5 (.int .u8 0) 1 rfl Try.underlying24 info5 rfl (by decide) (by omega) v349 t348 t351 _ _ _ (fun k_ => some k_ ≠ (.slice Ao26 t351.length co26 : Value).ownBlock) (fun _ => False) rfl rfl ?aO ?aR (fun _ _ h => h) (fun _ h => h.elim) ?aF ?aB ?aS ?aL ?_; (case aR => repeat (first | exact (Kd.R_reads' HO353.out).2.2 | (with_reducible refine Kd.C_alloc ?_ _) | (with_reducible refine Kd.C_drewN ?_ _) | (with_reducible refine Kd.C_drew ?_))); (case aB => exact (by repeat (first | (with_reducible first | exact HB.out | apply below_alloc | apply pw_below_drewN | apply below_drew1) | exact HB.out))); (case aF => exact (fun k_ hk => Kd.fresh' (Kd.R_lt (by (with_reducible repeat (first | apply Kd.R_alloc | apply Kd.R_drewN | apply Kd.R_drew)); exact HO353.out)) k_ hk)); (case aO => exact (by (with_reducible repeat (first | apply Kd.R_alloc | apply Kd.R_drewN | apply Kd.R_drew)); exact Kd.R_mono HO350.out (fun _ hk => hk.2))); (case aS => exact (below_size (by repeat (first | (with_reducible first | exact HB.out | apply below_alloc | apply pw_below_drewN | apply below_drew1) | exact HB.out)))); (case aL => have := LMc19.out; omega); intro v355 w25 ho hb hg hat; rw [← Ny354.out] at ho; have n0_ := Aside0.mk (Kd.R_over' (by (with_reducible repeat (first | apply Kd.R_alloc | apply Kd.R_drewN | apply Kd.R_drew)); exact HO_3.out) (Kd.R_typed (by (with_reducible repeat (first | apply Kd.R_alloc | apply Kd.R_drewN | apply Kd.R_drew)); exact HO350.out)) (by decide) hg); have n1_ := Aside0.mk (Kd.R_over' (by (with_reducible repeat (first | apply Kd.R_alloc | apply Kd.R_drewN | apply Kd.R_drew)); exact HO_4.out) (Kd.R_typed (by (with_reducible repeat (first | apply Kd.R_alloc | apply Kd.R_drewN | apply Kd.R_drew)); exact HO350.out)) (by decide) hg); have n2_ := Aside0.mk (Kd.R_after (ok := (fun _ => True)) (by (with_reducible repeat (first | apply Kd.R_alloc | apply Kd.R_drewN | apply Kd.R_drew)); exact HO353.out) hg hat); have n3_ := Aside0.mk (hb); have n4_ := Aside0.mk (ho); clear HO_3; clear HO_4; clear HO353; clear HB; clear HO350; have HO_3 := n0_; have HO_4 := n1_; have HO353 := n2_; have HB := n3_; have HO356 := n4_; clear n0_ n1_ n2_ n3_ n4_; clear ho hb hg hat; obtain ⟨Ao27, co27, eo27⟩ := Kd.R_slice HO_4.out; subst eo27) | (go_at_call 14; (with_reducible refine (firkinref07_Put.calls k1 _ _ x4_1 t357 _ ?side1 ?side2 A20.out).mono ?_); (case side1 => repeat (first | exact (Kd.R_reads' HO_4.out).2.2 | (with_reducible refine Kd.C_alloc ?_ _) | (with_reducible refine Kd.C_drewN ?_ _) | (with_reducible refine Kd.C_drew ?_))); (case side2 => exact (Kd.R_reads' HO_4.out).2.1); rintro e w28 ⟨v358, rfl, ho0, hb⟩; have n0_ := Aside0.mk (Kd.R_below (by (with_reducible repeat (first | apply Kd.R_alloc | apply Kd.R_drewN | apply Kd.R_drew)); exact HO_3.out) hb); have n1_ := Aside0.mk (Kd.R_below (by (with_reducible repeat (first | apply Kd.R_alloc | apply Kd.R_drewN | apply Kd.R_drew)); exact HO_4.out) hb); have n2_ := Aside0.mk (Kd.R_elder' (by (with_reducible repeat (first | apply Kd.R_alloc | apply Kd.R_drewN | apply Kd.R_drew)); exact HO353.out) (Kd.R_base ho0) hb); have n3_ := Aside0.mk (Kd.R_elder' (by (with_reducible repeat (first | apply Kd.R_alloc | apply Kd.R_drewN | apply Kd.R_drew)); exact HO356.out) (Kd.R_base ho0) hb); have n4_ := Aside0.mk (Kd.R_lower (Kd.R_new' (Kd.R_new' ho0 (Kd.R_lt (by (with_reducible repeat (first | apply Kd.R_alloc | apply Kd.R_drewN | apply Kd.R_drew)); exact HO353.out))) (Kd.R_lt (by (with_reducible repeat (first | apply Kd.R_alloc | apply Kd.R_drewN | apply Kd.R_drew)); exact HO356.out))) (below_size (by repeat (first | (with_reducible first | exact HB.out | apply below_alloc | apply pw_below_drewN | apply below_drew1) | exact HB.out)))); have n5_ := Aside0.mk (below_step (by repeat (first | (with_reducible first | exact HB.out | apply below_alloc | apply pw_below_drewN | apply below_drew1) | exact HB.out)) hb); clear HO_3; clear HO_4; clear HO353; clear HO356; clear HB; have HO_3 := n0_; have HO_4 := n1_; have HO353 := n2_; have HO356 := n3_; have HO359 := n4_; have HB := n5_; clear n0_ n1_ n2_ n3_ n4_ n5_; (try clear hb); (try clear hb2); (try clear hk); (try clear hi); (try clear ho0); obtain ⟨Ao30, co30, eo30⟩ := Kd.R_slice HO359.out; subst eo30) | ((with_reducible refine gate_builtin (b := .append) (xs := #[.tmp 41, .tmp 43]) rfl ?_); at_builtin; refine Kd.R_append_rows (Kd.int .u8) (w0 := w) w.heap.size rfl (.tmp 41) (.tmp 43) 24 5 (.int .u8 0) 1 rfl Try.underlying24 info5 rfl (by decide) (by omega) v355 y354 t357 _ _ _ (fun k_ => some k_ ≠ (.slice Ao26 t351.length co26 : Value).ownBlock ∧ some k_ ≠ (.slice Ao30 t357.length co30 : Value).ownBlock) (fun _ => False) rfl rfl ?aO ?aR (fun _ _ h => h) (fun _ h => h.elim) ?aF ?aB ?aS ?aL ?_; (case aR => repeat (first | exact (Kd.R_reads' HO359.out).2.2 | (with_reducible refine Kd.C_alloc ?_ _) | (with_reducible refine Kd.C_drewN ?_ _) | (with_reducible refine Kd.C_drew ?_))); (case aB => exact (by repeat (first | (with_reducible first | exact HB.out | apply below_alloc | apply pw_below_drewN | apply below_drew1) | exact HB.out))); (case aF => exact (fun k_ hk => ⟨Kd.fresh' (Kd.R_lt (by (with_reducible repeat (first | apply Kd.R_alloc | apply Kd.R_drewN | apply Kd.R_drew)); exact HO353.out)) k_ hk, Kd.fresh' (Kd.R_lt (by (with_reducible repeat (first | apply Kd.R_alloc | apply Kd.R_drewN | apply Kd.R_drew)); exact HO359.out)) k_ hk⟩)); (case aO => exact (by (with_reducible repeat (first | apply Kd.R_alloc | apply Kd.R_drewN | apply Kd.R_drew)); exact HO356.out)); (case aS => exact (below_size (by repeat (first | (with_reducible first | exact HB.out | apply below_alloc | apply pw_below_drewN | apply below_drew1) | exact HB.out)))); (case aL => have := LMc21.out; omega); intro v361 w29 ho hb hg hat; rw [← Ny360.out] at ho; have n0_ := Aside0.mk (Kd.R_over' (by (with_reducible repeat (first | apply Kd.R_alloc | apply Kd.R_drewN | apply Kd.R_drew)); exact HO_3.out) (Kd.R_typed (by (with_reducible repeat (first | apply Kd.R_alloc | apply Kd.R_drewN | apply Kd.R_drew)); exact HO356.out)) (by decide) hg); have n1_ := Aside0.mk (Kd.R_over' (by (with_reducible repeat (first | apply Kd.R_alloc | apply Kd.R_drewN | apply Kd.R_drew)); exact HO_4.out) (Kd.R_typed (by (with_reducible repeat (first | apply Kd.R_alloc | apply Kd.R_drewN | apply Kd.R_drew)); exact HO356.out)) (by decide) hg); have n2_ := Aside0.mk (Kd.R_after (ok := (fun k_ => some k_ ≠ (.slice Ao30 t357.length co30 : Value).ownBlock)) (by (with_reducible repeat (first | apply Kd.R_alloc | apply Kd.R_drewN | apply Kd.R_drew)); exact Kd.R_mono HO353.out (fun _ hk => ⟨hk.2, hk.1.2⟩)) hg hat); have n3_ := Aside0.mk (Kd.R_after (ok := (fun k_ => some k_ ≠ (.slice Ao26 t351.length co26 : Value).ownBlock)) (by (with_reducible repeat (first | apply Kd.R_alloc | apply Kd.R_drewN | apply Kd.R_drew)); exact Kd.R_mono HO359.out (fun _ hk => ⟨hk.1.2, hk.2⟩)) hg hat); have n4_ := Aside0.mk (hb); have n5_ := Aside0.mk (ho); clear HO_3; clear HO_4; clear HO353; clear HO359; clear HB; clear HO356; have HO_3 := n0_; have HO_4 := n1_; have HO353 := n2_; have HO359 := n3_; have HB := n4_; have HO362 := n5_; clear n0_ n1_ n2_ n3_ n4_ n5_; clear ho hb hg hat)); try go_wp2_with (first | (go_at_call 66; (with_reducible refine (firkinref01_Num.calls k1 (IntKind.u64.wrap ((t342.length : Int))) t348 _ A17.out).mono ?_); rintro e w23 ⟨v349, rfl, ho0, hb⟩; have n0_ := Aside0.mk (Kd.R_below (by (with_reducible repeat (first | apply Kd.R_alloc | apply Kd.R_drewN | apply Kd.R_drew)); exact HO_3.out) hb); have n1_ := Aside0.mk (Kd.R_below (by (with_reducible repeat (first | apply Kd.R_alloc | apply Kd.R_drewN | apply Kd.R_drew)); exact HO_4.out) hb); have n2_ := Aside0.mk (Kd.R_lower ho0 (below_size (by repeat (first | (with_reducible first | exact HB.out | apply below_alloc | apply pw_below_drewN | apply below_drew1) | exact HB.out)))); have n3_ := Aside0.mk (below_step (by repeat (first | (with_reducible first | exact HB.out | apply below_alloc | apply pw_below_drewN | apply below_drew1) | exact HB.out)) hb); clear HO_3; clear HO_4; clear HB; have HO_3 := n0_; have HO_4 := n1_; have HO350 := n2_; have HB := n3_; clear n0_ n1_ n2_ n3_; (try clear hb); (try clear hb2); (try clear hk); (try clear hi); (try clear ho0)) | (go_at_call 39; (with_reducible refine (firkinref08_Plain.calls k1 _ _ t342 t351 _ ?side1 ?side2 A18.out).mono ?_); (case side1 => repeat (first | exact (Kd.R_reads' HO_3.out).2.2 | (with_reducible refine Kd.C_alloc ?_ _) | (with_reducible refine Kd.C_drewN ?_ _) | (with_reducible refine Kd.C_drew ?_))); (case side2 => exact (Kd.R_reads' HO_3.out).2.1); rintro e w24 ⟨v352, rfl, ho0, hb⟩; have n0_ := Aside0.mk (Kd.R_below (by (with_reducible repeat (first | apply Kd.R_alloc | apply Kd.R_drewN | apply Kd.R_drew)); exact HO_3.out) hb); have n1_ := Aside0.mk (Kd.R_below (by (with_reducible repeat (first | apply Kd.R_alloc | apply Kd.R_drewN | apply Kd.R_drew)); exact HO_4.out) hb); have n2_ := Aside0.mk (Kd.R_elder' (by (with_reducible repeat (first | apply Kd.R_alloc | apply Kd.R_drewN | apply Kd.R_drew)); exact HO350.out) (Kd.R_base ho0) hb); have n3_ := Aside0.mk (Kd.R_lower (Kd.R_new' ho0 (Kd.R_lt (by (with_reducible repeat (first | apply Kd.R_alloc | apply Kd.R_drewN | apply Kd.R_drew)); exact HO350.out))) (below_size (by repeat (first | (with_reducible first | exact HB.out | apply below_alloc | apply pw_below_drewN | apply below_drew1) | exact HB.out)))); have n4_ := Aside0.mk (below_step (by repeat (first | (with_reducible first | exact HB.out | apply below_alloc | apply pw_below_drewN | apply below_drew1) | exact HB.out)) hb); clear HO_3; clear HO_4; clear HO350; clear HB; have HO_3 := n0_; have HO_4 := n1_; have HO350 := n2_; have HO353 := n3_; have HB := n4_; clear n0_ n1_ n2_ n3_ n4_; (try clear hb); (try clear hb2); (try clear hk); (try clear hi); (try clear ho0); obtain ⟨Ao26, co26, eo26⟩ := Kd.R_slice HO353.out; subst eo26) | ((with_reducible refine gate_builtin (b := .append) (xs := #[.tmp 38, .tmp 40]) rfl ?_); at_builtin; refine Kd.R_append_rows (Kd.int .u8) (w0 := w) w.heap.size rfl (.tmp 38) (.tmp 40) 24 5 (.int .u8 0) 1 rfl Try.underlying24 info5 rfl (by decide) (by omega) v349 t348 t351 _ _ _ (fun k_ => some k_ ≠ (.slice Ao26 t351.length co26 : Value).ownBlock) (fun _ => False) rfl rfl ?aO ?aR (fun _ _ h => h) (fun _ h => h.elim) ?aF ?aB ?aS ?aL ?_; (case aR => repeat (first | exact (Kd.R_reads' HO353.out).2.2 | (with_reducible refine Kd.C_alloc ?_ _) | (with_reducible refine Kd.C_drewN ?_ _) | (with_reducible refine Kd.C_drew ?_))); (case aB => exact (by repeat (first | (with_reducible first | exact HB.out | apply below_alloc | apply pw_below_drewN | apply below_drew1) | exact HB.out))); (case aF => exact (fun k_ hk => Kd.fresh' (Kd.R_lt (by (with_reducible repeat (first | apply Kd.R_alloc | apply Kd.R_drewN | apply Kd.R_drew)); exact HO353.out)) k_ hk)); (case aO => exact (by (with_reducible repeat (first | apply Kd.R_alloc | apply Kd.R_drewN | apply Kd.R_drew)); exact Kd.R_mono HO350.out (fun _ hk => hk.2))); (case aS => exact (below_size (by repeat (first | (with_reducible first | exact HB.out | apply below_alloc | apply pw_below_drewN | apply below_drew1) | exact HB.out)))); (case aL => have := LMc19.out; omega); intro v355 w25 ho hb hg hat; rw [← Ny354.out] at ho; have n0_ := Aside0.mk (Kd.R_over' (by (with_reducible repeat (first | apply Kd.R_alloc | apply Kd.R_drewN | apply Kd.R_drew)); exact HO_3.out) (Kd.R_typed (by (with_reducible repeat (first | apply Kd.R_alloc | apply Kd.R_drewN | apply Kd.R_drew)); exact HO350.out)) (by decide) hg); have n1_ := Aside0.mk (Kd.R_over' (by (with_reducible repeat (first | apply Kd.R_alloc | apply Kd.R_drewN | apply Kd.R_drew)); exact HO_4.out) (Kd.R_typed (by (with_reducible repeat (first | apply Kd.R_alloc | apply Kd.R_drewN | apply Kd.R_drew)); exact HO350.out)) (by decide) hg); have n2_ := Aside0.mk (Kd.R_after (ok := (fun _ => True)) (by (with_reducible repeat (first | apply Kd.R_alloc | apply Kd.R_drewN | apply Kd.R_drew)); exact HO353.out) hg hat); have n3_ := Aside0.mk (hb); have n4_ := Aside0.mk (ho); clear HO_3; clear HO_4; clear HO353; clear HB; clear HO350; have HO_3 := n0_; have HO_4 := n1_; have HO353 := n2_; have HB := n3_; have HO356 := n4_; clear n0_ n1_ n2_ n3_ n4_; clear ho hb hg hat; obtain ⟨Ao27, co27, eo27⟩ := Kd.R_slice HO_4.out; subst eo27) | (go_at_call 14; (with_reducible refine (firkinref07_Put.calls k1 _ _ x4_1 t357 _ ?side1 ?side2 A20.out).mono ?_); (case side1 => repeat (first | exact (Kd.R_reads' HO_4.out).2.2 | (with_reducible refine Kd.C_alloc ?_ _) | (with_reducible refine Kd.C_drewN ?_ _) | (with_reducible refine Kd.C_drew ?_))); (case side2 => exact (Kd.R_reads' HO_4.out).2.1); rintro e w28 ⟨v358, rfl, ho0, hb⟩; have n0_ := Aside0.mk (Kd.R_below (by (with_reducible repeat (first | apply Kd.R_alloc | apply Kd.R_drewN | apply Kd.R_drew)); exact HO_3.out) hb); have n1_ := Aside0.mk (Kd.R_below (by (with_reducible repeat (first | apply Kd.R_alloc | apply Kd.R_drewN | apply Kd.R_drew)); exact HO_4.out) hb); have n2_ := Aside0.mk (Kd.R_elder' (by (with_reducible repeat (first | apply Kd.R_alloc | apply Kd.R_drewN | apply Kd.R_drew)); exact HO353.out) (Kd.R_base ho0) hb); have n3_ := Aside0.mk (Kd.R_elder' (by (with_reducible repeat (first | apply Kd.R_alloc | apply Kd.R_drewN | apply Kd.R_drew)); exact HO356.out) (Kd.R_base ho0) hb); have n4_ := Aside0.mk (Kd.R_lower (Kd.R_new' (Kd.R_new' ho0 (Kd.R_lt (by (with_reducible repeat (first | apply Kd.R_alloc | apply Kd.R_drewN | apply Kd.R_drew)); exact HO353.out))) (Kd.R_lt (by (with_reducible repeat (first | apply Kd.R_alloc | apply Kd.R_drewN | apply Kd.R_drew)); exact HO356.out))) (below_size (by repeat (first | (with_reducible first | exact HB.out | apply below_alloc | apply pw_below_drewN | apply below_drew1) | exact HB.out)))); have n5_ := Aside0.mk (below_step (by repeat (first | (with_reducible first | exact HB.out | apply below_alloc | apply pw_below_drewN | apply below_drew1) | exact HB.out)) hb); clear HO_3; clear HO_4; clear HO353; clear HO356; clear HB; have HO_3 := n0_; have HO_4 := n1_; have HO353 := n2_; have HO356 := n3_; have HO359 := n4_; have HB := n5_; clear n0_ n1_ n2_ n3_ n4_ n5_; (try clear hb); (try clear hb2); (try clear hk); (try clear hi); (try clear ho0); obtain ⟨Ao30, co30, eo30⟩ := Kd.R_slice HO359.out; subst eo30) | ((with_reducible refine gate_builtin (b := .append) (xs := #[.tmp 41, .tmp 43]) rfl ?_); at_builtin; refine Kd.R_append_rows (Kd.int .u8) (w0 := w) w.heap.size rfl (.tmp 41) (.tmp 43) 24 5 (.int .u8 0) 1 rfl Try.underlying24 info5 rfl (by decide) (by omega) v355 y354 t357 _ _ _ (fun k_ => some k_ ≠ (.slice Ao26 t351.length co26 : Value).ownBlock ∧ some k_ ≠ (.slice Ao30 t357.length co30 : Value).ownBlock) (fun _ => False) rfl rfl ?aO ?aR (fun _ _ h => h) (fun _ h => h.elim) ?aF ?aB ?aS ?aL ?_; (case aR => repeat (first | exact (Kd.R_reads' HO359.out).2.2 | (with_reducible refine Kd.C_alloc ?_ _) | (with_reducible refine Kd.C_drewN ?_ _) | (with_reducible refine Kd.C_drew ?_))); (case aB => exact (by repeat (first | (with_reducible first | exact HB.out | apply below_alloc | apply pw_below_drewN | apply below_drew1) | exact HB.out))); (case aF => exact (fun k_ hk => ⟨Kd.fresh' (Kd.R_lt (by (with_reducible repeat (first | apply Kd.R_alloc | apply Kd.R_drewN | apply Kd.R_drew)); exact HO353.out)) k_ hk, Kd.fresh' (Kd.R_lt (by (with_reducible repeat (first | apply Kd.R_alloc | apply Kd.R_drewN | apply Kd.R_drew)); exact HO359.out)) k_ hk⟩)); (case aO => exact (by (with_reducible repeat (first | apply Kd.R_alloc | apply Kd.R_drewN | apply Kd.R_drew)); exact HO356.out)); (case aS => exact (below_size (by repeat (first | (with_reducible first | exact HB.out | apply below_alloc | apply pw_below_drewN | apply below_drew1) | exact HB.out)))); (case aL => have := LMc21.out; omega); intro v361 w29 ho hb hg hat; rw [← Ny360.out] at ho; have n0_ := Aside0.mk (Kd.R_over' (by (with_reducible repeat (first | apply Kd.R_alloc | apply Kd.R_drewN | apply Kd.R_drew)); exact HO_3.out) (Kd.R_typed (by (with_reducible repeat (first | apply Kd.R_alloc | apply Kd.R_drewN | apply Kd.R_drew)); exact HO356.out)) (by decide) hg); have n1_ := Aside0.mk (Kd.R_over' (by (with_reducible repeat (first | apply Kd.R_alloc | apply Kd.R_drewN | apply Kd.R_drew)); exact HO_4.out) (Kd.R_typed (by (with_reducible repeat (first | apply Kd.R_alloc | apply Kd.R_drewN | apply Kd.R_drew)); exact HO356.out)) (by decide) hg); have n2_ := Aside0.mk (Kd.R_after (ok := (fun k_ => some k_ ≠ (.slice Ao30 t357.length co30 : Value).ownBlock)) (by (with_reducible repeat (first | apply Kd.R_alloc | apply Kd.R_drewN | apply Kd.R_drew)); exact Kd.R_mono HO353.out (fun _ hk => ⟨hk.2, hk.1.2⟩)) hg hat); have n3_ := Aside0.mk (Kd.R_after (ok := (fun k_ => some k_ ≠ (.slice Ao26 t351.length co26 : Value).ownBlock)) (by (with_reducible repeat (first | apply Kd.R_alloc | apply Kd.R_drewN | apply Kd.R_drew)); exact Kd.R_mono HO359.out (fun _ hk => ⟨hk.1.2, hk.2⟩)) hg hat); have n4_ := Aside0.mk (hb); have n5_ := Aside0.mk (ho); clear HO_3; clear HO_4; clear HO353; clear HO359; clear HB; clear HO356; have HO_3 := n0_; have HO_4 := n1_; have HO353 := n2_; have HO359 := n3_; have HB := n4_; have HO362 := n5_; clear n0_ n1_ n2_ n3_ n4_ n5_; clear ho hb hg hat)))
            go_ret
            exact ⟨_, by first | rfl | (simp [errW_none, errW_some] <;> rfl) | (simp [*, errW_none, errW_some] <;> rfl), by (with_reducible repeat (first | apply Kd.R_alloc | apply Kd.R_drewN | apply Kd.R_drew)); exact Kd.R_mono HO362.out (fun _ hk => trivial), by repeat (first | (with_reducible first | exact HB.out | apply below_alloc | apply pw_below_drewN | apply below_drew1) | exact HB.out)⟩
          · rw [if_neg c21] at H
            exact absurd H (by simp)
        · rw [if_neg c19] at H
          exact absurd H (by simp)

/-! ### firkinref01_S_Below: function 60 -/
def firkinref01_S_Below.f (s0_0 : List Int) (s0_1 : Bool) (a1 : Int) : Option (Int × List Int × Bool) := (firkinref01_S_Num.f s0_0 s0_1).bind fun bt368 => (if bt368.2.2 = true then ((firkinref01_S_Fail.f bt368.2.1 bt368.2.2).bind fun bt371 => (some (0, bt371.1, bt371.2))) else (if a1 < 1 then ((firkinref01_S_Fail.f bt368.2.1 bt368.2.2).bind fun bt373 => (some (0, bt373.1, bt373.2))) else (if bt368.1 ≥ (IntKind.u64.wrap (a1)) then ((firkinref01_S_Fail.f bt368.2.1 bt368.2.2).bind fun bt375 => (some (0, bt375.1, bt375.2))) else (some (wrap64 (bt368.1), bt368.2.1, bt368.2.2)))))
set_option maxHeartbeats 8000000 in
set_option maxRecDepth 100000 in
theorem firkinref01_S_Below.calls (g : Nat) (s0_0 : List Int) (s0_1 : Bool) (a1 : Int) (r1 : Int) (r2 : List Int) (r3 : Bool) (w0 w : World) (hI : IsS39 w0 w g s0_0 s0_1) (hB : Below w0.heap.size w0 w) (h : firkinref01_S_Below.f s0_0 s0_1 a1 = some (r1, r2, r3)) :
    Calls Try.prog 60 #[.pointer (some ⟨g, 0, none⟩), .int .i64 a1] w fun e w' => e = .returned (.int .i64 r1) ∧ IsS39 w0 w' g r2 r3 ∧ Below w0.heap.size w0 w' ∧ KeepBut w w' g none := by
  have HI0 := Aside0.mk hI
  have HK := Aside0.mk (KeepBut.refl w g none)
  have HL := Aside0.mk hB.size
  clear hI
  have HW0 := Aside0.mk hB.size
  have HB := Aside0.mk hB
  clear hB
  have H : ((firkinref01_S_Num.f s0_0 s0_1).bind fun bt368 => (if bt368.2.2 = true then ((firkinref01_S_Fail.f bt368.2.1 bt368.2.2).bind fun bt371 => (some (0, bt371.1, bt371.2))) else (if a1 < 1 then ((firkinref01_S_Fail.f bt368.2.1 bt368.2.2).bind fun bt373 => (some (0, bt373.1, bt373.2))) else (if bt368.1 ≥ (IntKind.u64.wrap (a1)) then ((firkinref01_S_Fail.f bt368.2.1 bt368.2.2).bind fun bt375 => (some (0, bt375.1, bt375.2))) else (some (wrap64 (bt368.1), bt368.2.1, bt368.2.2)))))) = some (r1, r2, r3) := h
  clear h
  replace H := Option.bind_eq_some_iff.mp H
  obtain ⟨⟨t368, t369, t370⟩, A30, H⟩ := H
  replace H : (if t370 = true then ((firkinref01_S_Fail.f t369 t370).bind fun bt371 => (some (0, bt371.1, bt371.2))) else (if a1 < 1 then ((firkinref01_S_Fail.f t369 t370).bind fun bt373 => (some (0, bt373.1, bt373.2))) else (if t368 ≥ (IntKind.u64.wrap (a1)) then ((firkinref01_S_Fail.f t369 t370).bind fun bt375 => (some (0, bt375.1, bt375.2))) else (some (wrap64 (t368), t369, t370))))) = some (r1, r2, r3) := H
  have A3 := Aside0.mk A30
  clear A30
  by_cases c4 : t370 = true
  · subst c4
    have H1 : ((firkinref01_S_Fail.f t369 true).bind fun bt371 => (some (0, bt371.1, bt371.2))) = some (r1, r2, r3) := by rw [if_pos rfl] at H; exact H
    clear H
    have H := H1
    clear H1
    replace H := Option.bind_eq_some_iff.mp H
    obtain ⟨⟨t371, t372⟩, A50, H⟩ := H
    replace H : (some (0, t371, t372)) = some (r1, r2, r3) := H
    have A5 := Aside0.mk A50
    clear A50
    simp only [Option.some.injEq, Prod.mk.injEq] at H
    obtain ⟨rfl, rfl, rfl⟩ := H
    go_enter Try.func60, Try.ntmps60
    go_wp2_with (first | ((with_reducible refine gate_callee (f := 79) rfl ?_); refine goesL_ (some 7) rfl rfl Try.func79 (by kernel_rfl) rfl #[.pointer (some ⟨g, 0, none⟩)] rfl (by (try simp only [List.map_toArray, List.map_cons, List.map_nil]); first | done | rfl | (simp only [List.length_drop, List.length_take]; rfl)) ?_; (with_reducible refine (firkinref01_S_Num.calls g s0_0 s0_1 t368 t369 true w0 _ ?side1 ?side2 A3.out).mono ?_); (case side1 => repeat (first | (with_reducible first | exact HI0.out | apply IsS39.alloc | apply IsS39.drewN | apply IsS39.drew | apply IsS39.set_0 | apply IsS39.set_1) | exact HI0.out)); (case side2 => repeat (first | (with_reducible first | exact HB.out | apply below_alloc | apply pw_below_drewN | apply below_drew1 | refine below_set ?_ (IsS39.ge HI0.out)) | exact HB.out)); rintro e w6 ⟨rfl, hi, hb, hk⟩; refine ⟨_, rfl, ?_⟩; have n0_ := Aside0.mk (KeepBut.trans (by repeat (first | (with_reducible first | exact HK.out | apply KeepBut.set_ | apply keep_drewN | apply keep_drew | apply keep_alloc) | exact HK.out)) hk (.inl rfl)); have n1_ := Aside0.mk (hb); have n2_ := Aside0.mk (hi); clear HK; clear HB; clear HI0; have HK := n0_; have HB := n1_; have HI0 := n2_; clear n0_ n1_ n2_; (try clear hb); (try clear hb2); (try clear hk); (try clear hi); obtain ⟨ASz7_0, cSz7_0, HGz7, hgz7, ⟨HSz7_0, _⟩⟩ := HI0.out; have hcz7_0 := cellS39_0 HGz7; have hcz7_1 := cellS39_1 HGz7; have hfz7_0 := blk_frozen HGz7 0; have hfz7_1 := blk_frozen HGz7 1; clear HGz7 hgz7) | ((with_reducible refine gate_callee (f := 62) rfl ?_); refine goesL_ (some 23) rfl rfl Try.func62 (by kernel_rfl) rfl #[.pointer (some ⟨g, 0, none⟩)] rfl (by (try simp only [List.map_toArray, List.map_cons, List.map_nil]); first | done | rfl | (simp only [List.length_drop, List.length_take]; rfl)) ?_; (with_reducible refine (firkinref01_S_Fail.calls g t369 true t371 t372 w0 _ ?side1 ?side2 A5.out).mono ?_); (case side1 => repeat (first | (with_reducible first | exact HI0.out | apply IsS39.alloc | apply IsS39.drewN | apply IsS39.drew | apply IsS39.set_0 | apply IsS39.set_1) | exact HI0.out)); (case side2 => repeat (first | (with_reducible first | exact HB.out | apply below_alloc | apply pw_below_drewN | apply below_drew1 | refine below_set ?_ (IsS39.ge HI0.out)) | exact HB.out)); rintro e w8 ⟨rfl, hi, hb, hk⟩; refine ⟨_, rfl, ?_⟩; have n0_ := Aside0.mk (KeepBut.trans (by repeat (first | (with_reducible first | exact HK.out | apply KeepBut.set_ | apply keep_drewN | apply keep_drew | apply keep_alloc) | exact HK.out)) hk (.inl rfl)); have n1_ := Aside0.mk (hb); have n2_ := Aside0.mk (hi); clear HK; clear HB; clear HI0; have HK := n0_; have HB := n1_; have HI0 := n2_; clear n0_ n1_ n2_; (try clear hb); (try clear hb2); (try clear hk); (try clear hi)))
    go_ret
    exact ⟨by first | rfl | (simp [errW_none, errW_some] <;> rfl) | (simp [*, errW_none, errW_some] <;> rfl), by repeat (first | (with_reducible first | exact HI0.out | apply IsS39.alloc | apply IsS39.drewN | apply IsS39.drew | apply IsS39.set_0 | apply IsS39.set_1) | exact HI0.out), by repeat (first | (with_reducible first | exact HB.out | apply below_alloc | apply pw_below_drewN | apply below_drew1 | refine below_set ?_ (IsS39.ge HI0.out)) | exact HB.out), by repeat (first | (with_reducible first | exact HK.out | apply KeepBut.set_ | apply keep_drewN | apply keep_drew | apply keep_alloc) | exact HK.out)⟩
  · replace c4 := Bool.eq_false_iff.mpr c4
    subst c4
    have H1 : (if a1 < 1 then ((firkinref01_S_Fail.f t369 false).bind fun bt373 => (some (0, bt373.1, bt373.2))) else (if t368 ≥ (IntKind.u64.wrap (a1)) then ((firkinref01_S_Fail.f t369 false).bind fun bt375 => (some (0, bt375.1, bt375.2))) else (some (wrap64 (t368), t369, false)))) = some (r1, r2, r3) := by rw [if_neg (show ¬ (false = true) by decide)] at H; exact H
    clear H
    have H := H1
    clear H1
    by_cases c9 : a1 < 1
    · rw [if_pos c9] at H
      have c9b0 : decide (a1 < 1) = true := decide_eq_true c9
      clear c9
      replace H := Option.bind_eq_some_iff.mp H
      obtain ⟨⟨t373, t374⟩, A100, H⟩ := H
      replace H : (some (0, t373, t374)) = some (r1, r2, r3) := H
      have A10 := Aside0.mk A100
      clear A100
      simp only [Option.some.injEq, Prod.mk.injEq] at H
      obtain ⟨rfl, rfl, rfl⟩ := H
      go_enter Try.func60, Try.ntmps60
      go_wp2_with (first | ((with_reducible refine gate_callee (f := 79) rfl ?_); refine goesL_ (some 7) rfl rfl Try.func79 (by kernel_rfl) rfl #[.pointer (some ⟨g, 0, none⟩)] rfl (by (try simp only [List.map_toArray, List.map_cons, List.map_nil]); first | done | rfl | (simp only [List.length_drop, List.length_take]; rfl)) ?_; (with_reducible refine (firkinref01_S_Num.calls g s0_0 s0_1 t368 t369 false w0 _ ?side1 ?side2 A3.out).mono ?_); (case side1 => repeat (first | (with_reducible first | exact HI0.out | apply IsS39.alloc | apply IsS39.drewN | apply IsS39.drew | apply IsS39.set_0 | apply IsS39.set_1) | exact HI0.out)); (case side2 => repeat (first | (with_reducible first | exact HB.out | apply below_alloc | apply pw_below_drewN | apply below_drew1 | refine below_set ?_ (IsS39.ge HI0.out)) | exact HB.out)); rintro e w11 ⟨rfl, hi, hb, hk⟩; refine ⟨_, rfl, ?_⟩; have n0_ := Aside0.mk (KeepBut.trans (by repeat (first | (with_reducible first | exact HK.out | apply KeepBut.set_ | apply keep_drewN | apply keep_drew | apply keep_alloc) | exact HK.out)) hk (.inl rfl)); have n1_ := Aside0.mk (hb); have n2_ := Aside0.mk (hi); clear HK; clear HB; clear HI0; have HK := n0_; have HB := n1_; have HI0 := n2_; clear n0_ n1_ n2_; (try clear hb); (try clear hb2); (try clear hk); (try clear hi); obtain ⟨ASz12_0, cSz12_0, HGz12, hgz12, ⟨HSz12_0, _⟩⟩ := HI0.out; have hcz12_0 := cellS39_0 HGz12; have hcz12_1 := cellS39_1 HGz12; have hfz12_0 := blk_frozen HGz12 0; have hfz12_1 := blk_frozen HGz12 1; clear HGz12 hgz12) | ((with_reducible refine gate_callee (f := 62) rfl ?_); refine goesL_ (some 23) rfl rfl Try.func62 (by kernel_rfl) rfl #[.pointer (some ⟨g, 0, none⟩)] rfl (by (try simp only [List.map_toArray, List.map_cons, List.map_nil]); first | done | rfl | (simp only [List.length_drop, List.length_take]; rfl)) ?_; (with_reducible refine (firkinref01_S_Fail.calls g t369 false t373 t374 w0 _ ?side1 ?side2 A10.out).mono ?_); (case side1 => repeat (first | (with_reducible first | exact HI0.out | apply IsS39.alloc | apply IsS39.drewN | apply IsS39.drew | apply IsS39.set_0 | apply IsS39.set_1) | exact HI0.out)); (case side2 => repeat (first | (with_reducible first | exact HB.out | apply below_alloc | apply pw_below_drewN | apply below_drew1 | refine below_set ?_ (IsS39.ge HI0.out)) | exact HB.out)); rintro e w13 ⟨rfl, hi, hb, hk⟩; refine ⟨_, rfl, ?_⟩; have n0_ := Aside0.mk (KeepBut.trans (by repeat (first | (with_reducible first | exact HK.out | apply KeepBut.set_ | apply keep_drewN | apply keep_drew | apply keep_alloc) | exact HK.out)) hk (.inl rfl)); have n1_ := Aside0.mk (hb); have n2_ := Aside0.mk (hi); clear HK; clear HB; clear HI0; have HK := n0_; have HB := n1_; have HI0 := n2_; clear n0_ n1_ n2_; (try clear hb); (try clear hb2); (try clear hk); (try clear hi)))
      go_ret
      exact ⟨by first | rfl | (simp [errW_none, errW_some] <;> rfl) | (simp [*, errW_none, errW_some] <;> rfl), by repeat (first | (with_reducible first | exact HI0.out | apply IsS39.alloc | apply IsS39.drewN | apply IsS39.drew | apply IsS39.set_0 | apply IsS39.set_1) | exact HI0.out), by repeat (first | (with_reducible first | exact HB.out | apply below_alloc | apply pw_below_drewN | apply below_drew1 | refine below_set ?_ (IsS39.ge HI0.out)) | exact HB.out), by repeat (first | (with_reducible first | exact HK.out | apply KeepBut.set_ | apply keep_drewN | apply keep_drew | apply keep_alloc) | exact HK.out)⟩
    · rw [if_neg c9] at H
      have c9b0 : decide (a1 < 1) = false := decide_eq_false c9
      clear c9
      by_cases c14 : t368 ≥ (IntKind.u64.wrap (a1))
      · rw [if_pos c14] at H
        have c14b0 : decide ((IntKind.u64.wrap (a1)) ≤ t368) = true := decide_eq_true c14
        clear c14
        replace H := Option.bind_eq_some_iff.mp H
        obtain ⟨⟨t375, t376⟩, A150, H⟩ := H
        replace H : (some (0, t375, t376)) = some (r1, r2, r3) := H
        have A15 := Aside0.mk A150
        clear A150
        simp only [Option.some.injEq, Prod.mk.injEq] at H
        obtain ⟨rfl, rfl, rfl⟩ := H
        go_enter Try.func60, Try.ntmps60
        go_wp2_with (first | ((with_reducible refine gate_callee (f := 79) rfl ?_); refine goesL_ (some 7) rfl rfl Try.func79 (by kernel_rfl) rfl #[.pointer (some ⟨g, 0, none⟩)] rfl (by (try simp only [List.map_toArray, List.map_cons, List.map_nil]); first | done | rfl | (simp only [List.length_drop, List.length_take]; rfl)) ?_; (with_reducible refine (firkinref01_S_Num.calls g s0_0 s0_1 t368 t369 false w0 _ ?side1 ?side2 A3.out).mono ?_); (case side1 => repeat (first | (with_reducible first | exact HI0.out | apply IsS39.alloc | apply IsS39.drewN | apply IsS39.drew | apply IsS39.set_0 | apply IsS39.set_1) | exact HI0.out)); (case side2 => repeat (first | (with_reducible first | exact HB.out | apply below_alloc | apply pw_below_drewN | apply below_drew1 | refine below_set ?_ (IsS39.ge HI0.out)) | exact HB.out)); rintro e w16 ⟨rfl, hi, hb, hk⟩; refine ⟨_, rfl, ?_⟩; have n0_ := Aside0.mk (KeepBut.trans (by repeat (first | (with_reducible first | exact HK.out | apply KeepBut.set_ | apply keep_drewN | apply keep_drew | apply keep_alloc) | exact HK.out)) hk (.inl rfl)); have n1_ := Aside0.mk (hb); have n2_ := Aside0.mk (hi); clear HK; clear HB; clear HI0; have HK := n0_; have HB := n1_; have HI0 := n2_; clear n0_ n1_ n2_; (try clear hb); (try clear hb2); (try clear hk); (try clear hi); obtain ⟨ASz17_0, cSz17_0, HGz17, hgz17, ⟨HSz17_0, _⟩⟩ := HI0.out; have hcz17_0 := cellS39_0 HGz17; have hcz17_1 := cellS39_1 HGz17; have hfz17_0 := blk_frozen HGz17 0; have hfz17_1 := blk_frozen HGz17 1; clear HGz17 hgz17) | ((with_reducible refine gate_callee (f := 62) rfl ?_); refine goesL_ (some 23) rfl rfl Try.func62 (by kernel_rfl) rfl #[.pointer (some ⟨g, 0, none⟩)] rfl (by (try simp only [List.map_toArray, List.map_cons, List.map_nil]); first | done | rfl | (simp only [List.length_drop, List.length_take]; rfl)) ?_; (with_reducible refine (firkinref01_S_Fail.calls g t369 false t375 t376 w0 _ ?side1 ?side2 A15.out).mono ?_); (case side1 => repeat (first | (with_reducible first | exact HI0.out | apply IsS39.alloc | apply IsS39.drewN | apply IsS39.drew | apply IsS39.set_0 | apply IsS39.set_1) | exact HI0.out)); (case side2 => repeat (first | (with_reducible first | exact HB.out | apply below_alloc | apply pw_below_drewN | apply below_drew1 | refine below_set ?_ (IsS39.ge HI0.out)) | exact HB.out)); rintro e w18 ⟨rfl, hi, hb, hk⟩; refine ⟨_, rfl, ?_⟩; have n0_ := Aside0.mk (KeepBut.trans (by repeat (first | (with_reducible first | exact HK.out | apply KeepBut.set_ | apply keep_drewN | apply keep_drew | apply keep_alloc) | exact HK.out)) hk (.inl rfl)); have n1_ := Aside0.mk (hb); have n2_ := Aside0.mk (hi); clear HK; clear HB; clear HI0; have HK := n0_; have HB := n1_; have HI0 := n2_; clear n0_ n1_ n2_; (try clear hb); (try clear hb2); (try clear hk); (try clear hi)))
        go_ret
        exact ⟨by first | rfl | (simp [errW_none, errW_some] <;> rfl) | (simp [*, errW_none, errW_some] <;> rfl), by repeat (first | (with_reducible first | exact HI0.out | apply IsS39.alloc | apply IsS39.drewN | apply IsS39.drew | apply IsS39.set_0 | apply IsS39.set_1) | exact HI0.out), by repeat (first | (with_reducible first | exact HB.out | apply below_alloc | apply pw_below_drewN | apply below_drew1 | refine below_set ?_ (IsS39.ge HI0.out)) | exact HB.out), by repeat (first | (with_reducible first | exact HK.out | apply KeepBut.set_ | apply keep_drewN | apply keep_drew | apply keep_alloc) | exact HK.out)⟩
      · rw [if_neg c14] at H
        have c14b0 : decide ((IntKind.u64.wrap (a1)) ≤ t368) = false := decide_eq_false c14
        clear c14
        simp only [Option.some.injEq, Prod.mk.injEq] at H
        obtain ⟨rfl, rfl, rfl⟩ := H
        go_enter Try.func60, Try.ntmps60
        go_wp2_with (first | ((with_reducible refine gate_callee (f := 79) rfl ?_); refine goesL_ (some 7) rfl rfl Try.func79 (by kernel_rfl) rfl #[.pointer (some ⟨g, 0, none⟩)] rfl (by (try simp only [List.map_toArray, List.map_cons, List.map_nil]); first | done | rfl | (simp only [List.length_drop, List.length_take]; rfl)) ?_; (with_reducible refine (firkinref01_S_Num.calls g s0_0 s0_1 t368 t369 false w0 _ ?side1 ?side2 A3.out).mono ?_); (case side1 => repeat (first | (with_reducible first | exact HI0.out | apply IsS39.alloc | apply IsS39.drewN | apply IsS39.drew | apply IsS39.set_0 | apply IsS39.set_1) | exact HI0.out)); (case side2 => repeat (first | (with_reducible first | exact HB.out | apply below_alloc | apply pw_below_drewN | apply below_drew1 | refine below_set ?_ (IsS39.ge HI0.out)) | exact HB.out)); rintro e w19 ⟨rfl, hi, hb, hk⟩; refine ⟨_, rfl, ?_⟩; have n0_ := Aside0.mk (KeepBut.trans (by repeat (first | (with_reducible first | exact HK.out | apply KeepBut.set_ | apply keep_drewN | apply keep_drew | apply keep_alloc) | exact HK.out)) hk (.inl rfl)); have n1_ := Aside0.mk (hb); have n2_ := Aside0.mk (hi); clear HK; clear HB; clear HI0; have HK := n0_; have HB := n1_; have HI0 := n2_; clear n0_ n1_ n2_; (try clear hb); (try clear hb2); (try clear hk); (try clear hi); obtain ⟨ASz20_0, cSz20_0, HGz20, hgz20, ⟨HSz20_0, _⟩⟩ := HI0.out; have hcz20_0 := cellS39_0 HGz20; have hcz20_1 := cellS39_1 HGz20; have hfz20_0 := blk_frozen HGz20 0; have hfz20_1 := blk_frozen HGz20 1; clear HGz20 hgz20))
        go_ret
        exact ⟨by first | rfl | (simp [errW_none, errW_some] <;> rfl) | (simp [*, errW_none, errW_some] <;> rfl), by repeat (first | (with_reducible first | exact HI0.out | apply IsS39.alloc | apply IsS39.drewN | apply IsS39.drew | apply IsS39.set_0 | apply IsS39.set_1) | exact HI0.out), by repeat (first | (with_reducible first | exact HB.out | apply below_alloc | apply pw_below_drewN | apply below_drew1 | refine below_set ?_ (IsS39.ge HI0.out)) | exact HB.out), by repeat (first | (with_reducible first | exact HK.out | apply KeepBut.set_ | apply keep_drewN | apply keep_drew | apply keep_alloc) | exact HK.out)⟩

end Go.Proofs.Ytbbffnlefmogbaa.X
/- What is read of a source, plain law: numbers, numbers below another one: the code's source and the document's read the same. -/
namespace Go.Proofs.Ytbbffnlefmogbaa.Read
open Go Go.RowKit Go.Proofs.Ytbbffnlefmogbaa.X Go.Proofs.Ytbbffnlefmogbaa.Dec Go.Proofs.Ytbbffnlefmogbaa.Enc Go.Proofs.Ytbbffnlefmogbaa.Round Go.Proofs.YtbbffnlefmogbaaW.PrintWords Go.Proofs.YtbbffnlefmogbaaW.PrintLast Go.Proofs.YtbbffnlefmogbaaW.PrintMore
set_option linter.unusedVariables false
/-- A source as it can be: of one that failed nothing is left. -/
def GoodS (l : List Int) (bad : Bool) : Prop := Fit l ∧ (bad = true → l = [])
theorem GoodS.nil (b : Bool) : GoodS [] b := ⟨Fit.nil, fun _ => rfl⟩
theorem GoodS.of {l : List Int} (h : Fit l) : GoodS l false := ⟨h, fun h => by cases h⟩
theorem GoodS.drop {l : List Int} {b : Bool} (h : GoodS l b) (k : Nat) : GoodS (l.drop k) b := ⟨h.1.drop k, fun e => by rw [h.2 e]; exact List.drop_nil⟩
def gNum (l : List Int) (bad : Bool) : Int × List Int × Bool :=
  if bad = true ∨ szS 0 l = 0 then (0, [], true) else (((valS 0 (l.take (szS 0 l)) : Nat) : Int), l.drop (szS 0 l), false)
theorem gNum_good {l : List Int} {b : Bool} (h : GoodS l b) : GoodS (gNum l b).2.1 (gNum l b).2.2 := by
  unfold gNum; split
  · exact GoodS.nil _
  · exact GoodS.of (h.1.drop _)
theorem gNum_len (l : List Int) (b : Bool) : (gNum l b).2.1.length ≤ l.length := by
  unfold gNum; split <;> simp
theorem gNum_range {l : List Int} {b : Bool} (h : GoodS l b) : 0 ≤ (gNum l b).1 ∧ (gNum l b).1 < 18446744073709551616 := by
  unfold gNum; split
  · simp
  · have := val_lt h.1.1 (Nat.le_refl (szS 0 l))
    show 0 ≤ ((_ : Nat) : Int) ∧ ((_ : Nat) : Int) < _
    omega
theorem num_g {l : List Int} {b : Bool} (h : GoodS l b) : vint_Source_Num.f l b = some (gNum l b) := by
  unfold vint_Source_Num.f numS gNum
  rw [if_pos h.1]
  cases b with
  | true => rw [if_pos rfl, if_pos (.inl rfl), h.2 rfl]
  | false =>
    rw [if_neg (by decide)]
    by_cases hz : szS 0 l = 0
    · rw [if_pos hz, if_pos (.inr hz)]
    · rw [if_neg hz, if_neg (by simp [hz])]
theorem rnum_g {l : List Int} {b : Bool} (h : GoodS l b) : firkinref01_S_Num.f l b = some (gNum l b) := by
  unfold firkinref01_S_Num.f rnumS gNum
  rw [if_pos h.1]
  cases b with
  | true => obtain rfl := h.2 rfl; rfl
  | false =>
    by_cases hz : szS 0 l = 0
    · rw [if_pos hz, if_pos (.inr hz)]
    · rw [if_neg hz, if_neg (by simp [hz])]
def gBelow (l : List Int) (bad : Bool) (n : Int) : Int × List Int × Bool :=
  if (gNum l bad).2.2 = true ∨ n ≤ 0 ∨ n ≤ (gNum l bad).1 then (0, [], true) else gNum l bad
theorem gBelow_good {l : List Int} {b : Bool} (h : GoodS l b) (n : Int) : GoodS (gBelow l b n).2.1 (gBelow l b n).2.2 := by
  unfold gBelow; split
  · exact GoodS.nil _
  · exact gNum_good h
theorem gBelow_len (l : List Int) (b : Bool) (n : Int) : (gBelow l b n).2.1.length ≤ l.length := by
  unfold gBelow; split
  · simp
  · exact gNum_len l b
theorem gBelow_range {l : List Int} {b : Bool} (h : GoodS l b) (n : Int) : 0 ≤ (gBelow l b n).1 ∧ ((gBelow l b n).1 < n ∨ (gBelow l b n).1 = 0) := by
  unfold gBelow; split
  · simp
  · have := gNum_range h; omega
theorem wrap_u64_of {n : Int} (h0 : 0 ≤ n) (h1 : n < 18446744073709551616) : IntKind.u64.wrap n = n := by rw [IntKind.wrap_u64]; omega
theorem below_g {l : List Int} {b : Bool} (h : GoodS l b) (n : Int) (hn : n < 9223372036854775808) : vint_Source_Below.f l b n = some (gBelow l b n) := by
  unfold vint_Source_Below.f vint_Source_Ok.f vint_Source_Fail.f
  rw [num_g h, Option.bind_some]
  obtain ⟨h0, h1⟩ := gNum_range h
  unfold gBelow
  generalize gNum l b = g at h0 h1 ⊢
  obtain ⟨x, l', b'⟩ := g
  simp only [Option.bind_some] at h0 h1 ⊢
  cases b' with
  | true => simp
  | false =>
    by_cases hn0 : n > 0
    · rw [wrap_u64_of (by omega) (by omega)]
      by_cases hx : x < n
      · have hw : wrap64 x = x := w64 (by omega) (by omega)
        have : ¬ n ≤ 0 := by omega
        simp [hn0, hx, hw, this]
      · have : n ≤ x := by omega
        simp [hn0, hx, this]
    · have : n ≤ 0 := by omega
      simp [hn0, this]
theorem rbelow_g {l : List Int} {b : Bool} (h : GoodS l b) (n : Int) (hn : n < 9223372036854775808) : firkinref01_S_Below.f l b n = some (gBelow l b n) := by
  unfold firkinref01_S_Below.f firkinref01_S_Fail.f
  rw [rnum_g h, Option.bind_some]
  obtain ⟨h0, h1⟩ := gNum_range h
  unfold gBelow
  generalize gNum l b = g at h0 h1 ⊢
  obtain ⟨x, l', b'⟩ := g
  simp only [Option.bind_some] at h0 h1 ⊢
  cases b' with
  | true => simp
  | false =>
    by_cases hn0 : n < 1
    · have : n ≤ 0 := by omega
      simp [hn0, this]
    · have hn2 : ¬ n ≤ 0 := by omega
      rw [wrap_u64_of (by omega) (by omega)]
      by_cases hx : x ≥ n
      · have : n ≤ x := by omega
        simp [hn0, hn2, this]
      · have hw : wrap64 x = x := w64 (by omega) (by omega)
        have : ¬ n ≤ x := by omega
        simp [hn0, hn2, hw, this]
end Go.Proofs.Ytbbffnlefmogbaa.Read
/- Signed numbers that are read, plain law. -/
namespace Go.Proofs.Ytbbffnlefmogbaa.Read
open Go Go.RowKit Go.Proofs.Ytbbffnlefmogbaa.X Go.Proofs.Ytbbffnlefmogbaa.Dec Go.Proofs.Ytbbffnlefmogbaa.Enc Go.Proofs.Ytbbffnlefmogbaa.Round Go.Proofs.YtbbffnlefmogbaaW.PrintWords Go.Proofs.YtbbffnlefmogbaaW.PrintLast Go.Proofs.YtbbffnlefmogbaaW.PrintMore
set_option linter.unusedVariables false
def gInt (l : List Int) (bad : Bool) : Int × List Int × Bool := (zag (gNum l bad).1.toNat, (gNum l bad).2.1, (gNum l bad).2.2)
theorem int_g {l : List Int} {b : Bool} (h : GoodS l b) : vint_Source_Int.f l b = some (gInt l b) := by
  unfold vint_Source_Int.f
  rw [num_g h, Option.bind_some]
  obtain ⟨h0, h1⟩ := gNum_range h
  have e := int_val (gNum l b).1.toNat (by omega)
  rw [Int.toNat_of_nonneg h0] at e
  rw [e]
  rfl
theorem rint_val (n : Int) (h0 : 0 ≤ n) (h1 : n < 18446744073709551616) :
    (if Int.tmod n 2 = 1 then wrap64 ((wrap64 (-(wrap64 (IntKind.u64.wrap (Int.tdiv n 2))))) - 1) else wrap64 (IntKind.u64.wrap (Int.tdiv n 2))) = zag n.toNat := by
  rw [Int.tmod_eq_emod_of_nonneg h0, Int.tdiv_eq_ediv_of_nonneg h0, IntKind.wrap_u64]
  unfold zag wrap64
  split <;> split <;> omega
theorem rint_g {l : List Int} {b : Bool} (h : GoodS l b) : firkinref01_S_Int.f l b = some (gInt l b) := by
  unfold firkinref01_S_Int.f
  rw [rnum_g h, Option.bind_some]
  obtain ⟨h0, h1⟩ := gNum_range h
  have e := rint_val _ h0 h1
  unfold gInt
  rw [← e]
  by_cases hc : Int.tmod (gNum l b).1 2 = 1
  · rw [if_pos hc, if_pos hc]
  · rw [if_neg hc, if_neg hc]
end Go.Proofs.Ytbbffnlefmogbaa.Read
/- What is read of a source, plain law: bytes; the code's source and the document's read the same. -/
namespace Go.Proofs.Ytbbffnlefmogbaa.Read
open Go Go.RowKit Go.Proofs.Ytbbffnlefmogbaa.X Go.Proofs.Ytbbffnlefmogbaa.Dec Go.Proofs.Ytbbffnlefmogbaa.Enc Go.Proofs.Ytbbffnlefmogbaa.Round Go.Proofs.YtbbffnlefmogbaaW.PrintWords Go.Proofs.YtbbffnlefmogbaaW.PrintLast Go.Proofs.YtbbffnlefmogbaaW.PrintMore
set_option linter.unusedVariables false
def gTake (l : List Int) (bad : Bool) (n : Int) : List Int × List Int × Bool :=
  if bad = true ∨ n < 0 ∨ (l.length : Int) < n then ([], [], true) else (l.take n.toNat, l.drop n.toNat, false)
theorem gTake_good {l : List Int} {b : Bool} (h : GoodS l b) (n : Int) : GoodS (gTake l b n).2.1 (gTake l b n).2.2 := by
  unfold gTake; split
  · exact GoodS.nil _
  · exact GoodS.of (h.1.drop _)
theorem gTake_len (l : List Int) (b : Bool) (n : Int) : (gTake l b n).2.1.length ≤ l.length := by unfold gTake; split <;> simp
theorem gTake_bytes {l : List Int} {b : Bool} (h : GoodS l b) (n : Int) : IsBytes (gTake l b n).1 := by
  unfold gTake; split
  · intro x hx; simp at hx
  · exact h.1.1.take _
theorem take_g {l : List Int} {b : Bool} (h : GoodS l b) (n : Int) : vint_Source_Take.f l b n = some (gTake l b n) := by
  unfold vint_Source_Take.f; rw [if_pos h.1.2]; rfl
theorem rtake_g {l : List Int} {b : Bool} (h : GoodS l b) (n : Int) : firkinref01_S_Take.f l b n = some (gTake l b n) := by
  unfold firkinref01_S_Take.f; rw [if_pos h.1.2]; rfl
end Go.Proofs.Ytbbffnlefmogbaa.Read
/- tight, plain law: Put and Get always answer; what they answer is of so many numbers, and is put again. -/
namespace Go.Proofs.Ytbbffnlefmogbaa.Tight
open Go Go.RowKit Go.Proofs.Ytbbffnlefmogbaa.X Go.Proofs.Ytbbffnlefmogbaa.Dec Go.Proofs.Ytbbffnlefmogbaa.Enc Go.Proofs.Ytbbffnlefmogbaa.Round Go.Proofs.Ytbbffnlefmogbaa.Read Go.Proofs.YtbbffnlefmogbaaW.PrintWords Go.Proofs.YtbbffnlefmogbaaW.PrintLast Go.Proofs.YtbbffnlefmogbaaW.PrintMore
set_option linter.unusedVariables false
set_option linter.unusedSimpArgs false
def I64 (x : Int) : Prop := -9223372036854775808 ≤ x ∧ x < 9223372036854775808
theorem min_loop (l : List Int) (hl : l.length ≤ 4096) : ∀ (d k i : Nat) (m : Int), i + d = l.length → d < k → slices_Min_int64_int64.l0 k l m (i : Int) = some ((l.drop i).foldl mn m) := by
  intro d
  induction d with
  | zero =>
    intro k i m h hk
    obtain ⟨k, rfl⟩ : ∃ q, k = q + 1 := ⟨k - 1, by omega⟩
    rw [slices_Min_int64_int64.l0, if_neg (by omega), List.drop_eq_nil_of_le (by omega)]; rfl
  | succ d ih =>
    intro k i m h hk
    obtain ⟨k, rfl⟩ : ∃ q, k = q + 1 := ⟨k - 1, by omega⟩
    have hi : i < l.length := by omega
    have e : rd l (i : Int) = l[i] := by unfold rd; simp [hi]
    rw [slices_Min_int64_int64.l0, if_pos (by omega), if_pos (by omega), e, show wrap64 ((i : Int) + 1) = ((i + 1 : Nat) : Int) by unfold wrap64; omega, ih k (i + 1) _ (by omega) (by omega), List.drop_eq_getElem_cons hi, List.foldl_cons]
theorem max_loop (l : List Int) (hl : l.length ≤ 4096) : ∀ (d k i : Nat) (m : Int), i + d = l.length → d < k → slices_Max_int64_int64.l0 k l m (i : Int) = some ((l.drop i).foldl mx m) := by
  intro d
  induction d with
  | zero =>
    intro k i m h hk
    obtain ⟨k, rfl⟩ : ∃ q, k = q + 1 := ⟨k - 1, by omega⟩
    rw [slices_Max_int64_int64.l0, if_neg (by omega), List.drop_eq_nil_of_le (by omega)]; rfl
  | succ d ih =>
    intro k i m h hk
    obtain ⟨k, rfl⟩ : ∃ q, k = q + 1 := ⟨k - 1, by omega⟩
    have hi : i < l.length := by omega
    have e : rd l (i : Int) = l[i] := by unfold rd; simp [hi]
    rw [slices_Max_int64_int64.l0, if_pos (by omega), if_pos (by omega), e, show wrap64 ((i : Int) + 1) = ((i + 1 : Nat) : Int) by unfold wrap64; omega, ih k (i + 1) _ (by omega) (by omega), List.drop_eq_getElem_cons hi, List.foldl_cons]
def lowOf (l : List Int) : Int := (l.drop 1).foldl mn (rd l 0)
def highOf (l : List Int) : Int := (l.drop 1).foldl mx (rd l 0)
theorem min_is (l : List Int) (hl : l.length ≤ 4096) (h0 : l ≠ []) (k : Nat) (hk : 4096 < k) : slices_Min_int64_int64.f k l = some (lowOf l) := by
  have hp := List.length_pos_iff.mpr h0
  unfold slices_Min_int64_int64.f
  rw [if_neg (by omega), if_pos (by omega)]
  exact min_loop l hl (l.length - 1) k 1 _ (by omega) (by omega)
theorem max_is (l : List Int) (hl : l.length ≤ 4096) (h0 : l ≠ []) (k : Nat) (hk : 4096 < k) : slices_Max_int64_int64.f k l = some (highOf l) := by
  have hp := List.length_pos_iff.mpr h0
  unfold slices_Max_int64_int64.f
  rw [if_neg (by omega), if_pos (by omega)]
  exact max_loop l hl (l.length - 1) k 1 _ (by omega) (by omega)
theorem fold_mn : ∀ (l : List Int) (m : Int), I64 m → (∀ x ∈ l, I64 x) → I64 (l.foldl mn m) ∧ l.foldl mn m ≤ m ∧ ∀ x ∈ l, l.foldl mn m ≤ x
  | [], m, h, _ => ⟨h, Int.le_refl _, fun _ h => by cases h⟩
  | x :: l, m, h, hl => by
    rw [List.foldl_cons]
    have hx := hl x List.mem_cons_self
    have hm : I64 (mn m x) ∧ mn m x ≤ m ∧ mn m x ≤ x := by unfold mn; split <;> (refine ⟨?_, ?_, ?_⟩ <;> first | assumption | omega)
    obtain ⟨h1, h2, h3⟩ := fold_mn l (mn m x) hm.1 (fun y hy => hl y (List.mem_cons_of_mem _ hy))
    refine ⟨h1, by omega, ?_⟩
    intro y hy
    rcases List.mem_cons.mp hy with rfl | hy
    · omega
    · exact h3 y hy
theorem fold_mx : ∀ (l : List Int) (m : Int), I64 m → (∀ x ∈ l, I64 x) → I64 (l.foldl mx m) ∧ m ≤ l.foldl mx m ∧ ∀ x ∈ l, x ≤ l.foldl mx m
  | [], m, h, _ => ⟨h, Int.le_refl _, fun _ h => by cases h⟩
  | x :: l, m, h, hl => by
    rw [List.foldl_cons]
    have hx := hl x List.mem_cons_self
    have hm : I64 (mx m x) ∧ m ≤ mx m x ∧ x ≤ mx m x := by unfold mx; split <;> (refine ⟨?_, ?_, ?_⟩ <;> first | assumption | omega)
    obtain ⟨h1, h2, h3⟩ := fold_mx l (mx m x) hm.1 (fun y hy => hl y (List.mem_cons_of_mem _ hy))
    refine ⟨h1, by omega, ?_⟩
    intro y hy
    rcases List.mem_cons.mp hy with rfl | hy
    · omega
    · exact h3 y hy
theorem low_high (l : List Int) (h0 : l ≠ []) (hl : ∀ x ∈ l, I64 x) : I64 (lowOf l) ∧ I64 (highOf l) ∧ ∀ x ∈ l, lowOf l ≤ x ∧ x ≤ highOf l := by
  obtain ⟨a, t, rfl⟩ : ∃ a t, l = a :: t := by cases l with | nil => exact absurd rfl h0 | cons a t => exact ⟨a, t, rfl⟩
  have ea : rd (a :: t) 0 = a := rfl
  have ha := hl a List.mem_cons_self
  have ht : ∀ x ∈ t, I64 x := fun x hx => hl x (List.mem_cons_of_mem _ hx)
  obtain ⟨p1, p2, p3⟩ := fold_mn t a ha ht
  obtain ⟨q1, q2, q3⟩ := fold_mx t a ha ht
  unfold lowOf highOf
  rw [ea, List.drop_one, List.tail_cons]
  refine ⟨p1, q1, ?_⟩
  intro x hx
  rcases List.mem_cons.mp hx with rfl | hx
  · exact ⟨p2, q2⟩
  · exact ⟨p3 x hx, q3 x hx⟩
theorem bitLenAux_le : ∀ f x, Lib.bitLenAux f x ≤ f
  | 0, _ => Nat.le_refl _
  | f + 1, x => by rw [Lib.bitLenAux]; split; omega; have := bitLenAux_le f (x / 2); omega
theorem above_range (x low : Int) : 0 ≤ above x low ∧ above x low < 18446744073709551616 := by unfold above; rw [IntKind.wrap_u64]; omega
/-- How wide the numbers are. -/
def wideOf (l : List Int) : Nat := Lib.bitLen (above (highOf l) (lowOf l)).toNat
theorem wide_le (l : List Int) : wideOf l ≤ 64 := bitLenAux_le 64 _
theorem putGo_len (lo : Int) (n : Nat) : ∀ (l b : List Int) (a : Nat), b.length = (a + 7) / 8 → (putGo lo n l b a).length = (a + l.length * n + 7) / 8
  | [], b, a, h => by rw [putGo, h]; simp
  | x :: l, b, a, h => by rw [putGo, putGo_len lo n l _ _ (bitsGo_len _ _ _ _ _ h), List.length_cons, Nat.succ_mul, show a + n + l.length * n = a + (l.length * n + n) by omega]
theorem enc_le (n : Nat) (h : n < 18446744073709551616) : (enc n).length ≤ 10 := by
  have : (enc n).length = grp n := encL_length _ _
  rw [this]; exact grp_le h
def putL (l : List Int) : List Int := if l = [] then [] else enc (zig (lowOf l)) ++ ((wideOf l : Nat) : Int) :: putGo (lowOf l) (wideOf l) l [] 0
theorem put_is (l : List Int) (hl : l.length ≤ 4096) (hz : ∀ x ∈ l, I64 x) (k : Nat) (hk : 4096 < k) : tight_Put.f k l = some (putL l) := by
  unfold tight_Put.f putL
  by_cases h0 : l = []
  · rw [if_pos h0, if_pos h0]
  · obtain ⟨h1, h2, h3⟩ := low_high l h0 hz
    have ha := above_range (highOf l) (lowOf l)
    have hw := wide_le l
    have hlen := putGo_len (lowOf l) (wideOf l) l [] 0 rfl
    have hm : l.length * wideOf l ≤ 4096 * 64 := Nat.mul_le_mul hl hw
    have he := enc_le (zig (lowOf l)) (zig_lt h1.1 h1.2)
    rw [if_neg h0, if_neg h0, min_is l hl h0 k hk, Option.bind_some, max_is l hl h0 k hk, Option.bind_some]
    unfold bits_Len64.f
    rw [if_pos (by omega), Option.bind_some, int_is _ h1.1 h1.2 k (by omega), Option.bind_some]
    show (if l.length < 1000000 ∧ 0 ≤ ((wideOf l : Nat) : Int) ∧ ((wideOf l : Nat) : Int) ≤ 64 then slices_Concat_byte.f [enc (zig (lowOf l)), [IntKind.u8.wrap ((wideOf l : Nat) : Int)], putGo (lowOf l) ((wideOf l : Nat) : Int).toNat l [] 0] else none) = _
    rw [if_pos (by omega), Int.toNat_natCast, show IntKind.u8.wrap ((wideOf l : Nat) : Int) = ((wideOf l : Nat) : Int) by rw [IntKind.wrap_u8]; omega]
    unfold slices_Concat_byte.f
    have hf : [enc (zig (lowOf l)), [((wideOf l : Nat) : Int)], putGo (lowOf l) (wideOf l) l [] 0].flatten = enc (zig (lowOf l)) ++ ((wideOf l : Nat) : Int) :: putGo (lowOf l) (wideOf l) l [] 0 := by simp
    rw [hf, if_pos (by rw [List.length_append, List.length_cons, hlen]; omega)]
theorem nextOf_i64 (lo u : Int) : I64 (nextOf lo u) := by unfold nextOf I64; rw [IntKind.wrap_i64]; omega
theorem getGo_i64 (lo : Int) (m : Nat) (b : List Int) : ∀ d a, ∀ x ∈ getGo lo m b d a, I64 x
  | 0, _, x, h => by cases h
  | d + 1, a, x, h => by
    rw [getGo] at h
    rcases List.mem_cons.mp h with rfl | h
    · exact nextOf_i64 _ _
    · exact getGo_i64 lo m b d _ x h
theorem fits_mul {n y L : Nat} (h : fits n y L = true) : n * y ≤ 8 * L := by
  unfold fits at h
  by_cases hy : y = 0
  · rw [hy, Nat.mul_zero]; omega
  · rw [if_neg hy] at h
    simp only [Bool.and_eq_true, decide_eq_true_eq] at h
    have h1 := h.1.1
    have := (Nat.le_div_iff_mul_le (by omega)).mp h1
    exact this
/-- What bytes are opened as. -/
def openL (l : List Int) (n : Nat) : Option (Int × Int × List Int × Bool) :=
  let a := gInt l false
  let t := gTake a.2.1 a.2.2 1
  if t.2.2 = true then none else if rd t.1 0 > 64 then none else some (a.1, rd t.1 0, t.2.1, fits n (rd t.1 0).toNat t.2.1.length)
theorem open_is (l : List Int) (hb : IsBytes l) (hl : l.length ≤ 100000) (n : Nat) (h1 : 1 ≤ n) (h2 : n ≤ 4096) : tight_open.f l n = some (openL l n) := by
  have hg : GoodS l false := GoodS.of ⟨hb, by omega⟩
  have hg1 : GoodS (gInt l false).2.1 (gInt l false).2.2 := gNum_good hg
  have hn1 : (gInt l false).2.1.length ≤ l.length := gNum_len l false
  have hg2 := gTake_good hg1 1
  have hn2 := gTake_len (gInt l false).2.1 (gInt l false).2.2 1
  have hby := gTake_bytes hg1 1
  unfold tight_open.f openL
  rw [if_pos ⟨by omega, h1, h2⟩, int_g hg, Option.bind_some, take_g hg1, Option.bind_some]
  simp only
  generalize gTake (gInt l false).2.1 (gInt l false).2.2 1 = t at *
  obtain ⟨t1, l2, b2⟩ := t
  simp only at *
  cases b2 with
  | true => rw [if_pos rfl, if_pos rfl]
  | false =>
    simp only [Bool.false_eq_true, if_false]
    by_cases h64 : rd t1 0 > 64
    · rw [if_pos h64, if_pos h64]
    · have h0 : 0 ≤ rd t1 0 := by
        cases t1 with
        | nil => exact Int.le_refl _
        | cons a r => exact (hby a List.mem_cons_self).1
      rw [if_neg h64, if_neg h64, if_pos h0]
      have e1 : vint_Source_Left.f l2 false = some ((l2.length : Int), l2, false) := rfl
      rw [e1, Option.bind_some]
      simp only
      have e2 : vint_Source_Take.f l2 false (l2.length : Int) = some (l2, [], false) := by
        unfold vint_Source_Take.f takeS
        rw [if_pos (by omega), if_neg (by simp), Int.toNat_natCast, List.take_of_length_le (Nat.le_refl _), List.drop_eq_nil_of_le (Nat.le_refl _)]
      rw [e2, Option.bind_some]
      simp only
      rw [if_pos (by omega)]
/-- Get always answers; what it says are numbers: so many, and put again. -/
theorem get_is (b : List Int) (hb : IsBytes b) (hl : b.length ≤ 400) (n : Int) (hn : n ≤ 400) (k : Nat) (hk : 4096 < k) :
    ∃ x t, tight_Get.f k b n = some (x, t) ∧ (t = false → x = []) ∧ (t = true → (x.length : Int) = n ∧ (∀ z ∈ x, I64 z) ∧ tight_Put.f k x = some (putL x) ∧ ((strOfNums (putL x)).toList == (strOfNums b).toList) = true) := by
  unfold tight_Get.f
  by_cases h0 : n ≤ 0 ∨ n > 4096
  · refine ⟨[], _, if_pos h0, fun _ => rfl, fun ht => ?_⟩
    simp only [Bool.and_eq_true, decide_eq_true_eq, beq_iff_eq] at ht
    obtain ⟨rfl, hz⟩ := ht
    obtain rfl : b = [] := List.eq_nil_of_length_eq_zero hz
    exact ⟨rfl, by simp, rfl, by simp [putL]⟩
  · rw [if_neg h0, open_is b hb (by omega) n.toNat (by omega) (by omega), Option.bind_some]
    cases ho : openL b n.toNat with
    | none => exact ⟨[], false, rfl, fun _ => rfl, nofun⟩
    | some q =>
      obtain ⟨lo, y, u, t⟩ := q
      simp only
      cases t with
      | false => exact ⟨[], false, by rw [if_pos rfl], fun _ => rfl, nofun⟩
      | true =>
        rw [if_neg (by decide)]
        have hq : 0 ≤ y ∧ y ≤ 64 ∧ n.toNat * y.toNat ≤ 8 * u.length ∧ u.length < 1000000000 := by
          have hg : GoodS b false := GoodS.of ⟨hb, by omega⟩
          have hg1 : GoodS (gInt b false).2.1 (gInt b false).2.2 := gNum_good hg
          have hn1 : (gInt b false).2.1.length ≤ b.length := gNum_len b false
          have hn2 := gTake_len (gInt b false).2.1 (gInt b false).2.2 1
          have hby := gTake_bytes hg1 1
          unfold openL at ho
          simp only at ho
          generalize gTake (gInt b false).2.1 (gInt b false).2.2 1 = t at *
          obtain ⟨t1, l2, b2⟩ := t
          simp only at *
          split at ho
          · cases ho
          split at ho
          · cases ho
          rename_i h64
          simp only [Option.some.injEq, Prod.mk.injEq] at ho
          obtain ⟨_, rfl, rfl, hf⟩ := ho
          refine ⟨?_, by omega, fits_mul hf, by omega⟩
          cases t1 with
          | nil => exact Int.le_refl _
          | cons a r => exact (hby a List.mem_cons_self).1
        rw [if_pos hq, put_is _ (by rw [getGo_len]; omega) (getGo_i64 _ _ _ _ _) k hk, Option.bind_some]
        unfold bytes_Equal.f
        rw [Option.bind_some]
        by_cases he : ((strOfNums (putL (getGo lo y.toNat u n.toNat 0))).toList == (strOfNums b).toList) = true
        · rw [if_pos he]
          exact ⟨_, _, rfl, nofun, fun _ => ⟨by rw [getGo_len]; omega, getGo_i64 _ _ _ _ _, put_is _ (by rw [getGo_len]; omega) (getGo_i64 _ _ _ _ _) k hk, he⟩⟩
        · rw [if_neg he]
          exact ⟨_, _, rfl, fun _ => rfl, nofun⟩
end Go.Proofs.Ytbbffnlefmogbaa.Tight
/- A text's bytes, plain law: the code's and the document's are the same. -/
namespace Go.Proofs.Ytbbffnlefmogbaa.EncText
open Go Go.RowKit Go.Proofs.Ytbbffnlefmogbaa.X Go.Proofs.Ytbbffnlefmogbaa.Dec Go.Proofs.Ytbbffnlefmogbaa.Enc Go.Proofs.YtbbffnlefmogbaaW.PrintWords Go.Proofs.YtbbffnlefmogbaaW.PrintLast Go.Proofs.YtbbffnlefmogbaaW.PrintMore
set_option linter.unusedVariables false
/-- A text's bytes, behind how many there are. -/
def encT (s : ByteArray) : List Int := enc s.size ++ bytesOf s
theorem bytesOf_bytes (s : ByteArray) : IsBytes (bytesOf s) := by
  intro x hx
  obtain ⟨y, _, rfl⟩ := List.mem_map.1 hx
  have := y.toNat_lt
  omega
theorem encT_bytes (s : ByteArray) : IsBytes (encT s) := by
  intro x hx
  rcases List.mem_append.1 hx with h | h
  · exact enc_bytes _ x h
  · exact bytesOf_bytes _ x h
theorem enc_len (n : Nat) (h : n < 18446744073709551616) : (enc n).length ≤ 10 := by
  unfold enc; rw [encL_length]; exact grp_le h
theorem encT_len (s : ByteArray) (h : s.size < 1000000000000) : (encT s).length ≤ s.size + 10 := by
  unfold encT; rw [List.length_append, bytesOf_length]; have := enc_len s.size (by omega); omega
theorem text_is (s : ByteArray) (h : s.size < 1000000000000) (k : Nat) (hk : 11 < k) : vint_Text.f k s = some (encT s) := by
  have hl := encT_len s h
  unfold vint_Text.f
  rw [num_is s.size (by omega) k (by omega), Option.bind_some, if_pos (by omega)]
  unfold vint_joined.f bytes_Join.f
  unfold encT at hl
  rw [if_pos ⟨rfl, by simp, by simpa using by rw [List.length_append] at hl; omega⟩]
  simp [encT]
theorem wrap_size (s : ByteArray) (h : s.size < 1000000000000) : IntKind.u64.wrap (s.size : Int) = (s.size : Int) := by rw [IntKind.wrap_u64]; omega
theorem rtext_is (s : ByteArray) (h : s.size < 1000000000000) (k : Nat) (hk : 11 < k) : firkinref01_Text.f k s = some (encT s) := by
  have hl := encT_len s h
  unfold encT at hl
  rw [List.length_append, bytesOf_length] at hl
  unfold firkinref01_Text.f
  rw [wrap_size s h, rnum_is s.size (by omega) k hk, Option.bind_some, if_pos (by omega)]
  rfl
theorem same_self (l : List Int) : firkinref01_Same.f l l = some true := by unfold firkinref01_Same.f; simp
end Go.Proofs.Ytbbffnlefmogbaa.EncText
/- Texts that are read, plain law. -/
namespace Go.Proofs.Ytbbffnlefmogbaa.Read
open Go Go.RowKit Go.Proofs.Ytbbffnlefmogbaa.X Go.Proofs.Ytbbffnlefmogbaa.Dec Go.Proofs.Ytbbffnlefmogbaa.Enc Go.Proofs.Ytbbffnlefmogbaa.Round Go.Proofs.YtbbffnlefmogbaaW.PrintWords Go.Proofs.YtbbffnlefmogbaaW.PrintLast Go.Proofs.YtbbffnlefmogbaaW.PrintMore
set_option linter.unusedVariables false
def gText (l : List Int) (bad : Bool) (most : Int) : ByteArray × List Int × Bool :=
  if (gNum l bad).2.2 = true ∨ most < 0 ∨ most < (gNum l bad).1 ∨ ((gNum l bad).2.1.length : Int) < (gNum l bad).1 then (⟨#[]⟩, [], true)
  else (strOfNums ((gNum l bad).2.1.take (gNum l bad).1.toNat), (gNum l bad).2.1.drop (gNum l bad).1.toNat, false)
theorem gText_good {l : List Int} {b : Bool} (h : GoodS l b) (n : Int) : GoodS (gText l b n).2.1 (gText l b n).2.2 := by
  unfold gText; split
  · exact GoodS.nil _
  · exact GoodS.of ((gNum_good h).1.drop _)
theorem gText_len (l : List Int) (b : Bool) (n : Int) : (gText l b n).2.1.length ≤ l.length := by
  have := gNum_len l b
  unfold gText; split
  · simp
  · simp; omega
theorem len_u64 {l : List Int} (h : Fit l) : IntKind.u64.wrap ((l.length : Int)) = (l.length : Int) := wrap_u64_of (by omega) (by have := h.2; omega)
theorem text_g {l : List Int} {b : Bool} (h : GoodS l b) (n : Int) (hn : n < 9223372036854775808) (k : Nat) : vint_Source_Text.f (k + 1) l b n = some (gText l b n) := by
  unfold vint_Source_Text.f vint_Source_Ok.f
  rw [num_g h, Option.bind_some]
  obtain ⟨h0, h1⟩ := gNum_range h
  have hg := gNum_good h
  unfold gText
  generalize gNum l b = g at h0 h1 hg ⊢
  obtain ⟨x, l', b'⟩ := g
  simp only [Option.bind_some] at h0 h1 hg ⊢
  have hj : ∀ y, vint_Source_Text.j0 (k + 1) x true y b' = some (⟨#[]⟩, [], true) := fun y => by rw [vint_Source_Text.j0, if_pos rfl]; rfl
  rw [hj]
  cases b' with
  | true => simp
  | false =>
    have hlen := hg.1.2
    by_cases hn0 : n < 0
    · simp [hn0]
    · rw [wrap_u64_of (by omega) (by omega), len_u64 hg.1]
      by_cases hx : x > n
      · have : n < x := hx
        simp [hn0, this]
      · have hx2 : ¬ n < x := hx
        by_cases hz : x > (l'.length : Int)
        · have hz2 : ((l'.length : Int) < x) := hz
          simp [hn0, hx2, hz2, hj]
        · have hz2 : ¬ ((l'.length : Int) < x) := hz
          have hw : wrap64 x = x := w64 (by omega) (by omega)
          rw [if_pos (by rfl), if_neg hn0, if_neg hx, decide_eq_false hz, vint_Source_Text.j0, if_neg (by decide), hw, take_g hg]
          unfold gTake
          have hx0 : ¬ x < 0 := by omega
          simp [hn0, hx2, hz2, hx0]
theorem rtext_g {l : List Int} {b : Bool} (h : GoodS l b) (n : Int) (hn : n < 9223372036854775808) (k : Nat) : firkinref01_S_Text.f (k + 1) l b n = some (gText l b n) := by
  unfold firkinref01_S_Text.f firkinref01_S_Fail.f
  obtain ⟨h0, h1⟩ := gNum_range h
  have hg := gNum_good h
  unfold gText
  rw [rnum_g h]
  generalize gNum l b = g at h0 h1 hg ⊢
  obtain ⟨x, l', b'⟩ := g
  simp only [Option.bind_some] at h0 h1 hg ⊢
  have hj : ∀ y, firkinref01_S_Text.j0 (k + 1) x true y b' = some (⟨#[]⟩, [], true) := fun y => by rw [firkinref01_S_Text.j0, if_pos rfl]; rfl
  rw [hj]
  by_cases hn0 : n < 0
  · simp [hn0]
  rw [if_neg hn0]
  cases b' with
  | true => simp
  | false =>
    have hlen := hg.1.2
    rw [wrap_u64_of (by omega) (by omega), len_u64 hg.1]
    by_cases hx : x > n
    · have : n < x := hx
      simp [hn0, this]
    · have hx2 : ¬ n < x := hx
      by_cases hz : x > (l'.length : Int)
      · have hz2 : ((l'.length : Int) < x) := hz
        simp [hn0, hx2, hz2, hj]
      · have hz2 : ¬ ((l'.length : Int) < x) := hz
        have hw : wrap64 x = x := w64 (by omega) (by omega)
        rw [if_neg (by decide), if_neg hx, decide_eq_false hz, firkinref01_S_Text.j0, if_neg (by decide), hw, rtake_g hg]
        unfold gTake
        have hx0 : ¬ x < 0 := by omega
        simp [hn0, hx2, hz2, hx0]
end Go.Proofs.Ytbbffnlefmogbaa.Read
/- What was written is read again: numbers. -/
namespace Go.Proofs.Ytbbffnlefmogbaa.Read
open Go Go.RowKit Go.Proofs.Ytbbffnlefmogbaa.X Go.Proofs.Ytbbffnlefmogbaa.Dec Go.Proofs.Ytbbffnlefmogbaa.Enc Go.Proofs.Ytbbffnlefmogbaa.Round Go.Proofs.YtbbffnlefmogbaaW.PrintWords Go.Proofs.YtbbffnlefmogbaaW.PrintLast Go.Proofs.YtbbffnlefmogbaaW.PrintMore
set_option linter.unusedVariables false
theorem gNum_enc {n : Nat} (h : n < 18446744073709551616) (rest : List Int) : gNum (enc n ++ rest) false = ((n : Int), rest, false) := by
  have h1 := num_enc h rest
  unfold numS at h1
  rw [if_neg (by decide)] at h1
  unfold gNum
  by_cases hz : szS 0 (enc n ++ rest) = 0
  · rw [if_pos hz] at h1; simp at h1
  · rw [if_neg hz] at h1
    rw [if_neg (by simp [hz])]
    exact h1
theorem gBelow_enc {n : Nat} {m : Int} (h : (n : Int) < m) (hm : m < 9223372036854775808) (rest : List Int) : gBelow (enc n ++ rest) false m = ((n : Int), rest, false) := by
  unfold gBelow
  rw [gNum_enc (by omega)]
  rw [if_neg]
  simp only [not_or]
  exact ⟨by decide, by omega, by omega⟩
end Go.Proofs.Ytbbffnlefmogbaa.Read
/- What was written is read again, plain law: texts. -/
namespace Go.Proofs.Ytbbffnlefmogbaa.Read
open Go Go.RowKit Go.Proofs.Ytbbffnlefmogbaa.X Go.Proofs.Ytbbffnlefmogbaa.Dec Go.Proofs.Ytbbffnlefmogbaa.Enc Go.Proofs.Ytbbffnlefmogbaa.Round Go.Proofs.Ytbbffnlefmogbaa.EncText Go.Proofs.YtbbffnlefmogbaaW.PrintWords Go.Proofs.YtbbffnlefmogbaaW.PrintLast Go.Proofs.YtbbffnlefmogbaaW.PrintMore
set_option linter.unusedVariables false
theorem strOfNums_bytesOf (s : ByteArray) : strOfNums (bytesOf s) = s := by
  unfold strOfNums bytesOf
  rw [List.map_map]
  have : ((fun n : Int => UInt8.ofNat n.toNat) ∘ fun b : UInt8 => (b.toNat : Int)) = id := by funext b; simp
  rw [this, List.map_id]
theorem gText_enc {s : ByteArray} {m : Int} (h : (s.size : Int) ≤ m) (hm : m < 9223372036854775808) (rest : List Int) : gText (encT s ++ rest) false m = (s, rest, false) := by
  unfold gText encT
  rw [List.append_assoc, gNum_enc (by omega)]
  have hl : ((bytesOf s ++ rest).length : Int) = s.size + rest.length := by rw [List.length_append, bytesOf_length]; omega
  rw [if_neg]
  · have e1 : ((s.size : Nat) : Int).toNat = (bytesOf s).length := by rw [bytesOf_length]; rfl
    simp only [e1, List.take_left, List.drop_left, strOfNums_bytesOf]
  · simp only [not_or]
    exact ⟨by decide, by omega, by omega, by rw [hl]; omega⟩
end Go.Proofs.Ytbbffnlefmogbaa.Read
/- Whether all was read, plain law. -/
namespace Go.Proofs.Ytbbffnlefmogbaa.Read
open Go Go.RowKit Go.Proofs.Ytbbffnlefmogbaa.X Go.Proofs.Ytbbffnlefmogbaa.Dec Go.Proofs.Ytbbffnlefmogbaa.Enc Go.Proofs.Ytbbffnlefmogbaa.Round Go.Proofs.YtbbffnlefmogbaaW.PrintWords Go.Proofs.YtbbffnlefmogbaaW.PrintLast Go.Proofs.YtbbffnlefmogbaaW.PrintMore
set_option linter.unusedVariables false
def gEnd (l : List Int) (b : Bool) : Bool := !b && l.isEmpty
theorem isEmpty_len (l : List Int) : (((l.length : Int) == 0) : Bool) = l.isEmpty := by cases l <;> simp; omega
theorem end_g (l : List Int) (b : Bool) : vint_Source_End.f l b = some (gEnd l b, l, b) := by
  unfold vint_Source_End.f vint_Source_Ok.f gEnd
  cases b <;> simp [isEmpty_len]
theorem rend_g (l : List Int) (b : Bool) : firkinref01_S_End.f l b = some (gEnd l b, l, b) := by
  unfold firkinref01_S_End.f gEnd
  cases b <;> simp [isEmpty_len]
end Go.Proofs.Ytbbffnlefmogbaa.Read
/- How much is left of a source, plain law. -/
namespace Go.Proofs.Ytbbffnlefmogbaa.Read
open Go Go.RowKit Go.Proofs.Ytbbffnlefmogbaa.X Go.Proofs.Ytbbffnlefmogbaa.Dec Go.Proofs.Ytbbffnlefmogbaa.Enc Go.Proofs.Ytbbffnlefmogbaa.Round Go.Proofs.YtbbffnlefmogbaaW.PrintWords Go.Proofs.YtbbffnlefmogbaaW.PrintLast Go.Proofs.YtbbffnlefmogbaaW.PrintMore
set_option linter.unusedVariables false
theorem left_g {l : List Int} {b : Bool} (h : GoodS l b) : vint_Source_Left.f l b = some ((l.length : Int), l, b) := by
  unfold vint_Source_Left.f vint_Source_Ok.f
  cases b with
  | true => rw [h.2 rfl]; rfl
  | false => rfl
end Go.Proofs.Ytbbffnlefmogbaa.Read
/- dict, plain law: texts one behind the other, how they are read, and the bytes of texts by a dictionary. -/
namespace Go.Proofs.Ytbbffnlefmogbaa.DictP
open Go Go.RowKit Go.Proofs.Ytbbffnlefmogbaa.X Go.Proofs.Ytbbffnlefmogbaa.Dec Go.Proofs.Ytbbffnlefmogbaa.Enc Go.Proofs.Ytbbffnlefmogbaa.Round Go.Proofs.Ytbbffnlefmogbaa.Read Go.Proofs.Ytbbffnlefmogbaa.EncText Go.Proofs.Ytbbffnlefmogbaa.Tight Go.Proofs.YtbbffnlefmogbaaW.PrintWords Go.Proofs.YtbbffnlefmogbaaW.PrintLast Go.Proofs.YtbbffnlefmogbaaW.PrintMore
set_option linter.unusedVariables false
set_option linter.unusedSimpArgs false
def plainL (l : List ByteArray) : List Int := (l.map encT).flatten
def Sm (l : List ByteArray) : Prop := ∀ s ∈ l, s.size ≤ 1000000
theorem rd_at (l : List ByteArray) (i : Nat) (hi : i < l.length) : rdOf ByteArray.empty l (i : Int) = l[i] := by unfold rdOf; simp [hi]
theorem plainL_cons (l : List ByteArray) (i : Nat) (hi : i < l.length) : plainL (l.drop i) = encT l[i] ++ plainL (l.drop (i + 1)) := by
  unfold plainL
  rw [List.drop_eq_getElem_cons hi, List.map_cons, List.flatten_cons]
theorem wr1 (a : Nat) (h : a < 1000000000) : wrap64 ((a : Int) + 1) = ((a + 1 : Nat) : Int) := by unfold wrap64; omega
theorem plain_loop (l : List ByteArray) (hl : l.length ≤ 4096) (hs : Sm l) : ∀ (d i k : Nat) (acc : List Int), i + d = l.length → d + 13 < k → acc.length ≤ 1000010 * i → dict_Plain.l0 k acc l (l.length : Int) (i : Int) = some (acc ++ plainL (l.drop i))
  | 0, i, k, acc, h, hk, ha => by
    obtain ⟨k, rfl⟩ : ∃ q, k = q + 1 := ⟨k - 1, by omega⟩
    rw [dict_Plain.l0, if_neg (by omega), show i = l.length by omega, List.drop_length]
    simp [plainL]
  | d + 1, i, k, acc, h, hk, ha => by
    obtain ⟨k, rfl⟩ : ∃ q, k = q + 1 := ⟨k - 1, by omega⟩
    have hi : i < l.length := by omega
    have hz := hs l[i] (List.getElem_mem hi)
    have he := encT_len l[i] (by omega)
    rw [dict_Plain.l0, if_pos (by omega), if_pos (by omega), if_pos (by omega), rd_at l i hi, text_is _ (by omega) k (by omega), Option.bind_some, if_pos (by omega), wr1 i (by omega), plain_loop l hl hs d (i + 1) k _ (by omega) (by omega) (by rw [List.length_append]; omega), plainL_cons l i hi, List.append_assoc]
theorem plain_is (l : List ByteArray) (hl : l.length ≤ 4096) (hs : Sm l) (k : Nat) (hk : 4200 ≤ k) : dict_Plain.f k l = some (plainL l) := by
  unfold dict_Plain.f
  have h := plain_loop l hl hs l.length 0 k [] (by omega) (by omega) (by simp)
  simpa using h
theorem rplain_loop (l : List ByteArray) (hl : l.length ≤ 4096) (hs : Sm l) : ∀ (d i k : Nat) (acc : List Int), i + d = l.length → d + 13 < k → acc.length ≤ 1000010 * i → firkinref08_Plain.l0 k l acc (i : Int) = some (acc ++ plainL (l.drop i))
  | 0, i, k, acc, h, hk, ha => by
    obtain ⟨k, rfl⟩ : ∃ q, k = q + 1 := ⟨k - 1, by omega⟩
    rw [firkinref08_Plain.l0, if_neg (by omega), show i = l.length by omega, List.drop_length]
    simp [plainL]
  | d + 1, i, k, acc, h, hk, ha => by
    obtain ⟨k, rfl⟩ : ∃ q, k = q + 1 := ⟨k - 1, by omega⟩
    have hi : i < l.length := by omega
    have hz := hs l[i] (List.getElem_mem hi)
    have he := encT_len l[i] (by omega)
    rw [firkinref08_Plain.l0, if_pos (by omega), if_pos (by omega), rd_at l i hi, rtext_is _ (by omega) k (by omega), Option.bind_some, if_pos (by omega), wr1 i (by omega), rplain_loop l hl hs d (i + 1) k _ (by omega) (by omega) (by rw [List.length_append]; omega), plainL_cons l i hi, List.append_assoc]
theorem rplain_is (l : List ByteArray) (hl : l.length ≤ 4096) (hs : Sm l) (k : Nat) (hk : 4200 ≤ k) : firkinref08_Plain.f k l = some (plainL l) := by
  unfold firkinref08_Plain.f
  have h := rplain_loop l hl hs l.length 0 k [] (by omega) (by omega) (by simp)
  simpa using h
theorem plainL_len : ∀ (l : List ByteArray), Sm l → (plainL l).length ≤ 1000010 * l.length
  | [], _ => by simp [plainL]
  | s :: l, h => by
    have h1 := plainL_len l (fun x hx => h x (List.mem_cons_of_mem _ hx))
    have h2 := encT_len s (by have := h s List.mem_cons_self; omega)
    have h3 := h s List.mem_cons_self
    unfold plainL at h1 ⊢
    rw [List.map_cons, List.flatten_cons, List.length_append, List.length_cons]
    omega
theorem grp_one (n : Nat) : 1 ≤ grp n := by unfold grp; omega
theorem encT_pos (s : ByteArray) : 1 ≤ (encT s).length := by
  unfold encT
  rw [List.length_append, show (enc s.size).length = grp s.size from encL_length _ _]
  have := grp_one s.size
  omega
theorem plainL_ge : ∀ (l : List ByteArray), l.length ≤ (plainL l).length
  | [] => by simp [plainL]
  | s :: l => by
    have h1 := plainL_ge l
    have h2 := encT_pos s
    unfold plainL at h1 ⊢
    rw [List.map_cons, List.flatten_cons, List.length_append, List.length_cons]
    omega
/-- So many texts, up to one that fails. -/
def gTexts (most : Int) : Nat → List ByteArray → List Int → Bool → List ByteArray × List Int × Bool
  | 0, out, l, b => (out, l, b)
  | n + 1, out, l, b => if b = true then (out, l, b) else gTexts most n (out ++ [(gText l b most).1]) (gText l b most).2.1 (gText l b most).2.2
theorem gTexts_bad (most : Int) : ∀ n out l, gTexts most n out l true = (out, l, true)
  | 0, out, l => rfl
  | n + 1, out, l => by rw [gTexts, if_pos rfl]
theorem gTexts_good (most : Int) : ∀ n out l b, GoodS l b → GoodS (gTexts most n out l b).2.1 (gTexts most n out l b).2.2
  | 0, out, l, b, h => h
  | n + 1, out, l, b, h => by
    rw [gTexts]
    split
    · exact h
    · exact gTexts_good most n _ _ _ (gText_good h most)
theorem gTexts_len (most : Int) : ∀ n out l b, (gTexts most n out l b).2.1.length ≤ l.length
  | 0, out, l, b => Nat.le_refl _
  | n + 1, out, l, b => by
    rw [gTexts]
    split
    · exact Nat.le_refl _
    · exact Nat.le_trans (gTexts_len most n _ _ _) (gText_len l b most)
theorem gTexts_out (most : Int) : ∀ n out l b, (gTexts most n out l b).1.length ≤ out.length + n ∧ ((gTexts most n out l b).2.2 = false → (gTexts most n out l b).1.length = out.length + n)
  | 0, out, l, b => ⟨Nat.le_refl _, fun _ => rfl⟩
  | n + 1, out, l, b => by
    rw [gTexts]
    split
    · rename_i hb
      subst hb
      exact ⟨by show out.length ≤ _; omega, fun h => by cases h⟩
    · have h := gTexts_out most n (out ++ [(gText l b most).1]) (gText l b most).2.1 (gText l b most).2.2
      rw [List.length_append, List.length_singleton] at h
      exact ⟨by omega, fun h9 => by have := h.2 h9; omega⟩
theorem gNum_own {l : List Int} (hb : IsBytes l) (h : (gNum l false).2.2 = false) : enc (gNum l false).1.toNat ++ (gNum l false).2.1 = l := by
  unfold gNum at h ⊢
  split at h
  · cases h
  · rename_i h1
    rw [if_neg h1]
    have h2 : szS 0 l ≠ 0 := fun e => h1 (Or.inr e)
    show enc ((valS 0 (l.take (szS 0 l)) : Nat) : Int).toNat ++ l.drop (szS 0 l) = l
    rw [Int.toNat_natCast, enc_num hb h2, List.take_append_drop]
theorem bytesOf_str (l : List Int) (hb : IsBytes l) : bytesOf (strOfNums l) = l := by
  unfold strOfNums bytesOf
  rw [show (⟨(l.map fun n : Int => UInt8.ofNat n.toNat).toArray⟩ : ByteArray).data.toList = l.map fun n : Int => UInt8.ofNat n.toNat by simp, List.map_map]
  conv => rhs; rw [← List.map_id l]
  refine List.map_congr_left fun x hx => ?_
  have := hb x hx
  simp only [Function.comp, id]
  rw [UInt8.toNat_ofNat']
  omega
theorem gText_own {l : List Int} (hf : Fit l) (most : Int) (h : (gText l false most).2.2 = false) : encT (gText l false most).1 ++ (gText l false most).2.1 = l ∧ ((gText l false most).1.size : Int) ≤ most ∧ (gText l false most).1.size ≤ l.length := by
  unfold gText at h ⊢
  split at h
  · cases h
  · rename_i h1
    rw [if_neg h1]
    simp only [not_or] at h1
    have hn : (gNum l false).2.2 = false := by cases e : (gNum l false).2.2 with | false => rfl | true => exact absurd e h1.1
    have ho := gNum_own hf.1 hn
    have hg := gNum_good (GoodS.of hf)
    have hr := gNum_range (GoodS.of hf)
    have hle := gNum_len l false
    generalize gNum l false = g at ho hn h1 hg hr hle ⊢
    obtain ⟨x, r, b⟩ := g
    simp only at ho hn h1 hg hr hle ⊢
    obtain ⟨n, rfl⟩ : ∃ n : Nat, x = (n : Int) := ⟨x.toNat, by omega⟩
    rw [Int.toNat_natCast] at ho ⊢
    have hlen : (r.take n).length = n := by rw [List.length_take]; omega
    have hsz : (strOfNums (r.take n)).size = n := by
      have h5 := bytesOf_str (r.take n) (hg.1.1.take n)
      have h6 := congrArg List.length h5
      rw [bytesOf_length, hlen] at h6
      exact h6
    refine ⟨?_, by rw [hsz]; omega, by rw [hsz]; omega⟩
    unfold encT
    rw [hsz, bytesOf_str _ (hg.1.1.take n), List.append_assoc, List.take_append_drop]
    exact ho
theorem gTexts_own (most : Int) : ∀ n out l, Fit l → (gTexts most n out l false).2.2 = false → plainL (gTexts most n out l false).1 ++ (gTexts most n out l false).2.1 = plainL out ++ l
  | 0, out, l, _, _ => rfl
  | n + 1, out, l, hf, h => by
    rw [gTexts, if_neg (by decide)] at h ⊢
    cases hb : (gText l false most).2.2 with
    | true => rw [hb, gTexts_bad] at h; cases h
    | false =>
      have ho := gText_own hf most hb
      have hg := (gText_good (GoodS.of hf) most).1
      rw [hb] at h
      rw [gTexts_own most n _ _ hg h]
      unfold plainL
      rw [List.map_append, List.flatten_append, List.map_cons, List.map_nil, List.flatten_cons, List.flatten_nil, List.append_nil, List.append_assoc, ho.1]
theorem gText_size (l : List Int) (b : Bool) (hl : GoodS l b) (most : Int) : (gText l b most).1.size ≤ l.length := by
  cases b with
  | true =>
    have : gText l true most = (⟨#[]⟩, [], true) := by unfold gText gNum; rw [if_pos (Or.inl (by rw [if_pos (Or.inl rfl)]))]
    rw [this]; exact Nat.zero_le _
  | false =>
    cases h : (gText l false most).2.2 with
    | false => exact (gText_own hl.1 most h).2.2
    | true =>
      unfold gText at h ⊢
      split at h
      · rename_i h1; rw [if_pos h1]; exact Nat.zero_le _
      · cases h
theorem gTexts_size (most : Int) (M : Nat) : ∀ n out l b, GoodS l b → l.length ≤ M → (∀ s ∈ out, s.size ≤ M) → ∀ s ∈ (gTexts most n out l b).1, s.size ≤ M
  | 0, out, l, b, _, _, h => h
  | n + 1, out, l, b, hg, hl, h => by
    rw [gTexts]
    split
    · exact h
    · refine gTexts_size most M n _ _ _ (gText_good hg most) (Nat.le_trans (gText_len l b most) hl) ?_
      intro s hs
      rcases List.mem_append.1 hs with h1 | h1
      · exact h s h1
      · rw [List.mem_singleton.1 h1]
        exact Nat.le_trans (gText_size l b hg most) hl
theorem gTexts_enc (m : Int) (hm : m < 9223372036854775808) (rest : List Int) : ∀ (l out : List ByteArray), (∀ s ∈ l, (s.size : Int) ≤ m) → gTexts m l.length out (plainL l ++ rest) false = (out ++ l, rest, false)
  | [], out, _ => by simp [gTexts, plainL]
  | s :: l, out, h => by
    have e : plainL (s :: l) ++ rest = encT s ++ (plainL l ++ rest) := by unfold plainL; rw [List.map_cons, List.flatten_cons, List.append_assoc]
    rw [List.length_cons, gTexts, if_neg (by decide), e, gText_enc (h s List.mem_cons_self) hm]
    simp only
    rw [gTexts_enc m hm rest l _ (fun x hx => h x (List.mem_cons_of_mem _ hx))]
    simp
theorem read_loop (most : Int) (hm : most < 9223372036854775808) (n : Nat) (hn : n ≤ 1000000) : ∀ (d k : Nat) (out : List ByteArray) (l : List Int) (b : Bool), GoodS l b → out.length + d = n → d + 2 ≤ k → dict_read.l0 k (n : Int) most out l b = some (gTexts most d out l b)
  | 0, k, out, l, b, hg, h, hk => by
    obtain ⟨k, rfl⟩ : ∃ q, k = q + 1 := ⟨k - 1, by omega⟩
    rw [dict_read.l0, if_neg (by omega)]; rfl
  | d + 1, k, out, l, b, hg, h, hk => by
    obtain ⟨k, rfl⟩ : ∃ q, k = q + 2 := ⟨k - 2, by omega⟩
    rw [dict_read.l0, if_pos (by omega), show vint_Source_Ok.f l b = some (!b, l, b) from rfl, Option.bind_some]
    cases b with
    | true => rw [if_neg (show ¬ (!true) = true by decide), gTexts_bad]
    | false =>
      rw [if_pos (show (!false) = true from rfl)]
      simp only
      rw [text_g hg most hm k, Option.bind_some, if_pos (by omega), read_loop most hm n hn d (k + 1) _ _ _ (gText_good hg most) (by rw [List.length_append, List.length_singleton]; omega) (by omega), gTexts, if_neg (by decide)]
theorem read_is (most : Int) (hm : most < 9223372036854775808) (n : Nat) (hn : n ≤ 1000000) (l : List Int) (b : Bool) (hg : GoodS l b) (k : Nat) (hk : n + 2 ≤ k) : dict_read.f k l b (n : Int) most = some (gTexts most n [] l b) := by
  unfold dict_read.f
  have hl := hg.1.2
  rw [left_g hg, Option.bind_some]
  simp only
  have h1 : 0 ≤ mn (n : Int) (l.length : Int) ∧ (mn (n : Int) (l.length : Int)).toNat ≤ 17592186044416 := by unfold mn; split <;> omega
  rw [if_pos h1.1, if_pos h1.2]
  exact read_loop most hm n hn n k [] l b hg (by simp) hk
theorem names_loop (l : List ByteArray) (hl : l.length ≤ 4096) : ∀ (d i k : Nat), i + d = l.length → d < k → firkinref01_Names.l0 k l l (i : Int) = some true
  | 0, i, k, h, hk => by
    obtain ⟨k, rfl⟩ : ∃ q, k = q + 1 := ⟨k - 1, by omega⟩
    rw [firkinref01_Names.l0, if_neg (by omega)]
  | d + 1, i, k, h, hk => by
    obtain ⟨k, rfl⟩ : ∃ q, k = q + 1 := ⟨k - 1, by omega⟩
    rw [firkinref01_Names.l0, if_pos (by omega), if_pos (by omega), if_pos (by omega), if_pos rfl, wr1 i (by omega)]
    exact names_loop l hl d (i + 1) k (by omega) (by omega)
theorem names_is (l : List ByteArray) (hl : l.length ≤ 4096) (k : Nat) (hk : 4096 < k) : firkinref01_Names.f k l l = some true := by
  unfold firkinref01_Names.f
  rw [if_pos rfl]
  exact names_loop l hl l.length 0 k (by omega) (by omega)
/-- Where each text stands among the words. -/
def atL (l : List ByteArray) : List Int := l.map fun s => (dpIx (dpL l) s : Int)
def dputL (l : List ByteArray) : List Int := enc (dpL l).length ++ (plainL (dpL l) ++ putL (atL l))
theorem Sm.dpL {l : List ByteArray} (h : Sm l) : Sm (dpL l) := fun s hs => h s ((dpL_mem l s).1 hs)
theorem findIdx_le' (l : List ByteArray) (s : ByteArray) : dpIx l s ≤ l.length := List.findIdx_le_length
theorem atL_i64 {l : List ByteArray} (hl : l.length ≤ 4096) : ∀ x ∈ atL l, I64 x := by
  intro x hx
  obtain ⟨s, hs, rfl⟩ := List.mem_map.1 hx
  have h1 := dpL_len l
  have h2 := findIdx_le' (dpL l) s
  unfold I64; omega
theorem putL_len (l : List Int) (hl : l.length ≤ 4096) (hz : ∀ x ∈ l, I64 x) : (putL l).length ≤ 40000 := by
  unfold putL
  split
  · simp
  · rename_i h0
    have hr := low_high l h0 hz
    have hw := wide_le l
    have he := enc_le (zig (lowOf l)) (zig_lt hr.1.1 hr.1.2)
    have hp := putGo_len (lowOf l) (wideOf l) l [] 0 (by simp)
    have hm : l.length * wideOf l ≤ 4096 * 64 := Nat.mul_le_mul hl hw
    rw [List.length_append, List.length_cons, hp]
    omega
theorem dput_is (l : List ByteArray) (hl : l.length ≤ 4096) (hs : Sm l) (k : Nat) (hk : 5000 ≤ k) : dict_Put.f k l = some (dputL l) := by
  unfold dict_Put.f
  have h1 := dpL_len l
  rw [if_pos ⟨by omega, List.all_eq_true.mpr fun s h => decide_eq_true (hs s h)⟩, num_is _ (by omega) k (by omega), Option.bind_some, plain_is _ (by omega) hs.dpL k (by omega), Option.bind_some]
  have hz := atL_i64 hl
  have hlen : (atL l).length = l.length := List.length_map ..
  rw [show (l.map fun s => (dpIx (dpL l) s : Int)) = atL l from rfl, put_is _ (by omega) hz k (by omega), Option.bind_some]
  unfold slices_Concat_byte.f
  have e : [enc (dpL l).length, plainL (dpL l), putL (atL l)].flatten = dputL l := by simp [dputL]
  rw [e, if_pos]
  unfold dputL
  have h2 := enc_le (dpL l).length (by omega)
  have h3 := plainL_len (dpL l) hs.dpL
  have h4 := putL_len (atL l) (by omega) hz
  rw [List.length_append, List.length_append]
  omega
theorem live_words : dpL [⟨#[98]⟩, ⟨#[97]⟩, ⟨#[98]⟩] = [⟨#[97]⟩, ⟨#[98]⟩] := by
  rw [← words_same]
  decide +kernel
end Go.Proofs.Ytbbffnlefmogbaa.DictP
/- dict.Texts, plain law: which texts whatever bytes are; the document says the same. -/
namespace Go.Proofs.Ytbbffnlefmogbaa.DictP
open Go Go.RowKit Go.Proofs.Ytbbffnlefmogbaa.X Go.Proofs.Ytbbffnlefmogbaa.Dec Go.Proofs.Ytbbffnlefmogbaa.Enc Go.Proofs.Ytbbffnlefmogbaa.Round Go.Proofs.Ytbbffnlefmogbaa.Read Go.Proofs.Ytbbffnlefmogbaa.EncText Go.Proofs.Ytbbffnlefmogbaa.Tight Go.Proofs.YtbbffnlefmogbaaW.PrintWords Go.Proofs.YtbbffnlefmogbaaW.PrintLast Go.Proofs.YtbbffnlefmogbaaW.PrintMore
set_option linter.unusedVariables false
set_option linter.unusedSimpArgs false
/-- What Texts answers. -/
def textsA (g : List ByteArray × List Int × Bool) : List ByteArray × Bool := if gEnd g.2.1 g.2.2 = true then (g.1, true) else ([], false)
theorem texts_is (b : List Int) (hf : Fit b) (n : Nat) (hn : n ≤ 4096) (most : Int) (hm : most < 9223372036854775808) (k : Nat) (hk : 5000 ≤ k) : dict_Texts.f k b (n : Int) most = some (textsA (gTexts most n [] b false)) := by
  obtain ⟨k, rfl⟩ : ∃ q, k = q + 1 := ⟨k - 1, by omega⟩
  unfold dict_Texts.f
  rw [if_neg (by omega), decide_eq_false (by omega), dict_Texts.j0, if_neg (by decide), show vint_From.f b = some (b, false) from rfl, Option.bind_some]
  simp only
  rw [read_is most hm n (by omega) b false (GoodS.of hf) k (by omega), Option.bind_some, end_g, Option.bind_some]
  unfold textsA
  split <;> rfl
theorem texts_neg (b : List Int) (n most : Int) (h : n < 0) (k : Nat) (hk : 1 ≤ k) : dict_Texts.f k b n most = some ([], false) := by
  obtain ⟨k, rfl⟩ : ∃ q, k = q + 1 := ⟨k - 1, by omega⟩
  unfold dict_Texts.f
  rw [if_pos h, dict_Texts.j0, if_pos rfl]
def rfin (n : Int) (g : List ByteArray × List Int × Bool) : Option (List ByteArray × Bool) := if gEnd g.2.1 g.2.2 = true then (if n = (g.1.length : Int) then (some (g.1, true)) else (some (([] : List ByteArray), false))) else (some (([] : List ByteArray), false))
theorem rtexts_loop (most : Int) (hm : most < 9223372036854775808) (n : Nat) (hn : n ≤ 400) : ∀ (d k : Nat) (out : List ByteArray) (l : List Int) (b : Bool), GoodS l b → out.length + d = n → d + 2 ≤ k → firkinref08_Texts.l0 k (n : Int) most out (out.length : Int) l b = rfin n (gTexts most d out l b)
  | 0, k, out, l, b, hg, h, hk => by
    obtain ⟨k, rfl⟩ : ∃ q, k = q + 1 := ⟨k - 1, by omega⟩
    rw [firkinref08_Texts.l0, if_neg (by omega), rend_g, Option.bind_some]; rfl
  | d + 1, k, out, l, b, hg, h, hk => by
    obtain ⟨k, rfl⟩ : ∃ q, k = q + 2 := ⟨k - 2, by omega⟩
    rw [firkinref08_Texts.l0, if_pos (by omega), if_pos (by omega)]
    cases b with
    | true => rw [if_pos rfl, rend_g, Option.bind_some, gTexts_bad]; rfl
    | false =>
      rw [if_neg (by decide), rtext_g hg most hm k, Option.bind_some, if_pos (by omega), wr1 _ (by omega), gTexts, if_neg (by decide)]
      have h2 := rtexts_loop most hm n hn d (k + 1) (out ++ [(gText l false most).1]) _ _ (gText_good hg most) (by rw [List.length_append, List.length_singleton]; omega) (by omega)
      rw [List.length_append, List.length_singleton] at h2
      exact h2
theorem rtexts_is (b : List Int) (hf : Fit b) (n : Nat) (hn : n ≤ 400) (most : Int) (hm : most < 9223372036854775808) (k : Nat) (hk : 5000 ≤ k) : firkinref08_Texts.f k b (n : Int) most = some (textsA (gTexts most n [] b false)) := by
  unfold firkinref08_Texts.f
  rw [show new39.f b = some (b, false) from rfl, Option.bind_some]
  have h := rtexts_loop most hm n hn n k [] b false (GoodS.of hf) (by simp) (by omega)
  rw [List.length_nil] at h
  refine h.trans ?_
  unfold rfin textsA
  have ho := gTexts_out most n [] b false
  split
  · rename_i he
    unfold gEnd at he
    have hb : (gTexts most n [] b false).2.2 = false := by cases e : (gTexts most n [] b false).2.2 with | false => rfl | true => rw [e] at he; simp at he
    rw [if_pos (by rw [ho.2 hb]; simp)]
  · rfl
theorem rtexts_neg (b : List Int) (n most : Int) (h : n < 0) (k : Nat) (hk : 1 ≤ k) : firkinref08_Texts.f k b n most = some ([], false) := by
  obtain ⟨k, rfl⟩ : ∃ q, k = q + 1 := ⟨k - 1, by omega⟩
  unfold firkinref08_Texts.f
  rw [show new39.f b = some (b, false) from rfl, Option.bind_some]
  simp only
  rw [firkinref08_Texts.l0, if_neg (by omega), rend_g, Option.bind_some]
  split
  · rw [if_neg (by simp; omega)]
  · rfl
/-- What was read to the end is put again. -/
theorem texts_own (b : List Int) (hf : Fit b) (n : Nat) (most : Int) (h : gEnd (gTexts most n [] b false).2.1 (gTexts most n [] b false).2.2 = true) : plainL (gTexts most n [] b false).1 = b := by
  unfold gEnd at h
  rw [Bool.and_eq_true, Bool.not_eq_true', List.isEmpty_iff] at h
  have ho := gTexts_own most n [] b hf h.1
  rw [h.2, List.append_nil] at ho
  exact ho
theorem live_is : firkinlaw08_live.f 5000 = some true := by
  unfold firkinlaw08_live.f
  rw [dput_is _ (by decide) (by unfold Sm; decide) 5000 (by decide), Option.bind_some]
  unfold dputL atL
  rw [live_words]
  decide +kernel
theorem live_at (k : Nat) (h : 5000 ≤ k) : firkinlaw08_live.f k = some true := by
  obtain ⟨d, rfl⟩ : ∃ d, k = 5000 + d := ⟨k - 5000, by omega⟩
  clear h
  induction d with
  | zero => exact live_is
  | succ d ih => exact firkinlaw08_live.mono _ _ ih
end Go.Proofs.Ytbbffnlefmogbaa.DictP
/- DictTexts: which texts whatever bytes are as they are; these are just their own. No condition. -/
namespace Go.Proofs.Ytbbffnlefmogbaa.True_
open Go Go.RowKit Go.Proofs.Ytbbffnlefmogbaa.X Go.Proofs.Ytbbffnlefmogbaa.Dec Go.Proofs.Ytbbffnlefmogbaa.DictP Go.Proofs.Ytbbffnlefmogbaa.EncText Go.Proofs.Ytbbffnlefmogbaa.Read Go.Proofs.YtbbffnlefmogbaaW.PrintWords Go.Proofs.YtbbffnlefmogbaaW.PrintLast Go.Proofs.YtbbffnlefmogbaaW.PrintMore
set_option linter.unusedVariables false
set_option linter.unusedSimpArgs false
theorem DictTexts : ∀ (x0 : List Int) (x1 : Int) (x2 : Int), (x0.length ≤ maxLen ∧ ∀ z ∈ x0, (Lit.int .u8 z).wf = true) → (Lit.int .i64 x1).wf = true → (Lit.int .i64 x2).wf = true → ∃ k, firkinlaw08_DictTexts.f k x0 x1 x2 = some true := by
  intro b n most h0 h1 h2
  have hb : IsBytes b := fun x hx => byte_bounds (h0.2 x hx)
  have hm : most < 9223372036854775808 := (Wf.i64 h2).2
  have lv : ∀ k, 5000 ≤ k → ((firkinlaw08_live.f k).bind fun t => some t) = some true := fun k hk => by rw [live_at k hk]; rfl
  refine ⟨50000, ?_⟩
  have ht : ∀ t, t = true → firkinlaw08_DictTexts.j0 50000 b n most t = some true := by
    rintro t rfl
    rw [firkinlaw08_DictTexts.j0, if_pos rfl]; exact lv _ (by decide)
  unfold firkinlaw08_DictTexts.f
  by_cases hl : (b.length : Int) > 400
  · rw [if_pos hl]; exact ht _ rfl
  rw [if_neg hl]
  by_cases hn : n > 400
  · exact ht _ (decide_eq_true hn)
  rw [decide_eq_false hn, firkinlaw08_DictTexts.j0, if_neg (by decide)]
  have hf : Fit b := ⟨hb, by omega⟩
  by_cases h9 : n < 0
  · rw [texts_neg b n most h9 _ (by decide), rtexts_neg b n most h9 _ (by decide), Option.bind_some, Option.bind_some]
    simp only [beq_self_eq_true, if_true]
    rw [names_is [] (by decide) _ (by decide), Option.bind_some, if_pos rfl, if_neg (by decide)]
    exact lv _ (by decide)
  · obtain ⟨m, rfl⟩ : ∃ m : Nat, n = (m : Int) := ⟨n.toNat, by omega⟩
    rw [texts_is b hf m (by omega) most hm _ (by decide), rtexts_is b hf m (by omega) most hm _ (by decide), Option.bind_some, Option.bind_some]
    simp only [beq_self_eq_true, if_true]
    have ho := gTexts_out most m [] b false
    have hs := gTexts_size most 400 m [] b false (GoodS.of hf) (by omega) (by simp)
    unfold textsA
    split
    · rename_i he
      simp only
      rw [names_is _ (by simp at ho; omega) _ (by decide), Option.bind_some, if_pos rfl, if_pos trivial, plain_is _ (by simp at ho; omega) (fun s h => by have := hs s h; omega) _ (by decide), Option.bind_some, texts_own b hf m most he, same_self, Option.bind_some, if_pos rfl]
      exact lv _ (by decide)
    · simp only
      rw [names_is [] (by decide) _ (by decide), Option.bind_some, if_pos rfl, if_neg (by decide)]
      exact lv _ (by decide)
end Go.Proofs.Ytbbffnlefmogbaa.True_
/- DictTexts: for every input the call returns true, and each argument reads behind the call as it read before it. No condition. -/
namespace Go.Proofs.Ytbbffnlefmogbaa.dictTexts
open Go.ChangeShapes Go.WideShapes Go.ChangeAt Go.RowKit Go.Proofs.Ytbbffnlefmogbaa.Opens Go.Proofs.Ytbbffnlefmogbaa.X Go.Proofs.YtbbffnlefmogbaaW.PrintWords Go.Proofs.YtbbffnlefmogbaaW.PrintLast Go.Proofs.YtbbffnlefmogbaaW.PrintMore
open Go.ChangeMaps (open_string shut_string)
set_option linter.unusedVariables false
set_option linter.unusedSimpArgs false
theorem own : ownKnob Try.prog.godebug = none := by kernel_rfl
theorem laidOut : laidOutB Try.prog = true := by kernel_rfl
set_option maxRecDepth 100000 in
theorem lifted (os : Os) (started : os.Started) (H : Type) (enc : TypeId × Value → H) :
    ReturnsInHanded {} Try.checked os 7 .any (Rows.dictTextsSpec.pre6 enc Try.prog Try.f7 Rows.dictTextsRow.domain false) (Rows.dictTextsSpec.post enc Try.prog Try.f7 false true false false) := by
  refine returnsInHanded_of_change_sized (C := Try.checked) own started (by kernel_rfl) Try.func7
    (ChangeSpec.witness6 (enc := enc) (C := Try.checked) false ⟨#[], #[.slice none 0 0, .int .i64 0, .int .i64 0], []⟩ 8 (by kernel_rfl) (by kernel_rfl) (by kernel_rfl) (by kernel_rfl)) ?_
  intro W base args ds gs before hval0 hW hcnd hsz0 _
  have hval : ∀ (j : Nat) t v, Try.f7.params[j]? = some t → args[j]? = some v → Value.okWide Try.prog W .any base t v := hval0
  have hW' := hW
  obtain ⟨p, q, hA0, hV, rfl, hfz, hnd⟩ := hW
  have hA : DataW.TrodAll enc Try.prog W 0 (fun _ => true) true Try.f7.params.toList args.toList ds p := hA0
  rw [Try.params7] at hA hval
  obtain ⟨v0, vs0, d0, ds0, p0, q0, hargs, rfl, rfl, h0, r0⟩ := trodAll_cons hA
  obtain ⟨v1, vs1, d1, ds1, p1, q1, rfl, rfl, rfl, h1, r1⟩ := trodAll_cons r0
  obtain ⟨v2, vs2, d2, ds2, p2, q2, rfl, rfl, rfl, h2, r2⟩ := trodAll_cons r1
  obtain ⟨rfl, rfl, rfl⟩ := trodAll_nil r2
  obtain rfl : args = #[v0, v1, v2] := by cases args; simp_all
  obtain ⟨rfl, rfl⟩ := trodVars_none hV
  have k0 := h0
  have lt0 : ∀ x ∈ p0, x.block < W.heap.size := by obtain ⟨m, hm⟩ := k0; exact DataW.trod_lt m _ _ _ hm
  obtain ⟨x0, hk0, ok0⟩ := Opens.arg (Opens.slice Try.underlying24 (by kernel_rfl) (Opens.int Try.underlying5 (by kernel_rfl))) h0
  obtain ⟨a0, len0, cap0, rfl⟩ := okWide_slice Try.underlying24 (hval 0 24 v0 rfl rfl)
  obtain ⟨A0, c0, hcs0, hc0, hr0⟩ := hk0
  simp only [Value.cells] at hcs0
  injection hcs0 with hcs0 _
  injection hcs0 with e1_0 e2_0 e3_0
  subst e1_0 e2_0 e3_0
  have k1 := h1
  have lt1 : ∀ x ∈ p1, x.block < W.heap.size := by obtain ⟨m, hm⟩ := k1; exact DataW.trod_lt m _ _ _ hm
  obtain ⟨x1, hk1, ok1⟩ := Opens.arg (Opens.int Try.underlying3 (by kernel_rfl)) h1
  obtain ⟨y1, rfl⟩ := okWide_int Try.underlying3 (hval 1 3 v1 rfl rfl)
  injection (show _ = [_] from hk1) with e1 _
  injection e1 with e1a e1
  subst e1
  have k2 := h2
  have lt2 : ∀ x ∈ p2, x.block < W.heap.size := by obtain ⟨m, hm⟩ := k2; exact DataW.trod_lt m _ _ _ hm
  obtain ⟨x2, hk2, ok2⟩ := Opens.arg (Opens.int Try.underlying3 (by kernel_rfl)) h2
  obtain ⟨y2, rfl⟩ := okWide_int Try.underlying3 (hval 2 3 v2 rfl rfl)
  injection (show _ = [_] from hk2) with e2 _
  injection e2 with e2a e2
  subst e2
  clear hA0 hval0 hsz0
  obtain ⟨k, h⟩ := True_.DictTexts x0 y1 y2 ok0 ok1 ok2
  refine (firkinlaw08_DictTexts.calls k _ _ x0 y1 y2 true W hr0 hc0 h).mono fun e W' ⟨he, bel0⟩ => ?_
  have bel : Below W.heap.size W W' := bel0
  subst he
  exact ⟨_, rfl, _, _, _, [], _, [], hW', trodAll_mk1 (shut_bool Try.underlying4 _), (trodAll_cons_mk (Below.trod laidOut (by kernel_rfl) (of_decide_eq_true (by kernel_rfl)) k0 bel lt0) (trodAll_cons_mk (Below.trod laidOut (by kernel_rfl) (of_decide_eq_true (by kernel_rfl)) k1 bel lt1) (trodAll_cons_mk (Below.trod laidOut (by kernel_rfl) (of_decide_eq_true (by kernel_rfl)) k2 bel lt2) trodAll_mk0))), rfl, bel.frame _, fun h => by cases h⟩
theorem over : Rows.dictTextsRow.holds Try.pinned (OpenSpec.ofChange Rows.dictTextsSpec) :=
  OpenClaim.holds_of_wide 7 Try.f7 rfl rfl rfl rfl rfl rfl rfl ⟨rfl, rfl, rfl, rfl, rfl⟩ rfl rfl rfl rfl rfl (by kernel_rfl) Try.func7 (by kernel_rfl)
    (of_decide_eq_true (by kernel_rfl)) (by unfold Func.isWrapper; first | (rw [if_pos (by decide +kernel)]; kernel_rfl) | (rw [if_neg (by decide +kernel)]; exact ⟨rfl, rfl⟩))
    (fun os started H enc _ => lifted os started H enc)
theorem proved : Rows.DictTextsSaid := over
end Go.Proofs.Ytbbffnlefmogbaa.dictTexts
namespace Go.Proofs.Ytbbffnlefmogbaa
/-- The row, under a short name, for the claim. -/
theorem dictTexts_holds : Rows.DictTextsSaid := dictTexts.proved
end Go.Proofs.Ytbbffnlefmogbaa
