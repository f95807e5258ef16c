/- RunsOne: for every input the call returns true, and each argument reads behind the call as it read before it. No condition. (Part 5 of 5: this session's texts, laid together by wip/merge.py.) -/
import Derived.Test.YthcmokglgepgjaaX0
import Derived.Test.YthcmokglgepgjaaRows
import Derived.Test.YthcmokglgepgjaaOpens
import Derived.WalkKit
import Derived.ProofKit
import Derived.OpenShut
import Derived.ShutString
import Derived.ChangeOld
import Derived.Below
import Derived.SizedLaws
import Derived.Test.YthcmokglgepgjaaMRunsOne0
import Derived.Test.YthcmokglgepgjaaMRunsOne1
import Derived.Test.YthcmokglgepgjaaMRunsOne3
-- Printed for this claim by a program of this session (wip/xprint.py) over the kit's printer; Lean checks it.
namespace Go.Proofs.Ythcmokglgepgjaa.X
open Go.RowKit Go.Proofs.YthcmokglgepgjaaW.PrintWords Go.Proofs.YthcmokglgepgjaaW.PrintLast Go.Proofs.YthcmokglgepgjaaW.PrintMore
attribute [local go_sem] max2_int min2_int max_two min_two max_three min_three max_four min_four   -- for this text's walks alone
set_option linter.unusedVariables false
set_option linter.unusedSimpArgs false

/-! ### firkinref05_Get: function 40 -/
mutual
def firkinref05_Get.l0 : Nat → Int → List Int → List Int → Bool → Option (List Int × Bool)
  | 0, _, _, _, _ => none
  | k + 1, x1, x7, x532000, x532001 => if (x532000.length : Int) > 0 then ((firkinref01_S_Below.f x532000 x532001 401).bind fun bt535 => ((firkinref01_S_Int.f bt535.2.1 bt535.2.2).bind fun bt538 => (if bt538.2.2 = true then (firkinref05_Get.j1 k x1 x7 bt535.1 bt538.1 true bt538.2.1 bt538.2.2) else (if (wrap64 (bt535.1 + 1)) > (wrap64 (x1 - (x7.length : Int))) then (firkinref05_Get.j1 k x1 x7 bt535.1 bt538.1 true bt538.2.1 bt538.2.2) else (if (x7.length : Int) > 0 then (if 0 ≤ (wrap64 ((x7.length : Int) - 1)) then (if (wrap64 ((x7.length : Int) - 1)) < (x7.length : Int) then (firkinref05_Get.j1 k x1 x7 bt535.1 bt538.1 ((rd x7 (wrap64 ((x7.length : Int) - 1))) == bt538.1) bt538.2.1 bt538.2.2) else (none)) else (none)) else (firkinref05_Get.j1 k x1 x7 bt535.1 bt538.1 false bt538.2.1 bt538.2.2)))))) else (if x532001 = true then (some (([] : List Int), false)) else (if (x7.length : Int) = x1 then (some (x7, true)) else (some (([] : List Int), false))))
def firkinref05_Get.j1 : Nat → Int → List Int → Int → Int → Bool → List Int → Bool → Option (List Int × Bool)
  | 0, _, _, _, _, _, _, _ => none
  | k + 1, x1, x7, x8, x9, x52, x532000, x532001 => if x52 = true then (some (([] : List Int), false)) else (firkinref05_Get.l1 k x1 x7 x8 x9 0 x532000 x532001)
def firkinref05_Get.l1 : Nat → Int → List Int → Int → Int → Int → List Int → Bool → Option (List Int × Bool)
  | 0, _, _, _, _, _, _, _ => none
  | k + 1, x1, x7, x8, x9, x10, x532000, x532001 => if x10 ≤ x8 then (if x7.length < 17592186044416 then (firkinref05_Get.l1 k x1 (x7 ++ [x9]) x8 x9 (wrap64 (x10 + 1)) x532000 x532001) else (none)) else (firkinref05_Get.l0 k x1 x7 x532000 x532001)
end
def firkinref05_Get.f (k : Nat) (l0 : List Int) (a1 : Int) : Option (List Int × Bool) := (new74.f l0).bind fun bt529 => (firkinref05_Get.l0 k a1 (([] : List Int)) bt529.1 bt529.2)
theorem firkinref05_Get.mono_l : ∀ k, (∀ y0 y1 y2 y3, LeO (firkinref05_Get.l0 k y0 y1 y2 y3) (firkinref05_Get.l0 (k + 1) y0 y1 y2 y3)) ∧ (∀ y0 y1 y2 y3 y4 y5 y6, LeO (firkinref05_Get.j1 k y0 y1 y2 y3 y4 y5 y6) (firkinref05_Get.j1 (k + 1) y0 y1 y2 y3 y4 y5 y6)) ∧ (∀ y0 y1 y2 y3 y4 y5 y6, LeO (firkinref05_Get.l1 k y0 y1 y2 y3 y4 y5 y6) (firkinref05_Get.l1 (k + 1) y0 y1 y2 y3 y4 y5 y6))
  | 0 => ⟨fun _ _ _ _ r h => by simp [firkinref05_Get.l0] at h, fun _ _ _ _ _ _ _ r h => by simp [firkinref05_Get.j1] at h, fun _ _ _ _ _ _ _ r h => by simp [firkinref05_Get.l1] at h⟩
  | k + 1 => by
    obtain ⟨ih0, ih1, ih2⟩ := firkinref05_Get.mono_l k
    refine ⟨?_, ?_, ?_⟩
    · intro y0 y1 y2 y3
      unfold firkinref05_Get.l0
      repeat' first
      | (with_reducible exact ih0 _ _ _ _)
      | (with_reducible exact ih1 _ _ _ _ _ _ _)
      | (with_reducible exact ih2 _ _ _ _ _ _ _)
      | (with_reducible exact LeO.refl _)
      | (with_reducible exact LeO.none _)
      | (with_reducible refine LeO.ite ?_ ?_)
      | (with_reducible refine LeO.bind ?_ (fun _ => ?_))
      | exact ih0 _ _ _ _
      | exact ih1 _ _ _ _ _ _ _
      | exact ih2 _ _ _ _ _ _ _
      | exact LeO.none _
      | refine LeO.ite ?_ ?_
      | refine LeO.bind ?_ (fun _ => ?_)
    · intro y0 y1 y2 y3 y4 y5 y6
      unfold firkinref05_Get.j1
      repeat' first
      | (with_reducible exact ih0 _ _ _ _)
      | (with_reducible exact ih1 _ _ _ _ _ _ _)
      | (with_reducible exact ih2 _ _ _ _ _ _ _)
      | (with_reducible exact LeO.refl _)
      | (with_reducible exact LeO.none _)
      | (with_reducible refine LeO.ite ?_ ?_)
      | (with_reducible refine LeO.bind ?_ (fun _ => ?_))
      | exact ih0 _ _ _ _
      | exact ih1 _ _ _ _ _ _ _
      | exact ih2 _ _ _ _ _ _ _
      | exact LeO.none _
      | refine LeO.ite ?_ ?_
      | refine LeO.bind ?_ (fun _ => ?_)
    · intro y0 y1 y2 y3 y4 y5 y6
      unfold firkinref05_Get.l1
      repeat' first
      | (with_reducible exact ih0 _ _ _ _)
      | (with_reducible exact ih1 _ _ _ _ _ _ _)
      | (with_reducible exact ih2 _ _ _ _ _ _ _)
      | (with_reducible exact LeO.refl _)
      | (with_reducible exact LeO.none _)
      | (with_reducible refine LeO.ite ?_ ?_)
      | (with_reducible refine LeO.bind ?_ (fun _ => ?_))
      | exact ih0 _ _ _ _
      | exact ih1 _ _ _ _ _ _ _
      | exact ih2 _ _ _ _ _ _ _
      | exact LeO.none _
      | refine LeO.ite ?_ ?_
      | refine LeO.bind ?_ (fun _ => ?_)
theorem firkinref05_Get.mono : ∀ a0 a1 k, LeO (firkinref05_Get.f k a0 a1) (firkinref05_Get.f (k + 1) a0 a1) := by
  intro a0 a1 k
  obtain ⟨ih0, ih1, ih2⟩ := firkinref05_Get.mono_l k
  unfold firkinref05_Get.f
  repeat' first
      | (with_reducible exact ih0 _ _ _ _)
      | (with_reducible exact ih1 _ _ _ _ _ _ _)
      | (with_reducible exact ih2 _ _ _ _ _ _ _)
      | (with_reducible exact LeO.refl _)
      | (with_reducible exact LeO.none _)
      | (with_reducible refine LeO.ite ?_ ?_)
      | (with_reducible refine LeO.bind ?_ (fun _ => ?_))
      | exact ih0 _ _ _ _
      | exact ih1 _ _ _ _ _ _ _
      | exact ih2 _ _ _ _ _ _ _
      | exact LeO.none _
      | refine LeO.ite ?_ ?_
      | refine LeO.bind ?_ (fun _ => ?_)
set_option maxHeartbeats 8000000 in
set_option maxRecDepth 100000 in
theorem firkinref05_Get.calls (k : Nat) (A0 : Option Addr) (c0 : Nat) (l0 : List Int) (a1 : Int) (r1 : List Int) (r2 : Bool) (w : World) (hr0 : Kd.C (Kd.int .u8) w A0 l0.length l0) (hc0 : l0.length ≤ c0) (h : firkinref05_Get.f k l0 a1 = some (r1, r2)) :
    Calls Try.prog 40 #[.slice A0 l0.length c0, .int .i64 a1] w fun e w' => ∃ v0_ : Value, e = .returned (.tuple #[v0_, .bool r2]) ∧ Kd.R (Kd.int .i64) 2 w' w.heap.size (fun _ => True) v0_ r1 ∧ Below w.heap.size w w' := by
  have HR0 := Aside0.mk hr0
  have HC0 := Aside0.mk hc0
  clear hr0 hc0
  have HB := Aside0.mk (Below.refl w.heap.size w)
  have H : ((new74.f l0).bind fun bt529 => (firkinref05_Get.l0 k a1 (([] : List Int)) bt529.1 bt529.2)) = some (r1, r2) := h
  clear h
  replace H := Option.bind_eq_some_iff.mp H
  obtain ⟨⟨t529, t530⟩, A30, H⟩ := H
  replace H : (firkinref05_Get.l0 k a1 (([] : List Int)) t529 t530) = some (r1, r2) := H
  have A3 := Aside0.mk A30
  clear A30
  obtain ⟨y532, hy532⟩ : ∃ y_ : List Int, y_ = (([] : List Int)) := ⟨_, rfl⟩
  replace H : (firkinref05_Get.l0 k a1 y532 t529 t530) = some (r1, r2) := by first | (rw [hy532]; with_reducible exact H) | (have H2_ := (Option.bind_some _ _).symm.trans H; rw [hy532]; with_reducible exact H2_) | (have H2_ := (Option.bind_some _ _).symm.trans H; with_reducible exact H2_) | with_reducible exact H | (rw [hy532]; exact H) | exact H
  have Ny532 := Aside0.mk hy532
  clear hy532
  have H' := Aside0.mk H
  clear H
  go_enter Try.func40, Try.ntmps40
  go_wp2_with (first | ((with_reducible refine gate_dst (N := 13) rfl ?_); refine Boxed.boxed_ (some 13) rfl rfl 74 _ rfl #[.slice A0 l0.length c0, .bool false] rfl ?_; (with_reducible refine (new74.calls _ _ l0 t529 t530 w _ ?side1 ?side2 ?side3 A3.out).mono ?_); (case side1 => repeat (first | (with_reducible first | exact HB.out | apply below_alloc | apply pw_below_drewN | apply below_drew1) | exact HB.out)); (case side2 => exact HR0.out); (case side3 => exact HC0.out); rintro e w4 ⟨g531, rfl, hi, hb, hb2⟩; refine ⟨_, rfl, ?_⟩; have n0_ := Aside0.mk (hb); have n1_ := Aside0.mk (hi); clear HB; have HB := n0_; have HI531 := n1_; clear n0_ n1_; (try clear hb); (try clear hb2); (try clear hk); (try clear hi)) | ((with_reducible refine gate_dst (N := 14) rfl ?_); (try (refine gate_guard (by rfl) ?_; dsimp only)); refine Kd.R_lit (Kd.int .i64) _ 2 ?hg (N := 14) ?hd (xs := ([] : List Int)) (inner := []) (ok := fun _ => True) (okp := fun _ => True) ?hr ?hp (fun _ hk => hk) trivial (Below.refl _ _) (Nat.le_refl _) (by simp) ?_; (case hd => rfl); (case hg => rfl); (case hr => first | (go_simp; done) | (go_simp; rfl)); (case hp => exact (Reps.none _ _)); intro v533 w5 ho6 hb hg_ hnew_; clear hg_ hnew_; (first | rw [← Ny532.out] at ho6 | (simp only [Int.reduceToNat] at ho6; rw [← Ny532.out] at ho6)); have n0_ := Aside0.mk (Kd.R_lower ho6 (below_size (by repeat (first | (with_reducible first | exact HB.out | apply below_alloc | apply pw_below_drewN | apply below_drew1 | refine below_set ?_ (IsS74.ge HI531.out)) | exact HB.out)))); have n1_ := Aside0.mk (IsS74.below (by repeat (first | (with_reducible first | exact HI531.out | apply IsS74.alloc | apply IsS74.drewN | apply IsS74.drew | apply IsS74.set_0 | apply IsS74.set_1) | exact HI531.out)) hb); have n2_ := Aside0.mk (below_step (by repeat (first | (with_reducible first | exact HB.out | apply below_alloc | apply pw_below_drewN | apply below_drew1 | refine below_set ?_ (IsS74.ge HI531.out)) | exact HB.out)) hb); clear HI531; clear HB; have HO534 := n0_; have HI531 := n1_; have HB := n2_; clear n0_ n1_ n2_; clear hb ho6))
  go_loopg [7] k (fun kq v7 w' => ∃ (x7_1 : List Int) (x532000_1 : List Int) (x532001_1 : Bool) (u532000 : Value), Aside0 (firkinref05_Get.l0 kq a1 x7_1 x532000_1 x532001_1 = some (r1, r2)) ∧ Aside0 (kq ≤ k) ∧ Aside0 (Kd.R (Kd.int .i64) 2 w' w.heap.size (fun _ => True) v7 x7_1) ∧ Aside0 (IsS74 w w' g531 x532000_1 x532001_1) ∧ Aside0 (Below w.heap.size w w'))
  case atStart => exact ⟨(y532), (t529), (t530), (Value.slice none 0 0), H', ⟨Nat.le_refl _⟩, ⟨by (with_reducible repeat (first | apply Kd.R_alloc | apply Kd.R_drewN | apply Kd.R_drew)); exact HO534.out⟩, ⟨by repeat (first | (with_reducible first | exact HI531.out | apply IsS74.alloc | apply IsS74.drewN | apply IsS74.drew | apply IsS74.set_0 | apply IsS74.set_1) | exact HI531.out)⟩, ⟨by repeat (first | (with_reducible first | exact HB.out | apply below_alloc | apply pw_below_drewN | apply below_drew1 | refine below_set ?_ (IsS74.ge HI531.out)) | exact HB.out)⟩⟩
  case round =>
    clear H'
    try clear p2
    try clear c4
    obtain ⟨x7_1, x532000_1, x532001_1, u532000, HA, HK1, HO_7, HI531, HB⟩ := hrel
    cases gk with
    | zero => exact absurd HA.out (by simp [firkinref05_Get.l0])
    | succ k1 =>
      have H := HA.out
      clear HA
      simp only [firkinref05_Get.l0] at H
      by_cases c7 : (x532000_1.length : Int) > 0
      · rw [if_pos c7] at H
        have c7b0 : decide (0 < (x532000_1.length : Int)) = true := decide_eq_true c7
        have c7b1 : decide (0 < x532000_1.length) = true := decide_eq_true (by omega)
        clear c7
        replace H := Option.bind_eq_some_iff.mp H
        obtain ⟨⟨t535, t536, t537⟩, A80, H⟩ := H
        replace H : ((firkinref01_S_Int.f t536 t537).bind fun bt538 => (if bt538.2.2 = true then (firkinref05_Get.j1 k1 a1 x7_1 t535 bt538.1 true bt538.2.1 bt538.2.2) else (if (wrap64 (t535 + 1)) > (wrap64 (a1 - (x7_1.length : Int))) then (firkinref05_Get.j1 k1 a1 x7_1 t535 bt538.1 true bt538.2.1 bt538.2.2) else (if (x7_1.length : Int) > 0 then (if 0 ≤ (wrap64 ((x7_1.length : Int) - 1)) then (if (wrap64 ((x7_1.length : Int) - 1)) < (x7_1.length : Int) then (firkinref05_Get.j1 k1 a1 x7_1 t535 bt538.1 ((rd x7_1 (wrap64 ((x7_1.length : Int) - 1))) == bt538.1) bt538.2.1 bt538.2.2) else (none)) else (none)) else (firkinref05_Get.j1 k1 a1 x7_1 t535 bt538.1 false bt538.2.1 bt538.2.2))))) = some (r1, r2) := H
        have A8 := Aside0.mk A80
        clear A80
        replace H := Option.bind_eq_some_iff.mp H
        obtain ⟨⟨t538, t539, t540⟩, A90, H⟩ := H
        replace H : (if t540 = true then (firkinref05_Get.j1 k1 a1 x7_1 t535 t538 true t539 t540) else (if (wrap64 (t535 + 1)) > (wrap64 (a1 - (x7_1.length : Int))) then (firkinref05_Get.j1 k1 a1 x7_1 t535 t538 true t539 t540) else (if (x7_1.length : Int) > 0 then (if 0 ≤ (wrap64 ((x7_1.length : Int) - 1)) then (if (wrap64 ((x7_1.length : Int) - 1)) < (x7_1.length : Int) then (firkinref05_Get.j1 k1 a1 x7_1 t535 t538 ((rd x7_1 (wrap64 ((x7_1.length : Int) - 1))) == t538) t539 t540) else (none)) else (none)) else (firkinref05_Get.j1 k1 a1 x7_1 t535 t538 false t539 t540)))) = some (r1, r2) := H
        have A9 := Aside0.mk A90
        clear A90
        have HC10 := Aside0.mk H
        clear H
        obtain ⟨ASz11_0, cSz11_0, HGz11, hgz11, ⟨HSz11_0, _⟩⟩ := HI531.out
        have hcz11_0 := cellS74_0 HGz11
        have hcz11_1 := cellS74_1 HGz11
        have hfz11_0 := blk_frozen HGz11 0
        have hfz11_1 := blk_frozen HGz11 1
        clear HGz11 hgz11
        go_upto_region 6 with (first | ((with_reducible refine gate_callee (f := 50) rfl ?_); refine goesL_ (some 22) rfl rfl Try.func50 (by kernel_rfl) rfl #[.pointer (some ⟨g531, 0, none⟩), .int .i64 401] rfl (by (try simp only [List.map_toArray, List.map_cons, List.map_nil]); first | done | rfl | (simp only [List.length_drop, List.length_take]; rfl)) ?_; (with_reducible refine (firkinref01_S_Below.calls g531 x532000_1 x532001_1 401 t535 t536 t537 w _ ?side1 ?side2 A8.out).mono ?_); (case side1 => repeat (first | (with_reducible first | exact HI531.out | apply IsS74.alloc | apply IsS74.drewN | apply IsS74.drew | apply IsS74.set_0 | apply IsS74.set_1) | exact HI531.out)); (case side2 => repeat (first | (with_reducible first | exact HB.out | apply below_alloc | apply pw_below_drewN | apply below_drew1 | refine below_set ?_ (IsS74.ge HI531.out)) | exact HB.out)); rintro e w12 ⟨rfl, hi, hb, hk⟩; refine ⟨_, rfl, ?_⟩; have n0_ := Aside0.mk (Kd.R_mono (Kd.R_keep (IsS74.apart (show IsS74 w _ g531 x532000_1 x532001_1 from by repeat (first | (with_reducible first | exact HI531.out | apply IsS74.alloc | apply IsS74.drewN | apply IsS74.drew | apply IsS74.set_0 | apply IsS74.set_1) | exact HI531.out)) (by (with_reducible repeat (first | apply Kd.R_alloc | apply Kd.R_drewN | apply Kd.R_drew)); exact HO_7.out) (by decide)) hk (fun _ h => h.2)) (fun _ h => h.1)); have n1_ := Aside0.mk (hb); have n2_ := Aside0.mk (hi); clear HO_7; clear HB; clear HI531; have HO_7 := n0_; have HB := n1_; have HI531 := n2_; clear n0_ n1_ n2_; (try clear hb); (try clear hb2); (try clear hk); (try clear hi)) | ((with_reducible refine gate_callee (f := 65) rfl ?_); refine goesL_ (some 24) rfl rfl Try.func65 (by kernel_rfl) rfl #[.pointer (some ⟨g531, 0, none⟩)] rfl (by (try simp only [List.map_toArray, List.map_cons, List.map_nil]); first | done | rfl | (simp only [List.length_drop, List.length_take]; rfl)) ?_; (with_reducible refine (firkinref01_S_Int.calls g531 t536 t537 t538 t539 t540 w _ ?side1 ?side2 A9.out).mono ?_); (case side1 => repeat (first | (with_reducible first | exact HI531.out | apply IsS74.alloc | apply IsS74.drewN | apply IsS74.drew | apply IsS74.set_0 | apply IsS74.set_1) | exact HI531.out)); (case side2 => repeat (first | (with_reducible first | exact HB.out | apply below_alloc | apply pw_below_drewN | apply below_drew1 | refine below_set ?_ (IsS74.ge HI531.out)) | exact HB.out)); rintro e w13 ⟨rfl, hi, hb, hk⟩; refine ⟨_, rfl, ?_⟩; have n0_ := Aside0.mk (Kd.R_mono (Kd.R_keep (IsS74.apart (show IsS74 w _ g531 t536 t537 from by repeat (first | (with_reducible first | exact HI531.out | apply IsS74.alloc | apply IsS74.drewN | apply IsS74.drew | apply IsS74.set_0 | apply IsS74.set_1) | exact HI531.out)) (by (with_reducible repeat (first | apply Kd.R_alloc | apply Kd.R_drewN | apply Kd.R_drew)); exact HO_7.out) (by decide)) hk (fun _ h => h.2)) (fun _ h => h.1)); have n1_ := Aside0.mk (hb); have n2_ := Aside0.mk (hi); clear HO_7; clear HB; clear HI531; have HO_7 := n0_; have HB := n1_; have HI531 := n2_; clear n0_ n1_ n2_; (try clear hb); (try clear hb2); (try clear hk); (try clear hi)))
        (try simp only [Act.put, List.setIfInBounds_toArray, List.set_cons_zero, List.set_cons_succ])
        go_cut [52] (fun v52 wc => ∃ (kq : Nat) (x52_9 : Bool), v52 = .bool x52_9 ∧ Aside0 (firkinref05_Get.j1 kq a1 x7_1 t535 t538 x52_9 t539 t540 = some (r1, r2)) ∧ Aside0 (kq ≤ k1) ∧ Aside0 (Kd.R (Kd.int .i64) 2 wc w.heap.size (fun _ => True) u7 x7_1) ∧ Aside0 (IsS74 w wc g531 t539 t540) ∧ Aside0 (Below w.heap.size w wc))
        case first =>
          have H := HC10.out
          clear HC10
          by_cases c14 : t540 = true
          · subst c14
            have H1 : (firkinref05_Get.j1 k1 a1 x7_1 t535 t538 true t539 true) = some (r1, r2) := by rw [if_pos rfl] at H; exact H
            clear H
            have H := H1
            clear H1
            have H' := Aside0.mk H
            clear H
            obtain ⟨ASz15_0, cSz15_0, HGz15, hgz15, ⟨HSz15_0, _⟩⟩ := HI531.out
            have hcz15_0 := cellS74_0 HGz15
            have hcz15_1 := cellS74_1 HGz15
            have hfz15_0 := blk_frozen HGz15 0
            have hfz15_1 := blk_frozen HGz15 1
            clear HGz15 hgz15
            go_wp2
            go_meet
            case rel => exact ⟨_, (true), (by first | rfl | (simp; done) | (simp [*]; done)), H', ⟨by have := HK1.out; first | omega | exact Nat.le_refl _⟩, ⟨by (with_reducible repeat (first | apply Kd.R_alloc | apply Kd.R_drewN | apply Kd.R_drew)); exact HO_7.out⟩, ⟨by repeat (first | (with_reducible first | exact HI531.out | apply IsS74.alloc | apply IsS74.drewN | apply IsS74.drew | apply IsS74.set_0 | apply IsS74.set_1) | exact HI531.out)⟩, ⟨by repeat (first | (with_reducible first | exact HB.out | apply below_alloc | apply pw_below_drewN | apply below_drew1 | refine below_set ?_ (IsS74.ge HI531.out)) | exact HB.out)⟩⟩
          · replace c14 := Bool.eq_false_iff.mpr c14
            subst c14
            have H1 : (if (wrap64 (t535 + 1)) > (wrap64 (a1 - (x7_1.length : Int))) then (firkinref05_Get.j1 k1 a1 x7_1 t535 t538 true t539 false) else (if (x7_1.length : Int) > 0 then (if 0 ≤ (wrap64 ((x7_1.length : Int) - 1)) then (if (wrap64 ((x7_1.length : Int) - 1)) < (x7_1.length : Int) then (firkinref05_Get.j1 k1 a1 x7_1 t535 t538 ((rd x7_1 (wrap64 ((x7_1.length : Int) - 1))) == t538) t539 false) else (none)) else (none)) else (firkinref05_Get.j1 k1 a1 x7_1 t535 t538 false t539 false))) = some (r1, r2) := by rw [if_neg (show ¬ (false = true) by decide)] at H; exact H
            clear H
            have H := H1
            clear H1
            by_cases c16 : (wrap64 (t535 + 1)) > (wrap64 (a1 - (x7_1.length : Int)))
            · rw [if_pos c16] at H
              have c16b0 : decide ((wrap64 (a1 - (x7_1.length : Int))) < (wrap64 (t535 + 1))) = true := decide_eq_true c16
              clear c16
              (first | rw [c16b0] | (simp only [i64_w, i32_w]; rw [c16b0]) | skip)
              have H' := Aside0.mk H
              clear H
              obtain ⟨ASz17_0, cSz17_0, HGz17, hgz17, ⟨HSz17_0, _⟩⟩ := HI531.out
              have hcz17_0 := cellS74_0 HGz17
              have hcz17_1 := cellS74_1 HGz17
              have hfz17_0 := blk_frozen HGz17 0
              have hfz17_1 := blk_frozen HGz17 1
              clear HGz17 hgz17
              obtain ⟨Ao18, co18, eo18⟩ := Kd.R_slice HO_7.out
              subst eo18
              go_wp2
              go_meet
              case rel => exact ⟨_, (true), (by first | rfl | (simp; done) | (simp [*]; done)), H', ⟨by have := HK1.out; first | omega | exact Nat.le_refl _⟩, ⟨by (with_reducible repeat (first | apply Kd.R_alloc | apply Kd.R_drewN | apply Kd.R_drew)); exact HO_7.out⟩, ⟨by repeat (first | (with_reducible first | exact HI531.out | apply IsS74.alloc | apply IsS74.drewN | apply IsS74.drew | apply IsS74.set_0 | apply IsS74.set_1) | exact HI531.out)⟩, ⟨by repeat (first | (with_reducible first | exact HB.out | apply below_alloc | apply pw_below_drewN | apply below_drew1 | refine below_set ?_ (IsS74.ge HI531.out)) | exact HB.out)⟩⟩
            · rw [if_neg c16] at H
              have c16b0 : decide ((wrap64 (a1 - (x7_1.length : Int))) < (wrap64 (t535 + 1))) = false := decide_eq_false c16
              clear c16
              (first | rw [c16b0] | (simp only [i64_w, i32_w]; rw [c16b0]) | skip)
              by_cases c19 : (x7_1.length : Int) > 0
              · rw [if_pos c19] at H
                have c19b0 : decide (0 < (x7_1.length : Int)) = true := decide_eq_true c19
                have c19b1 : decide (0 < x7_1.length) = true := decide_eq_true (by omega)
                clear c19
                obtain ⟨ji20, hji20⟩ : ∃ j_ : Int, (wrap64 ((x7_1.length : Int) - 1)) = j_ := ⟨_, rfl⟩
                replace H : (if 0 ≤ (ji20) then (if (ji20) < (x7_1.length : Int) then (firkinref05_Get.j1 k1 a1 x7_1 t535 t538 ((rd x7_1 (ji20)) == t538) t539 false) else (none)) else (none)) = some (r1, r2) := by first | (rw [hji20] at H; exact H) | (simp only [hji20] at H ⊢; exact H)
                have hji20w : (IntKind.i64.wrap ((x7_1.length : Int) - 1)) = ji20 := (i64_w _).trans hji20
                by_cases c21 : 0 ≤ (ji20)
                · rw [if_pos c21] at H
                  have c21b0 : decide (0 ≤ (ji20)) = true := decide_eq_true c21
                  clear c21
                  by_cases c22 : (ji20) < (x7_1.length : Int)
                  · rw [if_pos c22] at H
                    have c22b0 : decide ((ji20) < (x7_1.length : Int)) = true := decide_eq_true c22
                    clear c22
                    have H' := Aside0.mk H
                    clear H
                    obtain ⟨ASz23_0, cSz23_0, HGz23, hgz23, ⟨HSz23_0, _⟩⟩ := HI531.out
                    have hcz23_0 := cellS74_0 HGz23
                    have hcz23_1 := cellS74_1 HGz23
                    have hfz23_0 := blk_frozen HGz23 0
                    have hfz23_1 := blk_frozen HGz23 1
                    clear HGz23 hgz23
                    obtain ⟨Ao24, co24, eo24⟩ := Kd.R_slice HO_7.out
                    subst eo24
                    have p541 : 0 ≤ ((ji20) : Int) := of_decide_eq_true (by first | (with_reducible assumption) | assumption)
                    have q541 : (ji20) < (x7_1.length : Int) := of_decide_eq_true (by first | (with_reducible assumption) | assumption)
                    obtain ⟨ad541, e541, hx541_0⟩ := Kd.at_int (Kd.R_reads' HO_7.out).2.2 (ji20) p541 q541
                    cases e541
                    replace p541 := eq_true p541
                    replace q541 := eq_true q541
                    go_wp2
                    go_meet
                    case rel => exact ⟨_, (((rd x7_1 (ji20)) == t538)), (by first | rfl | (simp; done) | (simp only [← hji20] <;> (first | rfl | simp)) | (simp [*]; done)), H', ⟨by have := HK1.out; first | omega | exact Nat.le_refl _⟩, ⟨by (with_reducible repeat (first | apply Kd.R_alloc | apply Kd.R_drewN | apply Kd.R_drew)); exact HO_7.out⟩, ⟨by repeat (first | (with_reducible first | exact HI531.out | apply IsS74.alloc | apply IsS74.drewN | apply IsS74.drew | apply IsS74.set_0 | apply IsS74.set_1) | exact HI531.out)⟩, ⟨by repeat (first | (with_reducible first | exact HB.out | apply below_alloc | apply pw_below_drewN | apply below_drew1 | refine below_set ?_ (IsS74.ge HI531.out)) | exact HB.out)⟩⟩
                  · rw [if_neg c22] at H
                    exact absurd H (by simp)
                · rw [if_neg c21] at H
                  exact absurd H (by simp)
              · rw [if_neg c19] at H
                have c19b0 : decide (0 < (x7_1.length : Int)) = false := decide_eq_false c19
                have c19b1 : decide (0 < x7_1.length) = false := decide_eq_false (by omega)
                clear c19
                have H' := Aside0.mk H
                clear H
                obtain ⟨ASz25_0, cSz25_0, HGz25, hgz25, ⟨HSz25_0, _⟩⟩ := HI531.out
                have hcz25_0 := cellS74_0 HGz25
                have hcz25_1 := cellS74_1 HGz25
                have hfz25_0 := blk_frozen HGz25 0
                have hfz25_1 := blk_frozen HGz25 1
                clear HGz25 hgz25
                obtain ⟨Ao26, co26, eo26⟩ := Kd.R_slice HO_7.out
                subst eo26
                go_wp2
                go_meet
                case rel => exact ⟨_, (false), (by first | rfl | (simp; done) | (simp [*]; done)), H', ⟨by have := HK1.out; first | omega | exact Nat.le_refl _⟩, ⟨by (with_reducible repeat (first | apply Kd.R_alloc | apply Kd.R_drewN | apply Kd.R_drew)); exact HO_7.out⟩, ⟨by repeat (first | (with_reducible first | exact HI531.out | apply IsS74.alloc | apply IsS74.drewN | apply IsS74.drew | apply IsS74.set_0 | apply IsS74.set_1) | exact HI531.out)⟩, ⟨by repeat (first | (with_reducible first | exact HB.out | apply below_alloc | apply pw_below_drewN | apply below_drew1 | refine below_set ?_ (IsS74.ge HI531.out)) | exact HB.out)⟩⟩
        case rest =>
          clear HC10
          try clear c1
          try clear c2
          try clear p2
          try clear c4
          try clear c5
          try clear p5
          try clear q5
          try clear hx5
          try clear c6
          try clear p6
          try clear c7
          try clear c7b0
          try clear c7b1
          try clear c9
          try clear c14
          try clear c16
          try clear c16b0
          try clear c19
          try clear c19b0
          try clear c19b1
          try clear c21
          try clear c21b0
          try clear c22
          try clear c22b0
          try clear hcz11_0
          try clear hcz11_1
          try clear hcz15_0
          try clear hcz15_1
          try clear hcz17_0
          try clear hcz17_1
          try clear hcz23_0
          try clear hcz23_1
          try clear hcz25_0
          try clear hcz25_1
          try clear hfz11_0
          try clear hfz11_1
          try clear hfz15_0
          try clear hfz15_1
          try clear hfz17_0
          try clear hfz17_1
          try clear hfz23_0
          try clear hfz23_1
          try clear hfz25_0
          try clear hfz25_1
          try clear hx541_0
          try clear p2
          try clear p541
          try clear q541
          obtain ⟨kq, x52_9, rfl, HA, HJ9, HO_7, HI531, HB⟩ := hcut
          cases kq with
          | zero => exact absurd HA.out (by simp [firkinref05_Get.j1])
          | succ kj9 =>
            have H := HA.out
            clear HA
            simp only [firkinref05_Get.j1] at H
            by_cases c27 : x52_9 = true
            · subst c27
              have H1 : (some (([] : List Int), false)) = some (r1, r2) := by rw [if_pos rfl] at H; exact H
              clear H
              have H := H1
              clear H1
              simp only [Option.some.injEq, Prod.mk.injEq] at H
              obtain ⟨rfl, rfl⟩ := H
              go_wp2
              go_ret2
              exact ⟨_, by first | rfl | (simp [errW_none, errW_some] <;> rfl) | (simp [*, errW_none, errW_some] <;> rfl), by first | exact Kd.R_nil _ _ _ _ _ | exact Kd.N_nil _ _ _ _ _ | exact Kd.V_nil _ _ _ _ _ | exact Kd.Q_nil _ _ _ _ _ | exact Kd.S_nil _ _ _ _ _, by repeat (first | (with_reducible first | exact HB.out | apply below_alloc | apply pw_below_drewN | apply below_drew1 | refine below_set ?_ (IsS74.ge HI531.out)) | exact HB.out)⟩
            · replace c27 := Bool.eq_false_iff.mpr c27
              subst c27
              have H1 : (firkinref05_Get.l1 kj9 a1 x7_1 t535 t538 0 t539 t540) = some (r1, r2) := by rw [if_neg (show ¬ (false = true) by decide)] at H; exact H
              clear H
              have H := H1
              clear H1
              have H' := Aside0.mk H
              clear H
              go_wp2
              go_loopg [7, 10] kj9 (fun kq v7 v10 w' => ∃ (x7_3 : List Int) (x10_3 : Int), v10 = .int .i64 x10_3 ∧ Aside0 (firkinref05_Get.l1 kq a1 x7_3 t535 t538 x10_3 t539 t540 = some (r1, r2)) ∧ Aside0 (kq ≤ kj9) ∧ Aside0 (Kd.R (Kd.int .i64) 2 w' w.heap.size (fun _ => True) v7 x7_3) ∧ Aside0 (IsS74 w w' g531 t539 t540) ∧ Aside0 (Below w.heap.size w w'))
              case atStart => exact ⟨(x7_1), (0), (by first | rfl | (simp; done) | (simp [*]; done)), H', ⟨Nat.le_refl _⟩, ⟨by (with_reducible repeat (first | apply Kd.R_alloc | apply Kd.R_drewN | apply Kd.R_drew)); exact HO_7.out⟩, ⟨by repeat (first | (with_reducible first | exact HI531.out | apply IsS74.alloc | apply IsS74.drewN | apply IsS74.drew | apply IsS74.set_0 | apply IsS74.set_1) | exact HI531.out)⟩, ⟨by repeat (first | (with_reducible first | exact HB.out | apply below_alloc | apply pw_below_drewN | apply below_drew1 | refine below_set ?_ (IsS74.ge HI531.out)) | exact HB.out)⟩⟩
              case round =>
                clear H'
                try clear c1
                try clear c2
                try clear p2
                try clear c4
                try clear c5
                try clear p5
                try clear q5
                try clear hx5
                try clear c6
                try clear p6
                try clear c7
                try clear c7b0
                try clear c7b1
                try clear c9
                try clear c14
                try clear c16
                try clear c16b0
                try clear c19
                try clear c19b0
                try clear c19b1
                try clear c21
                try clear c21b0
                try clear c22
                try clear c22b0
                try clear c27
                try clear hcz11_0
                try clear hcz11_1
                try clear hcz15_0
                try clear hcz15_1
                try clear hcz17_0
                try clear hcz17_1
                try clear hcz23_0
                try clear hcz23_1
                try clear hcz25_0
                try clear hcz25_1
                try clear hfz11_0
                try clear hfz11_1
                try clear hfz15_0
                try clear hfz15_1
                try clear hfz17_0
                try clear hfz17_1
                try clear hfz23_0
                try clear hfz23_1
                try clear hfz25_0
                try clear hfz25_1
                try clear hx541_0
                try clear p2
                try clear p5
                try clear p541
                try clear p6
                try clear q5
                try clear q541
                obtain ⟨x7_3, x10_3, rfl, HA, HK3, HO_7, HI531, HB⟩ := hrel
                cases gk with
                | zero => exact absurd HA.out (by simp [firkinref05_Get.l1])
                | succ k3 =>
                  have H := HA.out
                  clear HA
                  simp only [firkinref05_Get.l1] at H
                  by_cases c28 : x10_3 ≤ t535
                  · rw [if_pos c28] at H
                    have c28b0 : decide (x10_3 ≤ t535) = true := decide_eq_true c28
                    clear c28
                    by_cases c29 : x7_3.length < 17592186044416
                    · rw [if_pos c29] at H
                      have LMc29 := Aside0.mk c29
                      clear c29
                      obtain ⟨y542, hy542⟩ : ∃ y_ : List Int, y_ = (x7_3 ++ [t538]) := ⟨_, rfl⟩
                      replace H : (firkinref05_Get.l1 k3 a1 y542 t535 t538 (wrap64 (x10_3 + 1)) t539 t540) = some (r1, r2) := by first | (rw [hy542]; with_reducible exact H) | (have H2_ := (Option.bind_some _ _).symm.trans H; rw [hy542]; with_reducible exact H2_) | (have H2_ := (Option.bind_some _ _).symm.trans H; with_reducible exact H2_) | with_reducible exact H | (rw [hy542]; exact H) | exact H
                      have Ny542 := Aside0.mk hy542
                      clear hy542
                      have H' := Aside0.mk H
                      clear H
                      go_wp2_with (first | ((with_reducible refine gate_builtin (b := .append) (xs := #[.tmp 58, .tmp 60]) rfl ?_); (try (refine gate_guard (by rfl) ?_; dsimp only)); at_builtin; refine Kd.R_append (Kd.int .i64) (w0 := w) w.heap.size rfl (.tmp 58) (.tmp 60) 56 2 (.int .i64 0) 8 rfl Try.underlying56 info2 rfl (by decide) (by omega) u7 x7_3 t538 [.int .i64 t538] (fun _ => True) (fun _ => False) rfl rfl ?aP (fun _ hk => hk.elim) ?aF ?aO ?aB ?aS ?aL ?_; (case aP => exact rfl); (case aB => exact (by repeat (first | (with_reducible first | exact HB.out | apply below_alloc | apply pw_below_drewN | apply below_drew1 | refine below_set ?_ (IsS74.ge HI531.out)) | exact HB.out))); (case aF => exact (fun _ _ => trivial)); (case aO => exact (by (with_reducible repeat (first | apply Kd.R_alloc | apply Kd.R_drewN | apply Kd.R_drew)); exact HO_7.out)); (case aS => exact (below_size (by repeat (first | (with_reducible first | exact HB.out | apply below_alloc | apply pw_below_drewN | apply below_drew1 | refine below_set ?_ (IsS74.ge HI531.out)) | exact HB.out)))); (case aL => have := LMc29.out; omega); intro v543 w30 ho hb hg hat; rw [← Ny542.out] at ho; have n0_ := Aside0.mk (IsS74.grown (by repeat (first | (with_reducible first | exact HI531.out | apply IsS74.alloc | apply IsS74.drewN | apply IsS74.drew | apply IsS74.set_0 | apply IsS74.set_1) | exact HI531.out)) hg (IsS74.own_ne HI531.out HO_7.out (by decide))); have n1_ := Aside0.mk (hb); have n2_ := Aside0.mk (ho); clear HI531; clear HB; clear HO_7; have HI531 := n0_; have HB := n1_; have HO544 := n2_; clear n0_ n1_ n2_; clear ho hb hg hat))
                      go_roundg k3
                      case measure => have := HK1.out; have := HJ9.out; have := HK3.out; omega
                      case rel => exact ⟨(y542), (wrap64 (x10_3 + 1)), (by first | rfl | (simp; done) | (simp [*]; done)), H', ⟨by have := HK1.out; have := HJ9.out; have := HK3.out; omega⟩, ⟨by (with_reducible repeat (first | apply Kd.R_alloc | apply Kd.R_drewN | apply Kd.R_drew)); exact HO544.out⟩, ⟨by repeat (first | (with_reducible first | exact HI531.out | apply IsS74.alloc | apply IsS74.drewN | apply IsS74.drew | apply IsS74.set_0 | apply IsS74.set_1) | exact HI531.out)⟩, ⟨by repeat (first | (with_reducible first | exact HB.out | apply below_alloc | apply pw_below_drewN | apply below_drew1 | refine below_set ?_ (IsS74.ge HI531.out)) | exact HB.out)⟩⟩
                    · rw [if_neg c29] at H
                      exact absurd H (by simp)
                  · rw [if_neg c28] at H
                    have c28b0 : decide (x10_3 ≤ t535) = false := decide_eq_false c28
                    clear c28
                    have H' := Aside0.mk H
                    clear H
                    go_wp2
                    go_roundg k3
                    case measure => have := HK1.out; have := HJ9.out; have := HK3.out; omega
                    case rel => exact ⟨(x7_3), (t539), (t540), (Value.slice none 0 0), H', ⟨by have := HK1.out; have := HJ9.out; have := HK3.out; omega⟩, ⟨by (with_reducible repeat (first | apply Kd.R_alloc | apply Kd.R_drewN | apply Kd.R_drew)); exact HO_7.out⟩, ⟨by repeat (first | (with_reducible first | exact HI531.out | apply IsS74.alloc | apply IsS74.drewN | apply IsS74.drew | apply IsS74.set_0 | apply IsS74.set_1) | exact HI531.out)⟩, ⟨by repeat (first | (with_reducible first | exact HB.out | apply below_alloc | apply pw_below_drewN | apply below_drew1 | refine below_set ?_ (IsS74.ge HI531.out)) | exact HB.out)⟩⟩
      · rw [if_neg c7] at H
        have c7b0 : decide (0 < (x532000_1.length : Int)) = false := decide_eq_false c7
        have c7b1 : decide (0 < x532000_1.length) = false := decide_eq_false (by omega)
        clear c7
        by_cases c31 : x532001_1 = true
        · subst c31
          have H1 : (some (([] : List Int), false)) = some (r1, r2) := by rw [if_pos rfl] at H; exact H
          clear H
          have H := H1
          clear H1
          simp only [Option.some.injEq, Prod.mk.injEq] at H
          obtain ⟨rfl, rfl⟩ := H
          obtain ⟨ASz32_0, cSz32_0, HGz32, hgz32, ⟨HSz32_0, _⟩⟩ := HI531.out
          have hcz32_0 := cellS74_0 HGz32
          have hcz32_1 := cellS74_1 HGz32
          have hfz32_0 := blk_frozen HGz32 0
          have hfz32_1 := blk_frozen HGz32 1
          clear HGz32 hgz32
          go_wp2
          go_ret2
          exact ⟨_, by first | rfl | (simp [errW_none, errW_some] <;> rfl) | (simp [*, errW_none, errW_some] <;> rfl), by first | exact Kd.R_nil _ _ _ _ _ | exact Kd.N_nil _ _ _ _ _ | exact Kd.V_nil _ _ _ _ _ | exact Kd.Q_nil _ _ _ _ _ | exact Kd.S_nil _ _ _ _ _, by repeat (first | (with_reducible first | exact HB.out | apply below_alloc | apply pw_below_drewN | apply below_drew1 | refine below_set ?_ (IsS74.ge HI531.out)) | exact HB.out)⟩
        · replace c31 := Bool.eq_false_iff.mpr c31
          subst c31
          have H1 : (if (x7_1.length : Int) = a1 then (some (x7_1, true)) else (some (([] : List Int), false))) = some (r1, r2) := by rw [if_neg (show ¬ (false = true) by decide)] at H; exact H
          clear H
          have H := H1
          clear H1
          by_cases c33 : (x7_1.length : Int) = a1
          · rw [if_pos c33] at H
            have c33b0 : ((x7_1.length : Int) == a1) = true := beq_iff_eq.mpr c33
            have c33b1 : ((x7_1.length : Int) != a1) = false := bne_eq_false_iff_eq.mpr c33
            clear c33
            simp only [Option.some.injEq, Prod.mk.injEq] at H
            obtain ⟨rfl, rfl⟩ := H
            obtain ⟨ASz34_0, cSz34_0, HGz34, hgz34, ⟨HSz34_0, _⟩⟩ := HI531.out
            have hcz34_0 := cellS74_0 HGz34
            have hcz34_1 := cellS74_1 HGz34
            have hfz34_0 := blk_frozen HGz34 0
            have hfz34_1 := blk_frozen HGz34 1
            clear HGz34 hgz34
            obtain ⟨Ao35, co35, eo35⟩ := Kd.R_slice HO_7.out
            subst eo35
            go_wp2
            go_ret2
            exact ⟨_, by first | rfl | (simp [errW_none, errW_some] <;> rfl) | (simp [*, errW_none, errW_some] <;> rfl), by (with_reducible repeat (first | apply Kd.R_alloc | apply Kd.R_drewN | apply Kd.R_drew)); exact HO_7.out, by repeat (first | (with_reducible first | exact HB.out | apply below_alloc | apply pw_below_drewN | apply below_drew1 | refine below_set ?_ (IsS74.ge HI531.out)) | exact HB.out)⟩
          · rw [if_neg c33] at H
            have c33b0 : ((x7_1.length : Int) == a1) = false := beq_eq_false_iff_ne.mpr c33
            have c33b1 : ((x7_1.length : Int) != a1) = true := bne_iff_ne.mpr c33
            simp only [Option.some.injEq, Prod.mk.injEq] at H
            obtain ⟨rfl, rfl⟩ := H
            obtain ⟨ASz36_0, cSz36_0, HGz36, hgz36, ⟨HSz36_0, _⟩⟩ := HI531.out
            have hcz36_0 := cellS74_0 HGz36
            have hcz36_1 := cellS74_1 HGz36
            have hfz36_0 := blk_frozen HGz36 0
            have hfz36_1 := blk_frozen HGz36 1
            clear HGz36 hgz36
            obtain ⟨Ao37, co37, eo37⟩ := Kd.R_slice HO_7.out
            subst eo37
            go_wp2
            go_ret2
            exact ⟨_, by first | rfl | (simp [errW_none, errW_some] <;> rfl) | (simp [*, errW_none, errW_some] <;> rfl), by first | exact Kd.R_nil _ _ _ _ _ | exact Kd.N_nil _ _ _ _ _ | exact Kd.V_nil _ _ _ _ _ | exact Kd.Q_nil _ _ _ _ _ | exact Kd.S_nil _ _ _ _ _, by repeat (first | (with_reducible first | exact HB.out | apply below_alloc | apply pw_below_drewN | apply below_drew1 | refine below_set ?_ (IsS74.ge HI531.out)) | exact HB.out)⟩

/-! ### firkinlaw05_RunsGets: function 11 -/
def firkinlaw05_RunsGets.j0 : Nat → List Int → Int → Bool → Option (Bool)
  | 0, _, _, _ => none
  | k + 1, x0, x1, x15 => if x15 = true then ((firkinlaw05_live.f k).bind fun t545 => (some t545)) else ((runs_Get.f k x0 x1).bind fun bt546 => ((firkinref05_Get.f k x0 x1).bind fun bt550 => (if (bt546.2 == bt550.2) = true then ((firkinref05_Same.f k bt546.1 bt550.1).bind fun t554 => (if t554 = true then ((firkinlaw05_live.f k).bind fun t555 => (some t555)) else (some false))) else (some false))))
def firkinlaw05_RunsGets.f (k : Nat) (l0 : List Int) (a1 : Int) : Option (Bool) := if (l0.length : Int) > 400 then (firkinlaw05_RunsGets.j0 k l0 a1 true) else (firkinlaw05_RunsGets.j0 k l0 a1 (decide (a1 > 400)))
theorem firkinlaw05_RunsGets.mono_l : ∀ k, (∀ y0 y1 y2, LeO (firkinlaw05_RunsGets.j0 k y0 y1 y2) (firkinlaw05_RunsGets.j0 (k + 1) y0 y1 y2))
  | 0 => fun _ _ _ r h => by simp [firkinlaw05_RunsGets.j0] at h
  | k + 1 => by
    have ih0 := firkinlaw05_RunsGets.mono_l k
    · intro y0 y1 y2
      unfold firkinlaw05_RunsGets.j0
      repeat' first
      | (with_reducible exact ih0 _ _ _)
      | (with_reducible exact firkinlaw05_live.mono _)
      | (with_reducible exact firkinref05_Get.mono _ _ _)
      | (with_reducible exact firkinref05_Same.mono _ _ _)
      | (with_reducible exact runs_Get.mono _ _ _)
      | (with_reducible exact LeO.refl _)
      | (with_reducible exact LeO.none _)
      | (with_reducible refine LeO.ite ?_ ?_)
      | (with_reducible refine LeO.bind ?_ (fun _ => ?_))
      | exact ih0 _ _ _
      | exact firkinlaw05_live.mono _
      | exact firkinref05_Get.mono _ _ _
      | exact firkinref05_Same.mono _ _ _
      | exact runs_Get.mono _ _ _
      | exact LeO.none _
      | refine LeO.ite ?_ ?_
      | refine LeO.bind ?_ (fun _ => ?_)
theorem firkinlaw05_RunsGets.mono : ∀ a0 a1 k, LeO (firkinlaw05_RunsGets.f k a0 a1) (firkinlaw05_RunsGets.f (k + 1) a0 a1) := by
  intro a0 a1 k
  have ih0 := firkinlaw05_RunsGets.mono_l k
  unfold firkinlaw05_RunsGets.f
  repeat' first
      | (with_reducible exact ih0 _ _ _)
      | (with_reducible exact firkinlaw05_live.mono _)
      | (with_reducible exact firkinref05_Get.mono _ _ _)
      | (with_reducible exact firkinref05_Same.mono _ _ _)
      | (with_reducible exact runs_Get.mono _ _ _)
      | (with_reducible exact LeO.refl _)
      | (with_reducible exact LeO.none _)
      | (with_reducible refine LeO.ite ?_ ?_)
      | (with_reducible refine LeO.bind ?_ (fun _ => ?_))
      | exact ih0 _ _ _
      | exact firkinlaw05_live.mono _
      | exact firkinref05_Get.mono _ _ _
      | exact firkinref05_Same.mono _ _ _
      | exact runs_Get.mono _ _ _
      | exact LeO.none _
      | refine LeO.ite ?_ ?_
      | refine LeO.bind ?_ (fun _ => ?_)
set_option maxHeartbeats 8000000 in
set_option maxRecDepth 100000 in
theorem firkinlaw05_RunsGets.calls (k : Nat) (A0 : Option Addr) (c0 : Nat) (l0 : List Int) (a1 : Int) (r : Bool) (w : World) (hr0 : Kd.C (Kd.int .u8) w A0 l0.length l0) (hc0 : l0.length ≤ c0) (h : firkinlaw05_RunsGets.f k l0 a1 = some r) :
    Calls Try.prog 11 #[.slice A0 l0.length c0, .int .i64 a1] w fun e w' => e = .returned (.bool r) ∧ Below w.heap.size w w' := by
  have HR0 := Aside0.mk hr0
  have HC0 := Aside0.mk hc0
  clear hr0 hc0
  have HB := Aside0.mk (Below.refl w.heap.size w)
  have H : (if (l0.length : Int) > 400 then (firkinlaw05_RunsGets.j0 k l0 a1 true) else (firkinlaw05_RunsGets.j0 k l0 a1 (decide (a1 > 400)))) = some r := h
  clear h
  have HC3 := Aside0.mk H
  clear H
  go_enter Try.func11, Try.ntmps11
  go_upto_region 1 with (fail)
  go_cut [15] (fun v15 wc => ∃ (kq : Nat) (x15_2 : Bool), v15 = .bool x15_2 ∧ Aside0 (firkinlaw05_RunsGets.j0 kq l0 a1 x15_2 = some r) ∧ Aside0 (kq ≤ k) ∧ Aside0 (Below w.heap.size w wc))
  case first =>
    have H := HC3.out
    clear HC3
    by_cases c4 : (l0.length : Int) > 400
    · rw [if_pos c4] at H
      have c4b0 : decide (400 < (l0.length : Int)) = true := decide_eq_true c4
      have c4b1 : decide (400 < l0.length) = true := decide_eq_true (by omega)
      clear c4
      (first | rw [c4b0] | (simp only [i64_w, i32_w]; rw [c4b0]) | skip)
      have H' := Aside0.mk H
      clear H
      go_wp2
      go_meet
      case rel => exact ⟨_, (true), (by first | rfl | (simp; done) | (simp [*]; done)), H', ⟨by first | omega | exact Nat.le_refl _⟩, ⟨by repeat (first | (with_reducible first | exact HB.out | apply below_alloc | apply pw_below_drewN | apply below_drew1) | exact HB.out)⟩⟩
    · rw [if_neg c4] at H
      have c4b0 : decide (400 < (l0.length : Int)) = false := decide_eq_false c4
      have c4b1 : decide (400 < l0.length) = false := decide_eq_false (by omega)
      clear c4
      (first | rw [c4b0] | (simp only [i64_w, i32_w]; rw [c4b0]) | skip)
      have H' := Aside0.mk H
      clear H
      go_wp2
      go_meet
      case rel => exact ⟨_, (decide (a1 > 400)), (by first | rfl | (simp; done) | (simp [*]; done)), H', ⟨by first | omega | exact Nat.le_refl _⟩, ⟨by repeat (first | (with_reducible first | exact HB.out | apply below_alloc | apply pw_below_drewN | apply below_drew1) | exact HB.out)⟩⟩
  case rest =>
    clear HC3
    try clear c1
    try clear p2
    try clear c4
    try clear c4b0
    try clear c4b1
    obtain ⟨kq, x15_2, rfl, HA, HJ2, HB⟩ := hcut
    cases kq with
    | zero => exact absurd HA.out (by simp [firkinlaw05_RunsGets.j0])
    | succ kj2 =>
      have H := HA.out
      clear HA
      simp only [firkinlaw05_RunsGets.j0] at H
      by_cases c5 : x15_2 = true
      · subst c5
        have H1 : ((firkinlaw05_live.f kj2).bind fun t545 => (some t545)) = some r := by rw [if_pos rfl] at H; exact H
        clear H
        have H := H1
        clear H1
        replace H := Option.bind_eq_some_iff.mp H
        obtain ⟨t545, A60, H⟩ := H
        replace H : (some t545) = some r := H
        have A6 := Aside0.mk A60
        clear A60
        obtain rfl := Option.some.inj H
        go_wp2_with (first | ((with_reducible refine gate_callee (f := 35) rfl ?_); refine goesL_ (some 16) rfl rfl Try.func35 (by kernel_rfl) rfl #[] rfl (by (try simp only [List.map_toArray, List.map_cons, List.map_nil]); first | done | rfl | (simp only [List.length_drop, List.length_take]; rfl)) ?_; (with_reducible refine (firkinlaw05_live.calls kj2  t545 _ A6.out).mono ?_); rintro e w7 ⟨rfl, hb⟩; refine ⟨_, rfl, ?_⟩; have n0_ := Aside0.mk (below_step (by repeat (first | (with_reducible first | exact HB.out | apply below_alloc | apply pw_below_drewN | apply below_drew1) | exact HB.out)) hb); clear HB; have HB := n0_; clear n0_; (try clear hb); (try clear hb2); (try clear hk); (try clear hi)))
        go_ret
        exact ⟨by first | rfl | (simp [errW_none, errW_some] <;> rfl) | (simp [*, errW_none, errW_some] <;> rfl), by repeat (first | (with_reducible first | exact HB.out | apply below_alloc | apply pw_below_drewN | apply below_drew1) | exact HB.out)⟩
      · replace c5 := Bool.eq_false_iff.mpr c5
        subst c5
        have H1 : ((runs_Get.f kj2 l0 a1).bind fun bt546 => ((firkinref05_Get.f kj2 l0 a1).bind fun bt550 => (if (bt546.2 == bt550.2) = true then ((firkinref05_Same.f kj2 bt546.1 bt550.1).bind fun t554 => (if t554 = true then ((firkinlaw05_live.f kj2).bind fun t555 => (some t555)) else (some false))) else (some false)))) = some r := by rw [if_neg (show ¬ (false = true) by decide)] at H; exact H
        clear H
        have H := H1
        clear H1
        replace H := Option.bind_eq_some_iff.mp H
        obtain ⟨⟨t546, t547⟩, A80, H⟩ := H
        replace H : ((firkinref05_Get.f kj2 l0 a1).bind fun bt550 => (if (t547 == bt550.2) = true then ((firkinref05_Same.f kj2 t546 bt550.1).bind fun t554 => (if t554 = true then ((firkinlaw05_live.f kj2).bind fun t555 => (some t555)) else (some false))) else (some false))) = some r := H
        have A8 := Aside0.mk A80
        clear A80
        replace H := Option.bind_eq_some_iff.mp H
        obtain ⟨⟨t550, t551⟩, A90, H⟩ := H
        replace H : (if (t547 == t551) = true then ((firkinref05_Same.f kj2 t546 t550).bind fun t554 => (if t554 = true then ((firkinlaw05_live.f kj2).bind fun t555 => (some t555)) else (some false))) else (some false)) = some r := H
        have A9 := Aside0.mk A90
        clear A90
        by_cases c10 : (t547 == t551) = true
        · rw [if_pos c10] at H
          have c10b0 : (t547 == t551) = true := c10
          (try (have c10b1 : decide (t547 = t551) = true := by simpa using c10))
          (try (have c10b2 : (t547 == t551) = true := by simpa using c10))
          clear c10
          replace H := Option.bind_eq_some_iff.mp H
          obtain ⟨t554, A110, H⟩ := H
          replace H : (if t554 = true then ((firkinlaw05_live.f kj2).bind fun t555 => (some t555)) else (some false)) = some r := H
          have A11 := Aside0.mk A110
          clear A110
          by_cases c12 : t554 = true
          · subst c12
            have H1 : ((firkinlaw05_live.f kj2).bind fun t555 => (some t555)) = some r := by rw [if_pos rfl] at H; exact H
            clear H
            have H := H1
            clear H1
            replace H := Option.bind_eq_some_iff.mp H
            obtain ⟨t555, A130, H⟩ := H
            replace H : (some t555) = some r := H
            have A13 := Aside0.mk A130
            clear A130
            obtain rfl := Option.some.inj H
            go_wp2_with (first | ((with_reducible refine gate_callee (f := 37) rfl ?_); refine goesL_ (some 20) rfl rfl Try.func37 (by kernel_rfl) rfl #[.slice A0 l0.length c0, .int .i64 a1] rfl (by (try simp only [List.map_toArray, List.map_cons, List.map_nil]); first | done | rfl | (simp only [List.length_drop, List.length_take]; rfl)) ?_; (with_reducible refine (runs_Get.calls kj2 _ _ l0 a1 t546 t547 _ ?side1 ?side2 A8.out).mono ?_); (case side1 => repeat (first | exact (Kd.C_below HR0.out HB.out) | (with_reducible refine Kd.C_alloc ?_ _) | (with_reducible refine Kd.C_drewN ?_ _) | (with_reducible refine Kd.C_drew ?_))); (case side2 => exact HC0.out); rintro e w14 ⟨v548, rfl, ho0, hb⟩; refine ⟨_, rfl, ?_⟩; have n0_ := Aside0.mk (Kd.R_lower ho0 (below_size (by repeat (first | (with_reducible first | exact HB.out | apply below_alloc | apply pw_below_drewN | apply below_drew1) | exact HB.out)))); have n1_ := Aside0.mk (below_step (by repeat (first | (with_reducible first | exact HB.out | apply below_alloc | apply pw_below_drewN | apply below_drew1) | exact HB.out)) hb); clear HB; have HO549 := n0_; have HB := n1_; clear n0_ n1_; (try clear hb); (try clear hb2); (try clear hk); (try clear hi); (try clear ho0)) | ((with_reducible refine gate_callee (f := 40) rfl ?_); refine goesL_ (some 26) rfl rfl Try.func40 (by kernel_rfl) rfl #[.slice A0 l0.length c0, .int .i64 a1] rfl (by (try simp only [List.map_toArray, List.map_cons, List.map_nil]); first | done | rfl | (simp only [List.length_drop, List.length_take]; rfl)) ?_; (with_reducible refine (firkinref05_Get.calls kj2 _ _ l0 a1 t550 t551 _ ?side1 ?side2 A9.out).mono ?_); (case side1 => repeat (first | exact (Kd.C_below HR0.out HB.out) | (with_reducible refine Kd.C_alloc ?_ _) | (with_reducible refine Kd.C_drewN ?_ _) | (with_reducible refine Kd.C_drew ?_))); (case side2 => exact HC0.out); rintro e w15 ⟨v552, rfl, ho0, hb⟩; refine ⟨_, rfl, ?_⟩; have n0_ := Aside0.mk (Kd.R_elder' (by (with_reducible repeat (first | apply Kd.R_alloc | apply Kd.R_drewN | apply Kd.R_drew)); exact HO549.out) (Kd.R_base ho0) hb); have n1_ := Aside0.mk (Kd.R_lower (Kd.R_new' ho0 (Kd.R_lt (by (with_reducible repeat (first | apply Kd.R_alloc | apply Kd.R_drewN | apply Kd.R_drew)); exact HO549.out))) (below_size (by repeat (first | (with_reducible first | exact HB.out | apply below_alloc | apply pw_below_drewN | apply below_drew1) | exact HB.out)))); have n2_ := Aside0.mk (below_step (by repeat (first | (with_reducible first | exact HB.out | apply below_alloc | apply pw_below_drewN | apply below_drew1) | exact HB.out)) hb); clear HO549; clear HB; have HO549 := n0_; have HO553 := n1_; have HB := n2_; clear n0_ n1_ n2_; (try clear hb); (try clear hb2); (try clear hk); (try clear hi); (try clear ho0); obtain ⟨Ao16, co16, eo16⟩ := Kd.R_slice HO549.out; subst eo16; obtain ⟨Ao17, co17, eo17⟩ := Kd.R_slice HO553.out; subst eo17) | (go_at_call 39; (with_reducible refine (firkinref05_Same.calls kj2 _ _ t546 _ _ t550 true _ ?side1 ?side2 ?side3 ?side4 A11.out).mono ?_); (case side1 => repeat (first | exact (Kd.R_reads' HO549.out).2.2 | (with_reducible refine Kd.C_alloc ?_ _) | (with_reducible refine Kd.C_drewN ?_ _) | (with_reducible refine Kd.C_drew ?_))); (case side2 => exact (Kd.R_reads' HO549.out).2.1); (case side3 => repeat (first | exact (Kd.R_reads' HO553.out).2.2 | (with_reducible refine Kd.C_alloc ?_ _) | (with_reducible refine Kd.C_drewN ?_ _) | (with_reducible refine Kd.C_drew ?_))); (case side4 => exact (Kd.R_reads' HO553.out).2.1); rintro e w' ⟨rfl, ⟨nd, rfl⟩⟩) | (go_at_call 35; (with_reducible refine (firkinlaw05_live.calls kj2  t555 _ A13.out).mono ?_); rintro e w18 ⟨rfl, hb⟩; have n0_ := Aside0.mk (Kd.R_below (by (with_reducible repeat (first | apply Kd.R_alloc | apply Kd.R_drewN | apply Kd.R_drew)); exact HO549.out) hb); have n1_ := Aside0.mk (Kd.R_below (by (with_reducible repeat (first | apply Kd.R_alloc | apply Kd.R_drewN | apply Kd.R_drew)); exact HO553.out) hb); have n2_ := Aside0.mk (below_step (by repeat (first | (with_reducible first | exact HB.out | apply below_alloc | apply pw_below_drewN | apply below_drew1) | exact HB.out)) hb); clear HO549; clear HO553; clear HB; have HO549 := n0_; have HO553 := n1_; have HB := n2_; clear n0_ n1_ n2_; (try clear hb); (try clear hb2); (try clear hk); (try clear hi); (try clear A13)))
            go_ret
            exact ⟨by first | rfl | (simp [errW_none, errW_some] <;> rfl) | (simp [*, errW_none, errW_some] <;> rfl), by repeat (first | (with_reducible first | exact HB.out | apply below_alloc | apply pw_below_drewN | apply below_drew1) | exact HB.out)⟩
          · replace c12 := Bool.eq_false_iff.mpr c12
            subst c12
            have H1 : (some false) = some r := by rw [if_neg (show ¬ (false = true) by decide)] at H; exact H
            clear H
            have H := H1
            clear H1
            obtain rfl := Option.some.inj H
            go_wp2_with (first | ((with_reducible refine gate_callee (f := 37) rfl ?_); refine goesL_ (some 20) rfl rfl Try.func37 (by kernel_rfl) rfl #[.slice A0 l0.length c0, .int .i64 a1] rfl (by (try simp only [List.map_toArray, List.map_cons, List.map_nil]); first | done | rfl | (simp only [List.length_drop, List.length_take]; rfl)) ?_; (with_reducible refine (runs_Get.calls kj2 _ _ l0 a1 t546 t547 _ ?side1 ?side2 A8.out).mono ?_); (case side1 => repeat (first | exact (Kd.C_below HR0.out HB.out) | (with_reducible refine Kd.C_alloc ?_ _) | (with_reducible refine Kd.C_drewN ?_ _) | (with_reducible refine Kd.C_drew ?_))); (case side2 => exact HC0.out); rintro e w19 ⟨v548, rfl, ho0, hb⟩; refine ⟨_, rfl, ?_⟩; have n0_ := Aside0.mk (Kd.R_lower ho0 (below_size (by repeat (first | (with_reducible first | exact HB.out | apply below_alloc | apply pw_below_drewN | apply below_drew1) | exact HB.out)))); have n1_ := Aside0.mk (below_step (by repeat (first | (with_reducible first | exact HB.out | apply below_alloc | apply pw_below_drewN | apply below_drew1) | exact HB.out)) hb); clear HB; have HO549 := n0_; have HB := n1_; clear n0_ n1_; (try clear hb); (try clear hb2); (try clear hk); (try clear hi); (try clear ho0)) | ((with_reducible refine gate_callee (f := 40) rfl ?_); refine goesL_ (some 26) rfl rfl Try.func40 (by kernel_rfl) rfl #[.slice A0 l0.length c0, .int .i64 a1] rfl (by (try simp only [List.map_toArray, List.map_cons, List.map_nil]); first | done | rfl | (simp only [List.length_drop, List.length_take]; rfl)) ?_; (with_reducible refine (firkinref05_Get.calls kj2 _ _ l0 a1 t550 t551 _ ?side1 ?side2 A9.out).mono ?_); (case side1 => repeat (first | exact (Kd.C_below HR0.out HB.out) | (with_reducible refine Kd.C_alloc ?_ _) | (with_reducible refine Kd.C_drewN ?_ _) | (with_reducible refine Kd.C_drew ?_))); (case side2 => exact HC0.out); rintro e w20 ⟨v552, rfl, ho0, hb⟩; refine ⟨_, rfl, ?_⟩; have n0_ := Aside0.mk (Kd.R_elder' (by (with_reducible repeat (first | apply Kd.R_alloc | apply Kd.R_drewN | apply Kd.R_drew)); exact HO549.out) (Kd.R_base ho0) hb); have n1_ := Aside0.mk (Kd.R_lower (Kd.R_new' ho0 (Kd.R_lt (by (with_reducible repeat (first | apply Kd.R_alloc | apply Kd.R_drewN | apply Kd.R_drew)); exact HO549.out))) (below_size (by repeat (first | (with_reducible first | exact HB.out | apply below_alloc | apply pw_below_drewN | apply below_drew1) | exact HB.out)))); have n2_ := Aside0.mk (below_step (by repeat (first | (with_reducible first | exact HB.out | apply below_alloc | apply pw_below_drewN | apply below_drew1) | exact HB.out)) hb); clear HO549; clear HB; have HO549 := n0_; have HO553 := n1_; have HB := n2_; clear n0_ n1_ n2_; (try clear hb); (try clear hb2); (try clear hk); (try clear hi); (try clear ho0); obtain ⟨Ao21, co21, eo21⟩ := Kd.R_slice HO549.out; subst eo21; obtain ⟨Ao22, co22, eo22⟩ := Kd.R_slice HO553.out; subst eo22) | (go_at_call 39; (with_reducible refine (firkinref05_Same.calls kj2 _ _ t546 _ _ t550 false _ ?side1 ?side2 ?side3 ?side4 A11.out).mono ?_); (case side1 => repeat (first | exact (Kd.R_reads' HO549.out).2.2 | (with_reducible refine Kd.C_alloc ?_ _) | (with_reducible refine Kd.C_drewN ?_ _) | (with_reducible refine Kd.C_drew ?_))); (case side2 => exact (Kd.R_reads' HO549.out).2.1); (case side3 => repeat (first | exact (Kd.R_reads' HO553.out).2.2 | (with_reducible refine Kd.C_alloc ?_ _) | (with_reducible refine Kd.C_drewN ?_ _) | (with_reducible refine Kd.C_drew ?_))); (case side4 => exact (Kd.R_reads' HO553.out).2.1); rintro e w' ⟨rfl, ⟨nd, rfl⟩⟩))
            go_ret
            exact ⟨by first | rfl | (simp [errW_none, errW_some] <;> rfl) | (simp [*, errW_none, errW_some] <;> rfl), by repeat (first | (with_reducible first | exact HB.out | apply below_alloc | apply pw_below_drewN | apply below_drew1) | exact HB.out)⟩
        · rw [if_neg c10] at H
          have c10b0 : (t547 == t551) = false := by simpa using c10
          (try (have c10b1 : decide (t547 = t551) = false := by simpa using c10))
          (try (have c10b2 : (t547 == t551) = false := by simpa using c10))
          (try (have c10b3 : ¬ (t547 = t551) := by simpa using c10))
          clear c10
          obtain rfl := Option.some.inj H
          go_wp2_with (first | ((with_reducible refine gate_callee (f := 37) rfl ?_); refine goesL_ (some 20) rfl rfl Try.func37 (by kernel_rfl) rfl #[.slice A0 l0.length c0, .int .i64 a1] rfl (by (try simp only [List.map_toArray, List.map_cons, List.map_nil]); first | done | rfl | (simp only [List.length_drop, List.length_take]; rfl)) ?_; (with_reducible refine (runs_Get.calls kj2 _ _ l0 a1 t546 t547 _ ?side1 ?side2 A8.out).mono ?_); (case side1 => repeat (first | exact (Kd.C_below HR0.out HB.out) | (with_reducible refine Kd.C_alloc ?_ _) | (with_reducible refine Kd.C_drewN ?_ _) | (with_reducible refine Kd.C_drew ?_))); (case side2 => exact HC0.out); rintro e w23 ⟨v548, rfl, ho0, hb⟩; refine ⟨_, rfl, ?_⟩; have n0_ := Aside0.mk (Kd.R_lower ho0 (below_size (by repeat (first | (with_reducible first | exact HB.out | apply below_alloc | apply pw_below_drewN | apply below_drew1) | exact HB.out)))); have n1_ := Aside0.mk (below_step (by repeat (first | (with_reducible first | exact HB.out | apply below_alloc | apply pw_below_drewN | apply below_drew1) | exact HB.out)) hb); clear HB; have HO549 := n0_; have HB := n1_; clear n0_ n1_; (try clear hb); (try clear hb2); (try clear hk); (try clear hi); (try clear ho0)) | ((with_reducible refine gate_callee (f := 40) rfl ?_); refine goesL_ (some 26) rfl rfl Try.func40 (by kernel_rfl) rfl #[.slice A0 l0.length c0, .int .i64 a1] rfl (by (try simp only [List.map_toArray, List.map_cons, List.map_nil]); first | done | rfl | (simp only [List.length_drop, List.length_take]; rfl)) ?_; (with_reducible refine (firkinref05_Get.calls kj2 _ _ l0 a1 t550 t551 _ ?side1 ?side2 A9.out).mono ?_); (case side1 => repeat (first | exact (Kd.C_below HR0.out HB.out) | (with_reducible refine Kd.C_alloc ?_ _) | (with_reducible refine Kd.C_drewN ?_ _) | (with_reducible refine Kd.C_drew ?_))); (case side2 => exact HC0.out); rintro e w24 ⟨v552, rfl, ho0, hb⟩; refine ⟨_, rfl, ?_⟩; have n0_ := Aside0.mk (Kd.R_elder' (by (with_reducible repeat (first | apply Kd.R_alloc | apply Kd.R_drewN | apply Kd.R_drew)); exact HO549.out) (Kd.R_base ho0) hb); have n1_ := Aside0.mk (Kd.R_lower (Kd.R_new' ho0 (Kd.R_lt (by (with_reducible repeat (first | apply Kd.R_alloc | apply Kd.R_drewN | apply Kd.R_drew)); exact HO549.out))) (below_size (by repeat (first | (with_reducible first | exact HB.out | apply below_alloc | apply pw_below_drewN | apply below_drew1) | exact HB.out)))); have n2_ := Aside0.mk (below_step (by repeat (first | (with_reducible first | exact HB.out | apply below_alloc | apply pw_below_drewN | apply below_drew1) | exact HB.out)) hb); clear HO549; clear HB; have HO549 := n0_; have HO553 := n1_; have HB := n2_; clear n0_ n1_ n2_; (try clear hb); (try clear hb2); (try clear hk); (try clear hi); (try clear ho0)))
          go_ret
          exact ⟨by first | rfl | (simp [errW_none, errW_some] <;> rfl) | (simp [*, errW_none, errW_some] <;> rfl), by repeat (first | (with_reducible first | exact HB.out | apply below_alloc | apply pw_below_drewN | apply below_drew1) | exact HB.out)⟩

end Go.Proofs.Ythcmokglgepgjaa.X
/- Plain facts on layer 5 (runs): numbers as runs, written and read. -/
namespace Go.Proofs.Ythcmokglgepgjaa.Runs
open Go Go.RowKit Go.Proofs.Ythcmokglgepgjaa.X Go.Proofs.Ythcmokglgepgjaa.Dec Go.Proofs.Ythcmokglgepgjaa.Enc Go.Proofs.Ythcmokglgepgjaa.Round Go.Proofs.Ythcmokglgepgjaa.Read Go.Proofs.YthcmokglgepgjaaW.PrintWords Go.Proofs.YthcmokglgepgjaaW.PrintLast Go.Proofs.YthcmokglgepgjaaW.PrintMore
set_option linter.unusedVariables false
set_option linter.unusedSimpArgs false
def I64 (x : Int) : Prop := -9223372036854775808 ≤ x ∧ x < 9223372036854775808
theorem i64_bounds {x : Int} (h : (Lit.int .i64 x).wf = true) : I64 x := by
  have h' : (decide ((-9223372036854775808 : Int) ≤ x) && decide (x ≤ 9223372036854775807)) = true := h
  rw [Bool.and_eq_true, decide_eq_true_eq, decide_eq_true_eq] at h'
  exact ⟨h'.1, by omega⟩
/-- How many numbers at a list's beginning are x. -/
def pre (x : Int) : List Int → Nat
  | [] => 0
  | y :: l => if y = x then pre x l + 1 else 0
theorem pre_le (x : Int) (l : List Int) : pre x l ≤ l.length := by
  induction l with
  | nil => simp [pre]
  | cons y l ih => rw [pre]; split <;> simp <;> omega
theorem pre_get (x : Int) (l : List Int) : ∀ i, i < pre x l → l.getD i 0 = x := by
  induction l with
  | nil => intro i h; simp [pre] at h
  | cons y l ih =>
    intro i h
    rw [pre] at h
    split at h
    · rename_i hy
      cases i with
      | zero => simp [hy]
      | succ i => have := ih i (by omega); simpa using this
    · omega
theorem pre_end (x : Int) (l : List Int) : pre x l < l.length → l.getD (pre x l) 0 ≠ x := by
  induction l with
  | nil => intro h; simp at h
  | cons y l ih =>
    intro h
    rw [pre] at h ⊢
    split at h
    · rename_i hy
      rw [if_pos hy]
      have := ih (by simp at h; omega)
      simpa using this
    · rename_i hy
      rw [if_neg hy]
      simpa using hy
theorem pre_split (x : Int) (l : List Int) : l = List.replicate (pre x l) x ++ l.drop (pre x l) := by
  induction l with
  | nil => rfl
  | cons y l ih =>
    rw [pre]
    split
    · rename_i hy; subst hy; rw [List.replicate_succ, List.drop_succ_cons, List.cons_append, ← ih]
    · simp
theorem pre_head (x : Int) (l : List Int) : (l.drop (pre x l)).head? ≠ some x := by
  induction l with
  | nil => simp
  | cons y l ih =>
    rw [pre]
    split
    · rw [List.drop_succ_cons]; exact ih
    · rename_i hy; simpa using hy
theorem pre_rep (x : Int) (k : Nat) (l : List Int) (h : l.head? ≠ some x) : pre x (List.replicate k x ++ l) = k := by
  induction k with
  | zero =>
    cases l with
    | nil => rfl
    | cons y l => rw [List.replicate_zero, List.nil_append, pre, if_neg (by simpa using h)]
  | succ k ih => rw [List.replicate_succ, List.cons_append, pre, if_pos rfl, ih]
/-- The bytes of runs. -/
def rbs : Nat → List Int → List Int
  | 0, _ => []
  | _ + 1, [] => []
  | f + 1, x :: l => enc (pre x l) ++ (enc (zig x) ++ rbs f (l.drop (pre x l)))
theorem rbs_nil (f : Nat) : rbs f [] = [] := by cases f <;> rfl
theorem enc_len (n : Nat) (h : n < 18446744073709551616) : (enc n).length ≤ 10 := by
  have : (enc n).length = grp n := encL_length _ _
  rw [this]; exact grp_le h
theorem rbs_le (f : Nat) : ∀ l, l.length ≤ f → l.length < 1000000 → (∀ x ∈ l, I64 x) → (rbs f l).length ≤ 20 * l.length := by
  induction f with
  | zero => intro l h _ _; simp [rbs]
  | succ f ih =>
    intro l h h2 h3
    cases l with
    | nil => simp [rbs]
    | cons x l =>
      rw [rbs, List.length_append, List.length_append, List.length_cons]
      have hp := pre_le x l
      have hx := h3 x (List.mem_cons_self ..)
      have h4 := enc_len (pre x l) (by simp at h2; omega)
      have h5 := enc_len (zig x) (zig_lt hx.1 hx.2)
      have h6 := ih (l.drop (pre x l)) (by rw [List.length_drop]; simp at h; omega) (by rw [List.length_drop]; simp at h2; omega) (fun y hy => h3 y (List.mem_cons_of_mem _ (List.mem_of_mem_drop hy)))
      rw [List.length_drop] at h6
      omega
theorem enc_pos (n : Nat) : 1 ≤ (enc n).length := by
  have : (enc n).length = grp n := encL_length _ _
  rw [this]; unfold grp; omega
/-- A run that bytes begin with, shorter than m. -/
def pair (l : List Int) (m : Int) : Option (Nat × Int × List Int) :=
  if (gInt (gBelow l false m).2.1 (gBelow l false m).2.2).2.2 = true then none else some ((gBelow l false m).1.toNat, (gInt (gBelow l false m).2.1 (gBelow l false m).2.2).1, (gInt (gBelow l false m).2.1 (gBelow l false m).2.2).2.1)
theorem gNum_back {l : List Int} (h : GoodS l false) (hb : (gNum l false).2.2 = false) : enc (gNum l false).1.toNat ++ (gNum l false).2.1 = l ∧ (gNum l false).2.1.length < l.length := by
  unfold gNum at hb ⊢
  split at hb
  · cases hb
  · rename_i hn
    rw [if_neg hn]
    simp only [not_or] at hn
    have he := enc_num h.1.1 hn.2
    simp only [Int.toNat_natCast]
    rw [he, List.take_append_drop]
    have := (szS_le l 0 (by decide)).1
    rw [List.length_drop]
    exact ⟨rfl, by omega⟩
theorem gNum_bad (l : List Int) : (gNum l true).2.2 = true := by unfold gNum; rw [if_pos (Or.inl rfl)]
theorem pair_some {l : List Int} (h : GoodS l false) {m : Int} {k : Nat} {x : Int} {l2 : List Int} (hp : pair l m = some (k, x, l2)) :
    enc k ++ (enc (zig x) ++ l2) = l ∧ (k : Int) < m ∧ l2.length < l.length ∧ GoodS l2 false ∧ I64 x ∧ gBelow l false m = ((k : Int), (gNum l false).2.1, false) ∧ gInt (gNum l false).2.1 false = (x, l2, false) := by
  unfold pair at hp
  split at hp
  · cases hp
  · rename_i hb
    simp only [Option.some.injEq, Prod.mk.injEq] at hp
    have hb2 : (gBelow l false m).2.2 = false := by
      cases hq : (gBelow l false m).2.2 with
      | false => rfl
      | true => rw [hq] at hb; exact absurd (show (gInt (gBelow l false m).2.1 true).2.2 = true from gNum_bad (gBelow l false m).2.1) hb
    have hgb := gBelow_good h m
    unfold gBelow at hb2
    split at hb2
    · cases hb2
    · rename_i hn
      have hg : gBelow l false m = gNum l false := by unfold gBelow; rw [if_neg hn]
      rw [hg] at hp hb hgb
      simp only [not_or] at hn
      have hr := gNum_range h
      rw [hb2] at hp hb hgb
      obtain ⟨e1, e2⟩ := gNum_back h hb2
      have hb3 : (gNum (gNum l false).2.1 false).2.2 = false := by
        cases hq : (gNum (gNum l false).2.1 false).2.2 with
        | false => rfl
        | true => exact absurd hq hb
      obtain ⟨e3, e4⟩ := gNum_back hgb hb3
      have hr2 := gNum_range hgb
      obtain ⟨rfl, rfl, rfl⟩ := hp
      have hgg := gNum_good hgb
      refine ⟨?_, by omega, ?_, ?_, ?_, ?_, ?_⟩
      · show enc _ ++ (enc (zig (zag _)) ++ (gNum (gNum l false).2.1 false).2.1) = l
        rw [zig_zag, e3, e1]
      · show (gNum (gNum l false).2.1 false).2.1.length < _; omega
      · show GoodS (gNum (gNum l false).2.1 false).2.1 false
        rw [hb3] at hgg; exact hgg
      · exact zag_range (by omega)
      · rw [hg]
        exact Prod.ext (Int.toNat_of_nonneg hr.1).symm (Prod.ext rfl hb2)
      · exact Prod.ext rfl (Prod.ext rfl hb3)
theorem pair_enc {k : Nat} {x m : Int} (hk : (k : Int) < m) (hm : m < 9223372036854775808) (hx : I64 x) (r : List Int) : pair (enc k ++ (enc (zig x) ++ r)) m = some (k, x, r) := by
  unfold pair
  simp only [gBelow_enc hk hm]
  rw [gInt_enc hx.1 hx.2]
  rfl
/-- The numbers that bytes are, so many of them, none of the first run being prev. -/
def R : Nat → Option Int → Int → List Int → Option (List Int)
  | 0, _, _, _ => none
  | f + 1, prev, rem, l => if l = [] then (if rem = 0 then some [] else none) else match pair l rem with
    | none => none
    | some (k, x, l2) => if prev = some x then none else (R f (some x) (rem - (k + 1)) l2).map (List.replicate (k + 1) x ++ ·)
theorem R_back (f : Nat) : ∀ prev rem l y, GoodS l false → R f prev rem l = some y → (y.length : Int) = rem ∧ (∀ x, prev = some x → y.head? ≠ some x) ∧ ∀ g, y.length ≤ g → rbs g y = l := by
  induction f with
  | zero => intro prev rem l y _ h; cases h
  | succ f ih =>
    intro prev rem l y hg h
    rw [R] at h
    split at h
    · rename_i hl
      split at h
      · rename_i hr
        obtain rfl := Option.some.inj h
        exact ⟨by simp [hr], fun x _ => by simp, fun g _ => by rw [rbs_nil, hl]⟩
      · cases h
    · cases hp : pair l rem with
      | none => rw [hp] at h; cases h
      | some q =>
        obtain ⟨k, x, l2⟩ := q
        rw [hp] at h
        simp only at h
        split at h
        · cases h
        · rename_i hx
          obtain ⟨y2, h2, rfl⟩ := Option.map_eq_some_iff.mp h
          obtain ⟨p1, p2, p3, p4, p5, _, _⟩ := pair_some hg hp
          obtain ⟨q1, q2, q3⟩ := ih _ _ _ _ p4 h2
          refine ⟨by rw [List.length_append, List.length_replicate]; omega, fun z hz => ?_, fun g hgl => ?_⟩
          · rw [List.replicate_succ, List.cons_append, List.head?_cons]
            intro he
            exact hx (by rw [hz, ← he])
          · rw [List.length_append, List.length_replicate] at hgl
            obtain ⟨g, rfl⟩ : ∃ m, g = m + 1 := ⟨g - 1, by omega⟩
            rw [List.replicate_succ, List.cons_append, rbs, pre_rep _ _ _ (q2 x rfl), List.drop_left' (by simp), q3 g (by omega), p1]
theorem R_rbs (g : Nat) : ∀ f prev l, l.length ≤ g → l.length < 1000000 → (∀ x ∈ l, I64 x) → (∀ x, prev = some x → l.head? ≠ some x) → (rbs g l).length < f → R f prev (l.length : Int) (rbs g l) = some l := by
  induction g with
  | zero =>
    intro f prev l h _ _ _ hf
    obtain rfl := List.eq_nil_of_length_eq_zero (Nat.le_zero.mp h)
    obtain ⟨f, rfl⟩ : ∃ m, f = m + 1 := ⟨f - 1, by omega⟩
    rfl
  | succ g ih =>
    intro f prev l h h2 h3 h4 hf
    obtain ⟨f, rfl⟩ : ∃ m, f = m + 1 := ⟨f - 1, by omega⟩
    cases l with
    | nil => rfl
    | cons x l =>
      have hp := pre_le x l
      have hx := h3 x (List.mem_cons_self ..)
      have he := enc_pos (pre x l)
      rw [rbs] at hf ⊢
      rw [List.length_append, List.length_append] at hf
      have hne : enc (pre x l) ++ (enc (zig x) ++ rbs g (l.drop (pre x l))) ≠ [] := by
        intro h0
        have := congrArg List.length h0
        rw [List.length_append, List.length_nil] at this
        omega
      have hlen : (l.drop (pre x l)).length = l.length - pre x l := List.length_drop ..
      have hrem : (((x :: l).length : Nat) : Int) - ((pre x l : Nat) + 1) = ((l.drop (pre x l)).length : Int) := by rw [hlen, List.length_cons]; omega
      rw [R, if_neg hne, pair_enc (by rw [List.length_cons]; omega) (by simp at h2 ⊢; omega) hx]
      simp only
      rw [if_neg (fun e => h4 x e rfl), hrem, ih f (some x) _ (by rw [hlen]; simp at h; omega) (by rw [hlen]; simp at h2; omega) (fun y hy => h3 y (List.mem_cons_of_mem _ (List.mem_of_mem_drop hy))) (fun z hz => by cases hz; exact pre_head x l) (by omega)]
      simp only [Option.map_some, List.replicate_succ, List.cons_append]
      rw [← pre_split]
theorem R_uniq (f : Nat) : ∀ f' prev rem rem' l y z, GoodS l false → rem < 1000000 → rem' < 1000000 → R f prev rem l = some y → R f' prev rem' l = some z → y = z := by
  induction f with
  | zero => intro f' prev rem rem' l y z _ _ _ h; cases h
  | succ f ih =>
    intro f' prev rem rem' l y z hg hr1 hr2 h h'
    cases f' with
    | zero => cases h'
    | succ f' =>
    rw [R] at h h'
    by_cases hl : l = []
    · rw [if_pos hl] at h h'
      split at h
      · split at h'
        · rw [← Option.some.inj h, ← Option.some.inj h']
        · cases h'
      · cases h
    · rw [if_neg hl] at h h'
      cases hp : pair l rem with
      | none => rw [hp] at h; cases h
      | some q =>
        cases hp' : pair l rem' with
        | none => rw [hp'] at h'; cases h'
        | some q' =>
          obtain ⟨k, x, l2⟩ := q
          obtain ⟨k', x', l2'⟩ := q'
          rw [hp] at h
          rw [hp'] at h'
          obtain ⟨p1, p2, p3, p4, p5, p6, p7⟩ := pair_some hg hp
          obtain ⟨p1', p2', p3', p4', p5', p6', p7'⟩ := pair_some hg hp'
          rw [p7] at p7'
          simp only [Prod.mk.injEq] at p7'
          obtain ⟨rfl, rfl, _⟩ := p7'
          have hk : pair l 1000000 = some (k, x, l2) := by rw [← p1]; exact pair_enc (by omega) (by decide) p5 _
          have hk' : pair l 1000000 = some (k', x, l2) := by rw [← p1']; exact pair_enc (by omega) (by decide) p5 _
          rw [hk] at hk'
          simp only [Option.some.injEq, Prod.mk.injEq] at hk'
          obtain ⟨rfl, _⟩ := hk'
          simp only at h h'
          split at h
          · cases h
          · rename_i hx
            rw [if_neg hx] at h'
            obtain ⟨y2, h2, rfl⟩ := Option.map_eq_some_iff.mp h
            obtain ⟨z2, h2', rfl⟩ := Option.map_eq_some_iff.mp h'
            rw [ih _ _ _ _ _ _ _ p4 (by omega) (by omega) h2 h2']
def res (acc : List Int) : Option (List Int) → List Int × Bool
  | none => ([], false)
  | some y => (acc ++ y, true)
def Prev (prev : Option Int) (out : List Int) : Prop := (prev = none ∧ out = []) ∨ ∃ o y, out = o ++ [y] ∧ prev = some y
theorem Prev.rep (out : List Int) (k : Nat) (x : Int) : Prev (some x) (out ++ List.replicate (k + 1) x) := .inr ⟨out ++ List.replicate k x, x, by rw [List.replicate_succ', List.append_assoc], rfl⟩
theorem rd_last (o : List Int) (y : Int) (h : o.length < 100000) : wrap64 (((o ++ [y]).length : Int) - 1) = (o.length : Int) ∧ rd (o ++ [y]) (o.length : Int) = y := by
  refine ⟨?_, ?_⟩
  · rw [List.length_append, List.length_singleton, w64 (by omega) (by omega)]; omega
  · rw [rd_nat, List.getD_eq_getElem?_getD]; simp
theorem res_step (out : List Int) (k : Nat) (x : Int) (q : Option (List Int)) : res (out ++ List.replicate (k + 1) x) q = res out (q.map (List.replicate (k + 1) x ++ ·)) := by
  cases q with
  | none => rfl
  | some y => simp [res]
theorem get_loop (n : Int) (hn : n ≤ 4096) (hn2 : -9223372036854775808 ≤ n) (K : Nat) : ∀ out l prev, GoodS l false → l.length < K → Prev prev out → ((out.length : Int) ≤ n ∨ out = []) → runs_Get.l0 K n out l false = some (res out (R K prev (n - (out.length : Int)) l)) := by
  induction K with
  | zero => intro out l prev _ h; omega
  | succ K ih =>
    intro out l prev hg hl hp ho
    have hol : (out.length : Int) ≤ 4096 ∧ (out.length : Int) ≤ 0 ∨ (out.length : Int) ≤ n := by
      rcases ho with h | h
      · exact .inr h
      · exact .inl (by rw [h]; simp)
    rw [runs_Get.l0, left_g hg, Option.bind_some, R]
    by_cases hl0 : l = []
    · rw [if_neg (by rw [hl0]; simp), if_pos hl0]
      by_cases hr : n - (out.length : Int) = 0
      · rw [if_pos hr, if_neg (by simp; omega), res, List.append_nil]
      · rw [if_neg hr, if_pos (Or.inr (by omega)), res]
    · have hlp : 0 < l.length := by
        cases l with
        | nil => exact absurd rfl hl0
        | cons a b => simp
      have hw : wrap64 (n - (out.length : Int)) = n - (out.length : Int) := w64 (by omega) (by omega)
      rw [if_pos (show ((l.length : Nat) : Int) > 0 by omega), if_neg hl0]
      simp only [hw]
      rw [below_g hg _ (by omega), Option.bind_some, int_g (gBelow_good hg _), Option.bind_some]
      cases hq : pair l (n - (out.length : Int)) with
      | none =>
        unfold pair at hq
        split at hq
        · rename_i hb
          rw [if_pos hb, res]
        · cases hq
      | some q =>
        obtain ⟨k, x, l2⟩ := q
        obtain ⟨p1, p2, p3, p4, p5, p6, p7⟩ := pair_some hg hq
        simp only [p6, p7]
        rw [if_neg (by decide)]
        by_cases hd : prev = some x
        · rw [if_pos hd]
          rcases hp with ⟨h1, _⟩ | ⟨o, y, h1, h2⟩
          · rw [h1] at hd; cases hd
          · rw [h2] at hd
            obtain rfl := Option.some.inj hd
            have hlo : o.length < 100000 := by rw [h1, List.length_append] at hol; simp at hol; omega
            obtain ⟨r1, r2⟩ := rd_last o y hlo
            rw [h1, r1, if_pos ⟨by simp, r2⟩, res]
        · rw [if_neg hd, if_neg ?_, if_pos ⟨by omega, by omega, by omega⟩, Int.toNat_natCast, ih _ _ (some x) p4 (by omega) (Prev.rep _ _ _) (.inl (by rw [List.length_append, List.length_replicate]; omega)), res_step, List.length_append, List.length_replicate]
          · rw [show n - ((out.length + (k + 1) : Nat) : Int) = n - (out.length : Int) - ((k : Int) + 1) by omega]
          · rintro ⟨h1, h2⟩
            rcases hp with ⟨_, h3⟩ | ⟨o, y, h3, h4⟩
            · exact h1 h3
            · have hlo : o.length < 100000 := by rw [h3, List.length_append] at hol; simp at hol; omega
              obtain ⟨r1, r2⟩ := rd_last o y hlo
              rw [h3, r1, r2] at h2
              rw [h4, h2] at hd
              exact hd rfl
theorem get_is (l : List Int) (hb : IsBytes l) (hl : l.length < 100000) (n : Int) (hn : I64 n) (K : Nat) (hK : l.length < K) : runs_Get.f K l n = some (if n > 4096 then ([], false) else res [] (R K none n l)) := by
  unfold runs_Get.f
  by_cases h : n > 4096
  · rw [if_pos h, if_pos h]
  · rw [if_neg h, if_neg h, get_loop n (by omega) hn.1 K [] l none (GoodS.of ⟨hb, by omega⟩) hK (.inl ⟨rfl, rfl⟩) (.inr rfl)]
    simp
theorem get_le (l : List Int) (hb : IsBytes l) (hl : l.length < 100000) (n : Int) (hn : I64 n) (K : Nat) (hK : l.length < K) (h : n ≤ 4096) : runs_Get.f K l n = some (res [] (R K none n l)) := by rw [get_is l hb hl n hn K hK, if_neg (by omega)]
theorem ref_l1 (n : Int) (k : Nat) (x : Int) (hk : k < 1000) (l : List Int) (b : Bool) (K : Nat) (d : Nat) : ∀ i out, i + d = k + 1 → out.length + d < 17592186044416 → firkinref05_Get.l1 (K + d + 1) n out (k : Int) x (i : Int) l b = firkinref05_Get.l0 K n (out ++ List.replicate d x) l b := by
  induction d with
  | zero => intro i out h _; rw [firkinref05_Get.l1, if_neg (by omega)]; simp
  | succ d ih =>
    intro i out h h2
    rw [show K + (d + 1) + 1 = (K + d + 1) + 1 by omega, firkinref05_Get.l1, if_pos (by omega), if_pos (by omega), w64 (by omega) (by omega), show ((i : Int) + 1) = ((i + 1 : Nat) : Int) by omega, ih (i + 1) _ (by omega) (by simp; omega)]
    rw [List.append_assoc, List.singleton_append, ← List.replicate_succ]
theorem rget_loop (n : Int) (hn : n ≤ 400) (hn2 : -9223372036854775808 ≤ n) (F : Nat) : ∀ K out l prev, GoodS l false → l.length < F → 5 * l.length + 500 ≤ K + out.length → Prev prev out → ((out.length : Int) ≤ n ∨ out = []) → firkinref05_Get.l0 K n out l false = some (res out (R F prev (n - (out.length : Int)) l)) := by
  induction F with
  | zero => intro K out l prev _ h; omega
  | succ F ih =>
    intro K out l prev hg hl hK hp ho
    have hol : (out.length : Int) ≤ 400 ∧ (out.length : Int) ≤ 0 ∨ (out.length : Int) ≤ n := by
      rcases ho with h | h
      · exact .inr h
      · exact .inl (by rw [h]; simp)
    obtain ⟨K, rfl⟩ : ∃ m, K = m + 1 := ⟨K - 1, by omega⟩
    rw [firkinref05_Get.l0, R]
    by_cases hl0 : l = []
    · rw [if_neg (by rw [hl0]; simp), if_pos hl0, if_neg (by decide)]
      by_cases hr : n - (out.length : Int) = 0
      · rw [if_pos hr, if_pos (by omega), res, List.append_nil]
      · rw [if_neg hr, if_neg (by omega), res]
    · have hlp : 0 < l.length := by
        cases l with
        | nil => exact absurd rfl hl0
        | cons a b => simp
      obtain ⟨K, rfl⟩ : ∃ m, K = m + 1 := ⟨K - 1, by omega⟩
      rw [if_pos (show ((l.length : Nat) : Int) > 0 by omega), if_neg hl0, rbelow_g hg _ (by decide), Option.bind_some, rint_g (gBelow_good hg _), Option.bind_some]
      have up : ∀ k x l2, pair l (n - (out.length : Int)) = some (k, x, l2) → pair l 401 = some (k, x, l2) := by
        intro k x l2 hq
        obtain ⟨p1, p2, p3, p4, p5, p6, p7⟩ := pair_some hg hq
        rw [← p1]
        exact pair_enc (by omega) (by decide) p5 _
      cases hq : pair l 401 with
      | none =>
        have hq2 : pair l (n - (out.length : Int)) = none := by
          cases h9 : pair l (n - (out.length : Int)) with
          | none => rfl
          | some q => have := up q.1 q.2.1 q.2.2 h9; rw [hq] at this; cases this
        rw [hq2]
        unfold pair at hq
        split at hq
        · rename_i hb
          rw [if_pos hb, firkinref05_Get.j1, if_pos rfl, res]
        · cases hq
      | some q =>
        obtain ⟨k, x, l2⟩ := q
        obtain ⟨p1, p2, p3, p4, p5, p6, p7⟩ := pair_some hg hq
        simp only [p6, p7]
        rw [if_neg (by decide), w64 (x := (k : Int) + 1) (by omega) (by omega), w64 (x := n - (out.length : Int)) (by omega) (by omega)]
        by_cases hk : (k : Int) + 1 > n - (out.length : Int)
        · have hq2 : pair l (n - (out.length : Int)) = none := by
            cases h9 : pair l (n - (out.length : Int)) with
            | none => rfl
            | some q =>
              have h8 := up q.1 q.2.1 q.2.2 h9
              rw [hq] at h8
              have h7 := (pair_some hg (k := q.1) (x := q.2.1) (l2 := q.2.2) h9).2.1
              simp only [Option.some.injEq, Prod.mk.injEq] at h8
              rw [← h8.1] at h7
              omega
          rw [hq2, if_pos hk, firkinref05_Get.j1, if_pos rfl, res]
        · have hq2 : pair l (n - (out.length : Int)) = some (k, x, l2) := by rw [← p1]; exact pair_enc (by omega) (by omega) p5 _
          rw [hq2, if_neg hk]
          simp only
          have fin : prev ≠ some x → firkinref05_Get.l1 K n out (k : Int) x 0 l2 false = some (res out ((R F (some x) (n - (out.length : Int) - ((k : Int) + 1)) l2).map (List.replicate (k + 1) x ++ ·))) := by
            intro _
            obtain ⟨K2, rfl⟩ : ∃ m, K = m + (k + 1) + 1 := ⟨K - (k + 1) - 1, by omega⟩
            have := ref_l1 n k x (by omega) l2 false K2 (k + 1) 0 out (by omega) (by omega)
            rw [Int.natCast_zero] at this
            rw [this, ih K2 _ _ (some x) p4 (by omega) (by rw [List.length_append, List.length_replicate]; omega) (Prev.rep _ _ _) (.inl (by rw [List.length_append, List.length_replicate]; omega)), res_step, List.length_append, List.length_replicate]
            rw [show n - ((out.length + (k + 1) : Nat) : Int) = n - (out.length : Int) - ((k : Int) + 1) by omega]
          rcases hp with ⟨h1, h2⟩ | ⟨o, y, h1, h2⟩
          · have hne : prev ≠ some x := by rw [h1]; simp
            rw [if_neg (show ¬ (out.length : Int) > 0 by rw [h2]; simp), firkinref05_Get.j1, if_neg (by decide), if_neg hne, fin hne]
          · have hlo : o.length < 100000 := by rw [h1, List.length_append] at hol; simp at hol; omega
            obtain ⟨r1, r2⟩ := rd_last o y hlo
            rw [← h1] at r1 r2
            have hol2 : out.length = o.length + 1 := by rw [h1]; simp
            rw [if_pos (show (out.length : Int) > 0 by omega), r1, if_pos (by omega), if_pos (by omega), r2, firkinref05_Get.j1]
            by_cases hy : y = x
            · rw [if_pos (by rw [hy]; exact beq_self_eq_true x), if_pos (by rw [h2, hy]), res]
            · have hne : prev ≠ some x := by rw [h2]; intro h; exact hy (Option.some.inj h)
              rw [if_neg (by rw [beq_iff_eq]; exact hy), if_neg hne, fin hne]
theorem rget_is (l : List Int) (hb : IsBytes l) (hl : l.length < 1000) (n : Int) (hn : n ≤ 400) (hn2 : I64 n) (K F : Nat) (hK : 6000 ≤ K) (hF : l.length < F) : firkinref05_Get.f K l n = some (res [] (R F none n l)) := by
  unfold firkinref05_Get.f
  unfold new74.f
  rw [Option.bind_some, rget_loop n hn hn2.1 F K [] l none (GoodS.of ⟨hb, by omega⟩) hF (by simp; omega) (.inl ⟨rfl, rfl⟩) (.inr rfl)]
  simp
theorem u64_nat (n : Nat) (h : n < 1000000) : IntKind.u64.wrap (wrap64 (((n : Nat) : Int))) = (n : Int) := by rw [w64 (by omega) (by omega), IntKind.wrap_u64]; omega
theorem concat_is (a b c : List Int) (h : a.length + b.length + c.length < 1000000000) : slices_Concat_byte.f [a, b, c] = some (a ++ (b ++ c)) := by
  unfold slices_Concat_byte.f
  have e : [a, b, c].flatten = a ++ (b ++ c) := by simp
  rw [e, if_pos (by rw [List.length_append, List.length_append]; omega)]
theorem put_l1 (M : List Int) (x : Int) (p : Nat) (hx : M.getD 0 0 = x) (hx2 : I64 x) (hp : p = pre x M) (hp1 : 1 ≤ p) (hM : M.length < 100000) (K : Nat) (hK : 10 < K) (d : Nat) : ∀ i acc, i + d = p → 1 ≤ i → acc.length < 100000000 →
    runs_Put.l1 (K + d + 1) M acc (i : Int) = runs_Put.l0 K (M.drop p) (acc ++ (enc (p - 1) ++ enc (zig x))) := by
  have hple : p ≤ M.length := by rw [hp]; exact pre_le _ _
  have hr0 : rd M 0 = x := by rw [← hx]; rfl
  have he1 := enc_len (p - 1) (by omega)
  have he2 := enc_len (zig x) (zig_lt hx2.1 hx2.2)
  induction d with
  | zero =>
    intro i acc h h1 ha
    have hi : i = p := by omega
    subst hi
    have hu : IntKind.u64.wrap (wrap64 ((i : Int) - 1)) = ((i - 1 : Nat) : Int) := by rw [show (i : Int) - 1 = ((i - 1 : Nat) : Int) by omega]; exact u64_nat _ (by omega)
    rw [Nat.add_zero, runs_Put.l1, hu, hr0]
    by_cases hlt : i < M.length
    · have hne : ¬ rd M (i : Int) = x := by
        rw [rd_nat]
        have := pre_end x M
        rw [← hp] at this
        exact this hlt
      rw [if_pos (by omega), if_pos (by omega), if_pos (by omega), if_neg hne, num_is _ (by omega) K hK, Option.bind_some, int_is x hx2.1 hx2.2 K hK, Option.bind_some, concat_is _ _ _ (by omega), Option.bind_some, if_pos (by omega), Int.toNat_natCast]
    · rw [if_neg (by omega), num_is _ (by omega) K hK, Option.bind_some, if_pos (by omega), int_is x hx2.1 hx2.2 K hK, Option.bind_some, concat_is _ _ _ (by omega), Option.bind_some, if_pos (by omega), if_pos (by omega), Int.toNat_natCast]
  | succ d ih =>
    intro i acc h h1 ha
    have he : rd M (i : Int) = x := by rw [rd_nat]; exact pre_get x M i (by omega)
    rw [show K + (d + 1) + 1 = (K + d + 1) + 1 by omega, runs_Put.l1, hr0, if_pos (by omega), if_pos (by omega), if_pos (by omega), if_pos he, w64 (by omega) (by omega), show ((i : Int) + 1) = ((i + 1 : Nat) : Int) by omega]
    exact ih (i + 1) acc (by omega) (by omega) ha
theorem put_loop (g : Nat) : ∀ K l acc, l.length ≤ g → l.length < 10000 → 2 * l.length + 30 ≤ K → acc.length + 20 * l.length < 10000000 → (∀ x ∈ l, I64 x) → runs_Put.l0 K l acc = some (acc ++ rbs g l) := by
  induction g with
  | zero =>
    intro K l acc h _ hK _ _
    obtain rfl := List.eq_nil_of_length_eq_zero (Nat.le_zero.mp h)
    obtain ⟨K, rfl⟩ : ∃ m, K = m + 1 := ⟨K - 1, by omega⟩
    rw [runs_Put.l0, if_neg (by simp)]; simp [rbs]
  | succ g ih =>
    intro K l acc h h2 hK ha hx
    obtain ⟨K, rfl⟩ : ∃ m, K = m + 1 := ⟨K - 1, by omega⟩
    cases l with
    | nil => rw [runs_Put.l0, if_neg (by simp)]; simp [rbs]
    | cons x l =>
      have hx2 := hx x (List.mem_cons_self ..)
      have hp := pre_le x l
      have hpm : pre x (x :: l) = pre x l + 1 := by rw [pre, if_pos rfl]
      rw [List.length_cons] at h h2 hK ha
      obtain ⟨K2, rfl⟩ : ∃ m, K = m + pre x l + 1 := ⟨K - pre x l - 1, by omega⟩
      have he1 := enc_len (pre x l) (by omega)
      have he2 := enc_len (zig x) (zig_lt hx2.1 hx2.2)
      have h1 := put_l1 (x :: l) x (pre x l + 1) rfl hx2 hpm.symm (by omega) (by simp; omega) K2 (by omega) (pre x l) 1 acc (by omega) (by omega) (by omega)
      rw [runs_Put.l0, if_pos (by simp), show (1 : Int) = ((1 : Nat) : Int) from rfl, h1, List.drop_succ_cons, Nat.add_sub_cancel, ih K2 _ _ (by rw [List.length_drop]; omega) (by rw [List.length_drop]; omega) (by rw [List.length_drop]; omega) (by rw [List.length_append, List.length_append, List.length_drop]; omega) (fun y hy => hx y (List.mem_cons_of_mem _ (List.mem_of_mem_drop hy))), rbs]
      simp only [List.append_assoc]
theorem put_is (l : List Int) (hl : l.length < 10000) (hx : ∀ x ∈ l, I64 x) (K : Nat) (hK : 2 * l.length + 30 ≤ K) : runs_Put.f K l = some (rbs l.length l) := by
  unfold runs_Put.f
  rw [put_loop l.length K l [] (Nat.le_refl _) hl hK (by simp; omega) hx, List.nil_append]
theorem rput_l1 (L : List Int) (s : Nat) (x : Int) (p : Nat) (hx : (L.drop s).getD 0 0 = x) (hx2 : I64 x) (hp : p = pre x (L.drop s)) (hs : s < L.length) (hM : L.length < 100000) (K : Nat) (hK : 11 < K) (d : Nat) : ∀ i acc, i + d = p → 1 ≤ p → acc.length < 100000000 →
    firkinref05_Put.l1 (K + d + 1) L acc (s : Int) ((s + i : Nat) : Int) = firkinref05_Put.l0 K L (acc ++ (enc (p - 1) ++ enc (zig x))) ((s + p : Nat) : Int) := by
  have hple : p ≤ (L.drop s).length := by rw [hp]; exact pre_le _ _
  rw [List.length_drop] at hple
  have hg : ∀ j, (L.drop s).getD j 0 = L.getD (s + j) 0 := by intro j; simp [List.getD_eq_getElem?_getD]
  have hr0 : rd L (s : Int) = x := by rw [rd_nat, ← hx, hg, Nat.add_zero]
  have he1 := enc_len (p - 1) (by omega)
  have he2 := enc_len (zig x) (zig_lt hx2.1 hx2.2)
  induction d with
  | zero =>
    intro i acc h h1 ha
    have hi : i = p := by omega
    subst hi
    have hu : IntKind.u64.wrap (wrap64 (wrap64 (((s + i : Nat) : Int) - (s : Int)) - 1)) = ((i - 1 : Nat) : Int) := by rw [show ((s + i : Nat) : Int) - (s : Int) = (i : Int) by omega, w64 (x := (i : Int)) (by omega) (by omega), show (i : Int) - 1 = ((i - 1 : Nat) : Int) by omega]; exact u64_nat _ (by omega)
    rw [Nat.add_zero, firkinref05_Put.l1, hu, hr0]
    by_cases hlt : s + i < L.length
    · have hne : ¬ rd L ((s + i : Nat) : Int) = x := by
        rw [rd_nat]
        have := pre_end x (L.drop s)
        rw [← hp, hg] at this
        exact this (by rw [List.length_drop]; omega)
      rw [if_pos (by omega), if_pos (by omega), if_pos (by omega), if_pos (by omega), if_neg hne, rnum_is _ (by omega) K hK, Option.bind_some, if_pos (by omega), Option.bind_some, rint_is x hx2.1 hx2.2 K hK, Option.bind_some, if_pos (by rw [List.length_append]; omega), List.append_assoc]
    · rw [if_neg (by omega), rnum_is _ (by omega) K hK, Option.bind_some, if_pos (by omega), Option.bind_some, if_pos (by omega), if_pos (by omega), rint_is x hx2.1 hx2.2 K hK, Option.bind_some, if_pos (by rw [List.length_append]; omega), List.append_assoc]
  | succ d ih =>
    intro i acc h h1 ha
    have he : rd L ((s + i : Nat) : Int) = x := by rw [rd_nat, ← hg]; exact pre_get x _ i (by omega)
    rw [show K + (d + 1) + 1 = (K + d + 1) + 1 by omega, firkinref05_Put.l1, hr0, if_pos (by omega), if_pos (by omega), if_pos (by omega), if_pos (by omega), if_pos he, w64 (by omega) (by omega), show (((s + i : Nat) : Int) + 1) = ((s + (i + 1) : Nat) : Int) by omega]
    exact ih (i + 1) acc (by omega) h1 ha
theorem rput_loop (L : List Int) (hL : L.length < 10000) (hx : ∀ x ∈ L, I64 x) (g : Nat) : ∀ K s acc, s ≤ L.length → (L.drop s).length ≤ g → 3 * (L.drop s).length + 30 ≤ K → acc.length + 20 * (L.drop s).length < 10000000 → firkinref05_Put.l0 K L acc (s : Int) = some (acc ++ rbs g (L.drop s)) := by
  induction g with
  | zero =>
    intro K s acc hs h hK _
    have h0 := List.eq_nil_of_length_eq_zero (Nat.le_zero.mp h)
    obtain ⟨K, rfl⟩ : ∃ m, K = m + 1 := ⟨K - 1, by omega⟩
    rw [List.length_drop] at h
    rw [firkinref05_Put.l0, if_neg (by omega)]; simp [rbs]
  | succ g ih =>
    intro K s acc hs h hK ha
    obtain ⟨K, rfl⟩ : ∃ m, K = m + 1 := ⟨K - 1, by omega⟩
    rw [List.length_drop] at h hK ha
    by_cases hlt : s < L.length
    · have hd := drop_get hlt
      have hx2 := hx (L.getD s 0) (by rw [List.getD_eq_getElem?_getD, List.getElem?_eq_getElem hlt]; exact List.getElem_mem _)
      generalize hX : L.getD s 0 = x at hd hx2
      have hp := pre_le x (L.drop (s + 1))
      rw [List.length_drop] at hp
      have hpm : pre x (L.drop s) = pre x (L.drop (s + 1)) + 1 := by rw [hd, pre, if_pos rfl]
      obtain ⟨q, hq⟩ : ∃ q, q = pre x (L.drop (s + 1)) := ⟨_, rfl⟩
      rw [← hq] at hpm hp
      obtain ⟨K2, rfl⟩ : ∃ m, K = m + (q + 1) + 1 := ⟨K - (q + 1) - 1, by omega⟩
      have he1 := enc_len q (by omega)
      have he2 := enc_len (zig x) (zig_lt hx2.1 hx2.2)
      have h1 := rput_l1 L s x (q + 1) (by rw [hd]; rfl) hx2 hpm.symm hlt (by omega) K2 (by omega) (q + 1) 0 acc (by omega) (by omega) (by omega)
      simp only [Nat.add_zero] at h1
      have hdd : L.drop (s + (q + 1)) = (L.drop (s + 1)).drop q := by rw [List.drop_drop]; congr 1; omega
      rw [firkinref05_Put.l0, if_pos (by omega), h1, Nat.add_sub_cancel, ih K2 _ _ (by omega) (by rw [List.length_drop]; omega) (by rw [List.length_drop]; omega) (by rw [List.length_append, List.length_append, List.length_drop]; omega), hdd, hd, rbs, ← hq]
      simp only [List.append_assoc]
    · have h0 : L.drop s = [] := List.drop_eq_nil_of_le (by omega)
      rw [firkinref05_Put.l0, if_neg (by omega), h0, rbs_nil, List.append_nil]
theorem rput_is (l : List Int) (hl : l.length < 10000) (hx : ∀ x ∈ l, I64 x) (K : Nat) (hK : 3 * l.length + 30 ≤ K) : firkinref05_Put.f K l = some (rbs l.length l) := by
  unfold firkinref05_Put.f
  have := rput_loop l hl hx l.length K 0 [] (by omega) (by simp) (by simpa using hK) (by simp; omega)
  rw [List.drop_zero, List.nil_append] at this
  exact this
theorem same_loop (l : List Int) (hl : l.length < 100000000) (d : Nat) : ∀ (k i : Nat), i + d = l.length → d < k → firkinref05_Same.l0 k l l (i : Int) = some true := by
  induction d with
  | zero =>
    intro k i h1 h2
    obtain ⟨k, rfl⟩ : ∃ m, k = m + 1 := ⟨k - 1, by omega⟩
    rw [firkinref05_Same.l0, if_neg (by omega)]
  | succ d ih =>
    intro k i h1 h2
    obtain ⟨k, rfl⟩ : ∃ m, k = m + 1 := ⟨k - 1, by omega⟩
    have hwi : wrap64 ((i : Int) + 1) = ((i + 1 : Nat) : Int) := by rw [w64 (by omega) (by omega)]; omega
    rw [firkinref05_Same.l0, if_pos (by omega), if_pos (by omega), if_pos (by omega), if_pos rfl, hwi]
    exact ih k (i + 1) (by omega) (by omega)
theorem same_refl (l : List Int) (hl : l.length < 100000000) (k : Nat) (hk : l.length < k) : firkinref05_Same.f k l l = some true := by
  unfold firkinref05_Same.f
  rw [if_pos rfl]
  exact same_loop l hl l.length k 0 (by omega) hk
theorem same_self (l : List Int) : firkinref01_Same.f l l = some true := by unfold firkinref01_Same.f; simp
theorem live_is (k : Nat) (hk : 100 ≤ k) : firkinlaw05_live.f k = some true := by
  unfold firkinlaw05_live.f
  rw [put_is [7, 7, 7] (by decide) (by intro x hx; simp at hx; subst hx; exact ⟨by decide, by decide⟩) k (by simp; omega), Option.bind_some]
  have e : rbs ([7, 7, 7] : List Int).length [7, 7, 7] = [2, 14] := by decide
  rw [e, same_self]; rfl
end Go.Proofs.Ythcmokglgepgjaa.Runs
/- RunsOne: bytes that are numbers are just their own; as so many others they are none. -/
namespace Go.Proofs.Ythcmokglgepgjaa.True_
open Go Go.RowKit Go.Proofs.Ythcmokglgepgjaa.X Go.Proofs.Ythcmokglgepgjaa.Dec Go.Proofs.Ythcmokglgepgjaa.Enc Go.Proofs.Ythcmokglgepgjaa.Read Go.Proofs.Ythcmokglgepgjaa.Runs Go.Proofs.YthcmokglgepgjaaW.PrintWords Go.Proofs.YthcmokglgepgjaaW.PrintLast Go.Proofs.YthcmokglgepgjaaW.PrintMore
set_option linter.unusedVariables false
set_option linter.unusedSimpArgs false
theorem R_i64 (f : Nat) : ∀ prev rem l y, GoodS l false → R f prev rem l = some y → ∀ x ∈ y, I64 x := by
  induction f with
  | zero => intro prev rem l y _ h; cases h
  | succ f ih =>
    intro prev rem l y hg h
    rw [R] at h
    split at h
    · split at h
      · obtain rfl := Option.some.inj h; intro x hx; simp at hx
      · cases h
    · cases hp : pair l rem with
      | none => rw [hp] at h; cases h
      | some q =>
        obtain ⟨k, x, l2⟩ := q
        rw [hp] at h
        simp only at h
        split at h
        · cases h
        · obtain ⟨y2, h2, rfl⟩ := Option.map_eq_some_iff.mp h
          obtain ⟨p1, p2, p3, p4, p5, _, _⟩ := pair_some hg hp
          intro z hz
          rcases List.mem_append.mp hz with h | h
          · rw [(List.mem_replicate.mp h).2]; exact p5
          · exact ih _ _ _ _ p4 h2 z h
theorem RunsOne : ∀ (x0 : List Int) (x1 : Int) (x2 : Int), (x0.length ≤ maxLen ∧ ∀ z ∈ x0, (Lit.int .u8 z).wf = true) → (Lit.int .i64 x1).wf = true → (Lit.int .i64 x2).wf = true → ∃ k, firkinlaw05_RunsOne.f k x0 x1 x2 = some true := by
  intro l n m h0 h1 h2
  refine ⟨50001, ?_⟩
  have hb : IsBytes l := fun x hx => byte_bounds (h0.2 x hx)
  have hg : GoodS l false ∨ (l.length : Int) > 400 := by
    by_cases h : (l.length : Int) > 400
    · exact .inr h
    · exact .inl (GoodS.of ⟨hb, by omega⟩)
  have hn := i64_bounds h1
  have hm := i64_bounds h2
  unfold firkinlaw05_RunsOne.f
  by_cases hl : (l.length : Int) > 400
  · rw [if_pos hl, firkinlaw05_RunsOne.j0, if_pos rfl, live_is 50000 (by decide)]; rfl
  rw [if_neg hl]
  have hg := hg.resolve_right hl
  by_cases hn4 : n > 400
  · rw [if_pos hn4, firkinlaw05_RunsOne.j0, if_pos rfl, live_is 50000 (by decide)]; rfl
  rw [if_neg hn4, firkinlaw05_RunsOne.j0, live_is 50000 (by decide)]
  by_cases hm4 : m > 400
  · rw [if_pos (decide_eq_true hm4)]; rfl
  rw [if_neg (by rw [decide_eq_true_eq]; exact hm4), get_le l hb (by omega) n hn 50000 (by omega) (by omega), Option.bind_some]
  cases hR : R 50000 none n l with
  | none => rfl
  | some y =>
    obtain ⟨hB1, hB2, hB3⟩ := R_back 50000 none n l y hg hR
    have hy := R_i64 50000 none n l y hg hR
    cases hR2 : R 50000 none m l with
    | none =>
      have e : res [] (some y) = (y, true) := by simp [res]
      rw [e, if_pos rfl, get_le l hb (by omega) m hm 50000 (by omega) (by omega), Option.bind_some, hR2, if_pos hB1, put_is y (by omega) hy 50000 (by omega), Option.bind_some, hB3 _ (Nat.le_refl _), same_self, Option.bind_some]
      rfl
    | some z =>
      have hB4 := (R_back 50000 none m l z hg hR2).1
      have := R_uniq 50000 50000 none n m l y z hg (by omega) (by omega) hR hR2
      subst this
      have hmn : m = n := by omega
      have e : res [] (some y) = (y, true) := by simp [res]
      rw [e, if_pos rfl, get_le l hb (by omega) m hm 50000 (by omega) (by omega), Option.bind_some, hR2, if_pos hB1, put_is y (by omega) hy 50000 (by omega), Option.bind_some, hB3 _ (Nat.le_refl _), same_self, Option.bind_some, if_pos hmn]
      rfl
end Go.Proofs.Ythcmokglgepgjaa.True_
/- RunsOne: for every input the call returns true, and each argument reads behind the call as it read before it. No condition. -/
namespace Go.Proofs.Ythcmokglgepgjaa.runsOne
open Go.ChangeShapes Go.WideShapes Go.ChangeAt Go.RowKit Go.Proofs.Ythcmokglgepgjaa.Opens Go.Proofs.Ythcmokglgepgjaa.X Go.Proofs.YthcmokglgepgjaaW.PrintWords Go.Proofs.YthcmokglgepgjaaW.PrintLast Go.Proofs.YthcmokglgepgjaaW.PrintMore
open Go.ChangeMaps (open_string shut_string)
set_option linter.unusedVariables false
set_option linter.unusedSimpArgs false
theorem own : ownKnob Try.prog.godebug = none := by kernel_rfl
theorem laidOut : laidOutB Try.prog = true := by kernel_rfl
set_option maxRecDepth 100000 in
theorem lifted (os : Os) (started : os.Started) (H : Type) (enc : TypeId × Value → H) :
    ReturnsInHanded {} Try.checked os 12 .any (Rows.runsOneSpec.pre6 enc Try.prog Try.f12 Rows.runsOneRow.domain false) (Rows.runsOneSpec.post enc Try.prog Try.f12 false true false false) := by
  refine returnsInHanded_of_change_sized (C := Try.checked) own started (by kernel_rfl) Try.func12
    (ChangeSpec.witness6 (enc := enc) (C := Try.checked) false ⟨#[], #[.slice none 0 0, .int .i64 0, .int .i64 0], []⟩ 8 (by kernel_rfl) (by kernel_rfl) (by kernel_rfl) (by kernel_rfl)) ?_
  intro W base args ds gs before hval0 hW hcnd hsz0 _
  have hval : ∀ (j : Nat) t v, Try.f12.params[j]? = some t → args[j]? = some v → Value.okWide Try.prog W .any base t v := hval0
  have hW' := hW
  obtain ⟨p, q, hA0, hV, rfl, hfz, hnd⟩ := hW
  have hA : DataW.TrodAll enc Try.prog W 0 (fun _ => true) true Try.f12.params.toList args.toList ds p := hA0
  rw [Try.params12] at hA hval
  obtain ⟨v0, vs0, d0, ds0, p0, q0, hargs, rfl, rfl, h0, r0⟩ := trodAll_cons hA
  obtain ⟨v1, vs1, d1, ds1, p1, q1, rfl, rfl, rfl, h1, r1⟩ := trodAll_cons r0
  obtain ⟨v2, vs2, d2, ds2, p2, q2, rfl, rfl, rfl, h2, r2⟩ := trodAll_cons r1
  obtain ⟨rfl, rfl, rfl⟩ := trodAll_nil r2
  obtain rfl : args = #[v0, v1, v2] := by cases args; simp_all
  obtain ⟨rfl, rfl⟩ := trodVars_none hV
  have k0 := h0
  have lt0 : ∀ x ∈ p0, x.block < W.heap.size := by obtain ⟨m, hm⟩ := k0; exact DataW.trod_lt m _ _ _ hm
  obtain ⟨x0, hk0, ok0⟩ := Opens.arg (Opens.slice Try.underlying22 (by kernel_rfl) (Opens.int Try.underlying5 (by kernel_rfl))) h0
  obtain ⟨a0, len0, cap0, rfl⟩ := okWide_slice Try.underlying22 (hval 0 22 v0 rfl rfl)
  obtain ⟨A0, c0, hcs0, hc0, hr0⟩ := hk0
  simp only [Value.cells] at hcs0
  injection hcs0 with hcs0 _
  injection hcs0 with e1_0 e2_0 e3_0
  subst e1_0 e2_0 e3_0
  have k1 := h1
  have lt1 : ∀ x ∈ p1, x.block < W.heap.size := by obtain ⟨m, hm⟩ := k1; exact DataW.trod_lt m _ _ _ hm
  obtain ⟨x1, hk1, ok1⟩ := Opens.arg (Opens.int Try.underlying3 (by kernel_rfl)) h1
  obtain ⟨y1, rfl⟩ := okWide_int Try.underlying3 (hval 1 3 v1 rfl rfl)
  injection (show _ = [_] from hk1) with e1 _
  injection e1 with e1a e1
  subst e1
  have k2 := h2
  have lt2 : ∀ x ∈ p2, x.block < W.heap.size := by obtain ⟨m, hm⟩ := k2; exact DataW.trod_lt m _ _ _ hm
  obtain ⟨x2, hk2, ok2⟩ := Opens.arg (Opens.int Try.underlying3 (by kernel_rfl)) h2
  obtain ⟨y2, rfl⟩ := okWide_int Try.underlying3 (hval 2 3 v2 rfl rfl)
  injection (show _ = [_] from hk2) with e2 _
  injection e2 with e2a e2
  subst e2
  clear hA0 hval0 hsz0
  obtain ⟨k, h⟩ := True_.RunsOne x0 y1 y2 ok0 ok1 ok2
  refine (firkinlaw05_RunsOne.calls k _ _ x0 y1 y2 true W hr0 hc0 h).mono fun e W' ⟨he, bel0⟩ => ?_
  have bel : Below W.heap.size W W' := bel0
  subst he
  exact ⟨_, rfl, _, _, _, [], _, [], hW', trodAll_mk1 (shut_bool Try.underlying4 _), (trodAll_cons_mk (Below.trod laidOut (by kernel_rfl) (of_decide_eq_true (by kernel_rfl)) k0 bel lt0) (trodAll_cons_mk (Below.trod laidOut (by kernel_rfl) (of_decide_eq_true (by kernel_rfl)) k1 bel lt1) (trodAll_cons_mk (Below.trod laidOut (by kernel_rfl) (of_decide_eq_true (by kernel_rfl)) k2 bel lt2) trodAll_mk0))), rfl, bel.frame _, fun h => by cases h⟩
theorem over : Rows.runsOneRow.holds Try.pinned (OpenSpec.ofChange Rows.runsOneSpec) :=
  OpenClaim.holds_of_wide 12 Try.f12 rfl rfl rfl rfl rfl rfl rfl ⟨rfl, rfl, rfl, rfl, rfl⟩ rfl rfl rfl rfl rfl (by kernel_rfl) Try.func12 (by kernel_rfl)
    (of_decide_eq_true (by kernel_rfl)) (by unfold Func.isWrapper; first | (rw [if_pos (by decide +kernel)]; kernel_rfl) | (rw [if_neg (by decide +kernel)]; exact ⟨rfl, rfl⟩))
    (fun os started H enc _ => lifted os started H enc)
theorem proved : Rows.RunsOneSaid := over
end Go.Proofs.Ythcmokglgepgjaa.runsOne
namespace Go.Proofs.Ythcmokglgepgjaa
/-- The row, under a short name, for the claim. -/
theorem runsOne_holds : Rows.RunsOneSaid := runsOne.proved
end Go.Proofs.Ythcmokglgepgjaa
