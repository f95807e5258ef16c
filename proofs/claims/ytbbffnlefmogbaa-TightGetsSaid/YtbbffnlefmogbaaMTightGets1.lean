/- TightGets: for every input the call returns true, and each argument reads behind the call as it read before it. No condition. (Part 2 of 3: this session's texts, laid together by wip/merge.py.) -/
import Derived.Test.YtbbffnlefmogbaaX0
import Derived.Deep.QuietTactic
import Derived.BigQuiet
import Derived.Deep.RegionWith
import Derived.Test.YtbbffnlefmogbaaMem
import Derived.Lib.SliceRun
import Derived.Lib.Hide
import Derived.Test.YtbbffnlefmogbaaDec
import Derived.Laws.BitsAllLaws
import Derived.Test.YtbbffnlefmogbaaMTightGets0
-- Printed for this claim by a program of this session (wip/xprint.py) over the kit's printer; Lean checks it.
namespace Go.Proofs.Ytbbffnlefmogbaa.X
open Go.RowKit Go.Proofs.YtbbffnlefmogbaaW.PrintWords Go.Proofs.YtbbffnlefmogbaaW.PrintLast Go.Proofs.YtbbffnlefmogbaaW.PrintMore
attribute [local go_sem] max2_int min2_int max_two min_two max_three min_three max_four min_four   -- for this text's walks alone
set_option linter.unusedVariables false
set_option linter.unusedSimpArgs false

/-! ### firkinref07_Put: function 14 -/
mutual
def firkinref07_Put.l0 : Nat → List Int → Int → Int → Int → Option (List Int)
  | 0, _, _, _, _ => none
  | k + 1, x0, x3, x4, x5 => if x5 < (x0.length : Int) then (if 0 ≤ x5 then (if (rd x0 x5) < x3 then (if (rd x0 x5) > x4 then (firkinref07_Put.l0 k x0 (rd x0 x5) (rd x0 x5) (wrap64 (x5 + 1))) else (firkinref07_Put.l0 k x0 (rd x0 x5) x4 (wrap64 (x5 + 1)))) else (if (rd x0 x5) > x4 then (firkinref07_Put.l0 k x0 x3 (rd x0 x5) (wrap64 (x5 + 1))) else (firkinref07_Put.l0 k x0 x3 x4 (wrap64 (x5 + 1))))) else (none)) else ((firkinref07_need.f k (IntKind.u64.wrap ((IntKind.u64.wrap (x4)) - (IntKind.u64.wrap (x3))))).bind fun t181 => ((firkinref01_Int.f k x3).bind fun t182 => (if t182.length < 140737488355328 then (firkinref07_Put.l1 k x0 x3 t181 (t182 ++ [(t181) % 256]) 0 0) else (none))))
def firkinref07_Put.l1 : Nat → List Int → Int → Int → List Int → Int → Int → Option (List Int)
  | 0, _, _, _, _, _, _ => none
  | k + 1, x0, x3, x6, x7, x8, x9 => if x9 < (x0.length : Int) then (if 0 ≤ x9 then (firkinref07_Put.l2 k x0 x3 x6 x7 x8 x9 (IntKind.u64.wrap ((IntKind.u64.wrap (rd x0 x9)) - (IntKind.u64.wrap (x3)))) 0) else (none)) else (some x7)
def firkinref07_Put.l2 : Nat → List Int → Int → Int → List Int → Int → Int → Int → Int → Option (List Int)
  | 0, _, _, _, _, _, _, _, _ => none
  | k + 1, x0, x3, x6, x7, x8, x9, x10, x11 => if x11 < x6 then (if (Int.tmod x8 8) = 0 then (if x7.length < 140737488355328 then ((some (x7 ++ [0] : List Int)).bind fun y189 => (if 0 ≤ (wrap64 ((y189.length : Int) - 1)) then (if (wrap64 ((y189.length : Int) - 1)) < (y189.length : Int) then (if 0 ≤ (Int.tmod x8 8) then (firkinref07_Put.l2 k x0 x3 x6 (y189.set ((wrap64 ((y189.length : Int) - 1)) : Int).toNat (((rd y189 (wrap64 ((y189.length : Int) - 1))) + (shl .u8 ((Int.tmod x10 2) % 256) (Int.tmod x8 8))) % 256)) (wrap64 (x8 + 1)) x9 (IntKind.u64.wrap (Int.tdiv x10 2)) (wrap64 (x11 + 1))) else (none)) else (none)) else (none))) else (none)) else (if 0 ≤ (wrap64 ((x7.length : Int) - 1)) then (if (wrap64 ((x7.length : Int) - 1)) < (x7.length : Int) then (if 0 ≤ (Int.tmod x8 8) then (firkinref07_Put.l2 k x0 x3 x6 (x7.set ((wrap64 ((x7.length : Int) - 1)) : Int).toNat (((rd x7 (wrap64 ((x7.length : Int) - 1))) + (shl .u8 ((Int.tmod x10 2) % 256) (Int.tmod x8 8))) % 256)) (wrap64 (x8 + 1)) x9 (IntKind.u64.wrap (Int.tdiv x10 2)) (wrap64 (x11 + 1))) else (none)) else (none)) else (none))) else (firkinref07_Put.l1 k x0 x3 x6 x7 x8 (wrap64 (x9 + 1)))
end
def firkinref07_Put.f (k : Nat) (l0 : List Int) : Option (List Int) := if (l0.length : Int) = 0 then (some ([] : List Int)) else (if 0 < (l0.length : Int) then (firkinref07_Put.l0 k l0 (rd l0 0) (rd l0 0) 0) else (none))
theorem firkinref07_Put.mono_l : ∀ k, (∀ y0 y1 y2 y3, LeO (firkinref07_Put.l0 k y0 y1 y2 y3) (firkinref07_Put.l0 (k + 1) y0 y1 y2 y3)) ∧ (∀ y0 y1 y2 y3 y4 y5, LeO (firkinref07_Put.l1 k y0 y1 y2 y3 y4 y5) (firkinref07_Put.l1 (k + 1) y0 y1 y2 y3 y4 y5)) ∧ (∀ y0 y1 y2 y3 y4 y5 y6 y7, LeO (firkinref07_Put.l2 k y0 y1 y2 y3 y4 y5 y6 y7) (firkinref07_Put.l2 (k + 1) y0 y1 y2 y3 y4 y5 y6 y7))
  | 0 => ⟨fun _ _ _ _ r h => by simp [firkinref07_Put.l0] at h, fun _ _ _ _ _ _ r h => by simp [firkinref07_Put.l1] at h, fun _ _ _ _ _ _ _ _ r h => by simp [firkinref07_Put.l2] at h⟩
  | k + 1 => by
    obtain ⟨ih0, ih1, ih2⟩ := firkinref07_Put.mono_l k
    refine ⟨?_, ?_, ?_⟩
    · intro y0 y1 y2 y3
      unfold firkinref07_Put.l0
      repeat' first
      | (with_reducible exact ih0 _ _ _ _)
      | (with_reducible exact ih1 _ _ _ _ _ _)
      | (with_reducible exact ih2 _ _ _ _ _ _ _ _)
      | (with_reducible exact firkinref01_Int.mono _ _)
      | (with_reducible exact firkinref07_need.mono _ _)
      | (with_reducible exact LeO.refl _)
      | (with_reducible exact LeO.none _)
      | (with_reducible refine LeO.ite ?_ ?_)
      | (with_reducible refine LeO.bind ?_ (fun _ => ?_))
      | exact ih0 _ _ _ _
      | exact ih1 _ _ _ _ _ _
      | exact ih2 _ _ _ _ _ _ _ _
      | exact firkinref01_Int.mono _ _
      | exact firkinref07_need.mono _ _
      | exact LeO.none _
      | refine LeO.ite ?_ ?_
      | refine LeO.bind ?_ (fun _ => ?_)
    · intro y0 y1 y2 y3 y4 y5
      unfold firkinref07_Put.l1
      repeat' first
      | (with_reducible exact ih0 _ _ _ _)
      | (with_reducible exact ih1 _ _ _ _ _ _)
      | (with_reducible exact ih2 _ _ _ _ _ _ _ _)
      | (with_reducible exact firkinref01_Int.mono _ _)
      | (with_reducible exact firkinref07_need.mono _ _)
      | (with_reducible exact LeO.refl _)
      | (with_reducible exact LeO.none _)
      | (with_reducible refine LeO.ite ?_ ?_)
      | (with_reducible refine LeO.bind ?_ (fun _ => ?_))
      | exact ih0 _ _ _ _
      | exact ih1 _ _ _ _ _ _
      | exact ih2 _ _ _ _ _ _ _ _
      | exact firkinref01_Int.mono _ _
      | exact firkinref07_need.mono _ _
      | exact LeO.none _
      | refine LeO.ite ?_ ?_
      | refine LeO.bind ?_ (fun _ => ?_)
    · intro y0 y1 y2 y3 y4 y5 y6 y7
      unfold firkinref07_Put.l2
      repeat' first
      | (with_reducible exact ih0 _ _ _ _)
      | (with_reducible exact ih1 _ _ _ _ _ _)
      | (with_reducible exact ih2 _ _ _ _ _ _ _ _)
      | (with_reducible exact firkinref01_Int.mono _ _)
      | (with_reducible exact firkinref07_need.mono _ _)
      | (with_reducible exact LeO.refl _)
      | (with_reducible exact LeO.none _)
      | (with_reducible refine LeO.ite ?_ ?_)
      | (with_reducible refine LeO.bind ?_ (fun _ => ?_))
      | exact ih0 _ _ _ _
      | exact ih1 _ _ _ _ _ _
      | exact ih2 _ _ _ _ _ _ _ _
      | exact firkinref01_Int.mono _ _
      | exact firkinref07_need.mono _ _
      | exact LeO.none _
      | refine LeO.ite ?_ ?_
      | refine LeO.bind ?_ (fun _ => ?_)
theorem firkinref07_Put.mono : ∀ a0 k, LeO (firkinref07_Put.f k a0) (firkinref07_Put.f (k + 1) a0) := by
  intro a0 k
  obtain ⟨ih0, ih1, ih2⟩ := firkinref07_Put.mono_l k
  unfold firkinref07_Put.f
  repeat' first
      | (with_reducible exact ih0 _ _ _ _)
      | (with_reducible exact ih1 _ _ _ _ _ _)
      | (with_reducible exact ih2 _ _ _ _ _ _ _ _)
      | (with_reducible exact firkinref01_Int.mono _ _)
      | (with_reducible exact firkinref07_need.mono _ _)
      | (with_reducible exact LeO.refl _)
      | (with_reducible exact LeO.none _)
      | (with_reducible refine LeO.ite ?_ ?_)
      | (with_reducible refine LeO.bind ?_ (fun _ => ?_))
      | exact ih0 _ _ _ _
      | exact ih1 _ _ _ _ _ _
      | exact ih2 _ _ _ _ _ _ _ _
      | exact firkinref01_Int.mono _ _
      | exact firkinref07_need.mono _ _
      | exact LeO.none _
      | refine LeO.ite ?_ ?_
      | refine LeO.bind ?_ (fun _ => ?_)
def firkinref07_Put.T3 : Bool × List (List Nat × List Nat) := (true, [([], []), ([0], [0]), ([1], [1]), ([], []), ([3], [3]), ([4], [4]), ([2, 0, 1, 2], [2]), ([5, 6, 0, 1, 2, 3, 4, 5, 6], [5])])
def firkinref07_Put.B3 : List Nat := [0, 1, 3, 0, 8, 24, 7, 127]
theorem firkinref07_Put.tab3 : rtab .any (opsOf Try.f14 3) = firkinref07_Put.T3 := by kernel_rfl
theorem firkinref07_Put.bits3 : waitsOk firkinref07_Put.T3.2 firkinref07_Put.B3 = true := by kernel_rfl
def firkinref07_Put.T23 : Bool × List (List Nat × List Nat) := (true, [([], []), ([], []), ([1], [1]), ([2], [2]), ([], []), ([], []), ([5], [5]), ([6], [6]), ([4, 7], [4, 7]), ([8], [8]), ([], []), ([10], [10]), ([11], [11]), ([], []), ([13], [13]), ([12, 14], [12, 14]), ([9, 15], [9, 15]), ([0, 3, 0, 1, 2, 3, 4, 5, 6, 7, 8, 9, 10, 11, 12, 13, 14, 15, 16], [0, 3]), ([17, 16, 0, 1, 2, 3, 4, 5, 6, 7, 8, 9, 10, 11, 12, 13, 14, 15, 16], [16, 17])])
def firkinref07_Put.B23 : List Nat := [0, 0, 2, 6, 0, 0, 32, 96, 240, 496, 0, 1024, 3072, 0, 8192, 31744, 65520, 131071, 262143]
theorem firkinref07_Put.tab23 : rtab .any (opsOf Try.f14 23) = firkinref07_Put.T23 := by kernel_rfl
theorem firkinref07_Put.bits23 : waitsOk firkinref07_Put.T23.2 firkinref07_Put.B23 = true := by kernel_rfl
set_option maxHeartbeats 8000000 in
set_option maxRecDepth 100000 in
theorem firkinref07_Put.calls (k : Nat) (A0 : Option Addr) (c0 : Nat) (l0 : List Int) (r : List Int) (w : World) (hr0 : Kd.C (Kd.int .i64) w A0 l0.length l0) (hc0 : l0.length ≤ c0) (h : firkinref07_Put.f k l0 = some r) :
    Calls Try.prog 14 #[.slice A0 l0.length c0] w fun e w' => ∃ v0_ : Value, e = .returned (v0_) ∧ Kd.R (Kd.int .u8) 5 w' w.heap.size (fun _ => True) v0_ r ∧ Below w.heap.size w w' := by
  have HR0 := Aside0.mk hr0
  have HC0 := Aside0.mk hc0
  clear hr0 hc0
  have HB := Aside0.mk (Below.refl w.heap.size w)
  have H : (if (l0.length : Int) = 0 then (some ([] : List Int)) else (if 0 < (l0.length : Int) then (firkinref07_Put.l0 k l0 (rd l0 0) (rd l0 0) 0) else (none))) = some r := h
  clear h
  by_cases c2 : (l0.length : Int) = 0
  · rw [if_pos c2] at H
    have c2b0 : ((l0.length : Int) == 0) = true := beq_iff_eq.mpr c2
    have c2b1 : ((l0.length : Int) != 0) = false := bne_eq_false_iff_eq.mpr c2
    clear c2
    obtain rfl := Option.some.inj H
    go_enter Try.func14, Try.ntmps14
    go_wp2
    go_ret
    exact ⟨_, by first | rfl | (simp [errW_none, errW_some] <;> rfl) | (simp [*, errW_none, errW_some] <;> rfl), by first | exact Kd.R_nil _ _ _ _ _ | exact Kd.N_nil _ _ _ _ _ | exact Kd.V_nil _ _ _ _ _ | exact Kd.Q_nil _ _ _ _ _ | exact Kd.S_nil _ _ _ _ _, by repeat (first | (with_reducible first | exact HB.out | apply below_alloc | apply pw_below_drewN | apply below_drew1) | exact HB.out)⟩
  · rw [if_neg c2] at H
    have c2b0 : ((l0.length : Int) == 0) = false := beq_eq_false_iff_ne.mpr c2
    have c2b1 : ((l0.length : Int) != 0) = true := bne_iff_ne.mpr c2
    have c2b2 : ¬ (l0 = []) := fun h_ => c2 (by rw [h_]; rfl)
    by_cases c3 : 0 < (l0.length : Int)
    · rw [if_pos c3] at H
      have c3b0 : decide (0 < (l0.length : Int)) = true := decide_eq_true c3
      have c3b1 : decide (0 < l0.length) = true := decide_eq_true (by omega)
      clear c3
      have H' := Aside0.mk H
      clear H
      go_enter Try.func14, Try.ntmps14
      try go_wp2
      have n0_ := Aside0.mk (below_drew1 HB.out)
      clear HB
      have HB := n0_
      clear n0_
      have p173 : 0 ≤ (0 : Int) := (by omega)
      have q173 : 0 < (l0.length : Int) := of_decide_eq_true (by first | (with_reducible assumption) | assumption)
      obtain ⟨ad173, e173, hx173_0⟩ := Kd.at_int HR0.out 0 p173 q173
      have hw173_0 := hx173_0
      (try rw [show ((0 : Int)).toNat = 0 from rfl] at hw173_0)
      (try rw [show 0 * 1 = 0 from rfl] at hw173_0)
      (try rw [Addr.add_zero'] at hw173_0)
      cases e173
      have qi173 : (0 < l0.length) = True := eq_true (by omega)
      (try rw [show ((0 : Int)).toNat = 0 from rfl] at hx173_0)
      (try rw [Addr.add_zero'] at hx173_0)
      replace hx173_0 := (HB.out.cell (World.block_lt_of_cell? w _ hx173_0)).trans hx173_0
      replace p173 := eq_true p173
      replace q173 := eq_true q173
      have p174 : 0 ≤ (0 : Int) := (by omega)
      have q174 : 0 < (l0.length : Int) := of_decide_eq_true (by first | (with_reducible assumption) | assumption)
      obtain ⟨ad174, e174, hx174_0⟩ := Kd.at_int HR0.out 0 p174 q174
      have hw174_0 := hx174_0
      (try rw [show ((0 : Int)).toNat = 0 from rfl] at hw174_0)
      (try rw [show 0 * 1 = 0 from rfl] at hw174_0)
      (try rw [Addr.add_zero'] at hw174_0)
      obtain rfl : ad173 = ad174 := (by injection e174)
      have qi174 : (0 < l0.length) = True := eq_true (by omega)
      (try rw [show ((0 : Int)).toNat = 0 from rfl] at hx174_0)
      (try rw [Addr.add_zero'] at hx174_0)
      replace hx174_0 := (HB.out.cell (World.block_lt_of_cell? w _ hx174_0)).trans hx174_0
      replace p174 := eq_true p174
      replace q174 := eq_true q174
      refine start_ (n := 8) (S := fun w' => w'.cell? ad173 = some (.int .i64 (rd l0 0)) ∧ w'.cell? ad173 = some (.int .i64 (rd l0 0))) (ds := []) #[false, false, false, false, false, false, false, false] (by kernel_rfl) rfl rfl ⟨((HB.out.cell (World.block_lt_of_cell? w _ hw173_0)).trans hw173_0), ((HB.out.cell (World.block_lt_of_cell? w _ hw174_0)).trans hw174_0)⟩ (fun hHeld => ?_); refine with_tabW firkinref07_Put.tab3 firkinref07_Put.bits3 (fun HT_ HW_ => ?_)
      generalize w.drew = w4 at HB hx173_0 hx174_0 hHeld ⊢
      refine pure_ (i := 0) (N := some 15) (v := ?_) (a' := ?_) #[true, false, false, false, false, false, false, false] rfl rfl (any_of HT_.out (by kernel_rfl)) (fun _ _ _ h => h) (Or.inl ⟨by rfl, ?_⟩) ?_ ?_
      rotate_left
      · intro w'
        go_simp
        with_reducible rfl
      rotate_left
      · simp only [Act.put, List.setIfInBounds_toArray, List.set_cons_zero, List.set_cons_succ, i64_w, i32_w]
        rfl
      refine pure_ (i := 1) (N := some 16) (v := ?_) (a' := ?_) #[true, true, false, false, false, false, false, false] rfl rfl (any_of HT_.out (by kernel_rfl)) (fun _ _ _ h => h) (Or.inl ⟨by rfl, ?_⟩) ?_ ?_
      rotate_left
      · intro w'
        go_simp
        with_reducible rfl
      rotate_left
      · simp only [Act.put, List.setIfInBounds_toArray, List.set_cons_zero, List.set_cons_succ, i64_w, i32_w]
        rfl
      refine pure_ (i := 3) (N := some 18) (v := ?_) (a' := ?_) #[true, true, false, true, false, false, false, false] rfl rfl (any_of HT_.out (by kernel_rfl)) (fun _ _ _ h => h) (Or.inl ⟨by rfl, ?_⟩) ?_ ?_
      rotate_left
      · intro w'
        go_simp
        with_reducible rfl
      rotate_left
      · simp only [Act.put, List.setIfInBounds_toArray, List.set_cons_zero, List.set_cons_succ, i64_w, i32_w]
        rfl
      refine pure_ (i := 4) (N := some 19) (v := ?_) (a' := ?_) #[true, true, false, true, true, false, false, false] rfl rfl (any_of HT_.out (by kernel_rfl)) (fun _ _ _ h => h) (Or.inl ⟨by rfl, ?_⟩) ?_ ?_
      rotate_left
      · intro w'
        go_simp
        with_reducible rfl
      rotate_left
      · simp only [Act.put, List.setIfInBounds_toArray, List.set_cons_zero, List.set_cons_succ, i64_w, i32_w]
        rfl
      refine take_ (i := 2) (N := some 17) (v := ?_) (a' := ?_) #[true, true, true, true, true, false, false, false] rfl rfl (take_ofW HT_.out HW_.out (by kernel_rfl)) (fun _ _ _ h => h) (Or.inl ⟨by rfl, ?_⟩) hHeld ?_ ?_
      rotate_left
      · rintro w' ⟨s0, s1⟩
        go_simp
        with_reducible rfl
      rotate_left
      · simp only [Act.put, List.setIfInBounds_toArray, List.set_cons_zero, List.set_cons_succ, i64_w, i32_w]
        rfl
      refine pure_ (i := 6) (N := some 3) (v := ?_) (a' := ?_) #[true, true, true, true, true, false, true, false] rfl rfl (any_of HT_.out (by kernel_rfl)) (fun _ _ _ h => h) (Or.inl ⟨by rfl, ?_⟩) ?_ ?_
      rotate_left
      · intro w'
        go_simp
        with_reducible rfl
      rotate_left
      · simp only [Act.put, List.setIfInBounds_toArray, List.set_cons_zero, List.set_cons_succ, i64_w, i32_w]
        rfl
      refine take_ (i := 5) (N := some 20) (v := ?_) (a' := ?_) #[true, true, true, true, true, true, true, false] rfl rfl (take_ofW HT_.out HW_.out (by kernel_rfl)) (fun _ _ _ h => h) (Or.inl ⟨by rfl, ?_⟩) hHeld ?_ ?_
      rotate_left
      · rintro w' ⟨s0, s1⟩
        go_simp
        with_reducible rfl
      rotate_left
      · simp only [Act.put, List.setIfInBounds_toArray, List.set_cons_zero, List.set_cons_succ, i64_w, i32_w]
        rfl
      refine pure_ (i := 7) (N := some 4) (v := ?_) (a' := ?_) #[true, true, true, true, true, true, true, true] rfl rfl (any_of HT_.out (by kernel_rfl)) (fun _ _ _ h => h) (Or.inl ⟨by rfl, ?_⟩) ?_ ?_
      rotate_left
      · intro w'
        go_simp
        with_reducible rfl
      rotate_left
      · simp only [Act.put, List.setIfInBounds_toArray, List.set_cons_zero, List.set_cons_succ, i64_w, i32_w]
        rfl
      refine done_ (done_of HT_.out (by kernel_rfl)) ?_
      try go_wp2
      go_loopg [3, 4, 5] k (fun kq v3 v4 v5 w' => ∃ (x3_1 : Int) (x4_1 : Int) (x5_1 : Int), v3 = .int .i64 x3_1 ∧ v4 = .int .i64 x4_1 ∧ v5 = .int .i64 x5_1 ∧ Aside0 (firkinref07_Put.l0 kq l0 x3_1 x4_1 x5_1 = some r) ∧ Aside0 (kq ≤ k) ∧ Aside0 (Below w.heap.size w w'))
      case atStart => exact ⟨(rd l0 0), (rd l0 0), (0), (by first | rfl | (simp; done) | (simp [*]; done)), (by first | rfl | (simp; done) | (simp [*]; done)), (by first | rfl | (simp; done) | (simp [*]; done)), H', ⟨Nat.le_refl _⟩, ⟨by repeat (first | (with_reducible first | exact HB.out | apply below_alloc | apply pw_below_drewN | apply below_drew1) | exact HB.out)⟩⟩
      case round =>
        clear H'
        try clear c1
        try clear p1
        try clear q1
        try clear hx1
        try clear qi1
        try clear c2
        try clear c2b0
        try clear c2b1
        try clear c2b2
        try clear p2
        try clear c3
        try clear c3b0
        try clear c3b1
        try clear hx173_0
        try clear hx174_0
        try clear p173
        try clear p174
        try clear q173
        try clear q174
        obtain ⟨x3_1, x4_1, x5_1, rfl, rfl, rfl, HA, HK1, HB⟩ := hrel
        cases gk with
        | zero => exact absurd HA.out (by simp [firkinref07_Put.l0])
        | succ k1 =>
          have H := HA.out
          clear HA
          simp only [firkinref07_Put.l0] at H
          by_cases c5 : x5_1 < (l0.length : Int)
          · rw [if_pos c5] at H
            have c5b0 : decide (x5_1 < (l0.length : Int)) = true := decide_eq_true c5
            clear c5
            by_cases c6 : 0 ≤ x5_1
            · rw [if_pos c6] at H
              have c6b0 : decide (0 ≤ x5_1) = true := decide_eq_true c6
              clear c6
              by_cases c7 : (rd l0 x5_1) < x3_1
              · rw [if_pos c7] at H
                have c7b0 : decide ((rd l0 x5_1) < x3_1) = true := decide_eq_true c7
                clear c7
                by_cases c8 : (rd l0 x5_1) > x4_1
                · rw [if_pos c8] at H
                  have c8b0 : decide (x4_1 < (rd l0 x5_1)) = true := decide_eq_true c8
                  clear c8
                  have H' := Aside0.mk H
                  clear H
                  have p175 : 0 ≤ (x5_1 : Int) := of_decide_eq_true (by first | (with_reducible assumption) | assumption)
                  have q175 : x5_1 < (l0.length : Int) := of_decide_eq_true (by first | (with_reducible assumption) | assumption)
                  obtain ⟨ad175, e175, hx175_0⟩ := Kd.at_int HR0.out x5_1 p175 q175
                  obtain rfl : ad173 = ad175 := (by injection e175)
                  replace hx175_0 := (HB.out.cell (World.block_lt_of_cell? w _ hx175_0)).trans hx175_0
                  replace p175 := eq_true p175
                  replace q175 := eq_true q175
                  have p176 : 0 ≤ (x5_1 : Int) := of_decide_eq_true (by first | (with_reducible assumption) | assumption)
                  have q176 : x5_1 < (l0.length : Int) := of_decide_eq_true (by first | (with_reducible assumption) | assumption)
                  obtain ⟨ad176, e176, hx176_0⟩ := Kd.at_int HR0.out x5_1 p176 q176
                  obtain rfl : ad173 = ad176 := (by injection e176)
                  replace hx176_0 := (HB.out.cell (World.block_lt_of_cell? w _ hx176_0)).trans hx176_0
                  replace p176 := eq_true p176
                  replace q176 := eq_true q176
                  have p177 : 0 ≤ (x5_1 : Int) := of_decide_eq_true (by first | (with_reducible assumption) | assumption)
                  have q177 : x5_1 < (l0.length : Int) := of_decide_eq_true (by first | (with_reducible assumption) | assumption)
                  obtain ⟨ad177, e177, hx177_0⟩ := Kd.at_int HR0.out x5_1 p177 q177
                  obtain rfl : ad173 = ad177 := (by injection e177)
                  replace hx177_0 := (HB.out.cell (World.block_lt_of_cell? w _ hx177_0)).trans hx177_0
                  replace p177 := eq_true p177
                  replace q177 := eq_true q177
                  have p178 : 0 ≤ (x5_1 : Int) := of_decide_eq_true (by first | (with_reducible assumption) | assumption)
                  have q178 : x5_1 < (l0.length : Int) := of_decide_eq_true (by first | (with_reducible assumption) | assumption)
                  obtain ⟨ad178, e178, hx178_0⟩ := Kd.at_int HR0.out x5_1 p178 q178
                  obtain rfl : ad173 = ad178 := (by injection e178)
                  replace hx178_0 := (HB.out.cell (World.block_lt_of_cell? w _ hx178_0)).trans hx178_0
                  replace p178 := eq_true p178
                  replace q178 := eq_true q178
                  go_wp2
                  go_roundg k1
                  case measure => have := HK1.out; omega
                  case rel => exact ⟨(rd l0 x5_1), (rd l0 x5_1), (wrap64 (x5_1 + 1)), (by first | rfl | (simp; done) | (simp [*]; done)), (by first | rfl | (simp; done) | (simp [*]; done)), (by first | rfl | (simp; done) | (simp [*]; done)), H', ⟨by have := HK1.out; omega⟩, ⟨by repeat (first | (with_reducible first | exact HB.out | apply below_alloc | apply pw_below_drewN | apply below_drew1) | exact HB.out)⟩⟩
                · rw [if_neg c8] at H
                  have c8b0 : decide (x4_1 < (rd l0 x5_1)) = false := decide_eq_false c8
                  clear c8
                  have H' := Aside0.mk H
                  clear H
                  have p175 : 0 ≤ (x5_1 : Int) := of_decide_eq_true (by first | (with_reducible assumption) | assumption)
                  have q175 : x5_1 < (l0.length : Int) := of_decide_eq_true (by first | (with_reducible assumption) | assumption)
                  obtain ⟨ad175, e175, hx175_0⟩ := Kd.at_int HR0.out x5_1 p175 q175
                  obtain rfl : ad173 = ad175 := (by injection e175)
                  replace hx175_0 := (HB.out.cell (World.block_lt_of_cell? w _ hx175_0)).trans hx175_0
                  replace p175 := eq_true p175
                  replace q175 := eq_true q175
                  have p176 : 0 ≤ (x5_1 : Int) := of_decide_eq_true (by first | (with_reducible assumption) | assumption)
                  have q176 : x5_1 < (l0.length : Int) := of_decide_eq_true (by first | (with_reducible assumption) | assumption)
                  obtain ⟨ad176, e176, hx176_0⟩ := Kd.at_int HR0.out x5_1 p176 q176
                  obtain rfl : ad173 = ad176 := (by injection e176)
                  replace hx176_0 := (HB.out.cell (World.block_lt_of_cell? w _ hx176_0)).trans hx176_0
                  replace p176 := eq_true p176
                  replace q176 := eq_true q176
                  have p177 : 0 ≤ (x5_1 : Int) := of_decide_eq_true (by first | (with_reducible assumption) | assumption)
                  have q177 : x5_1 < (l0.length : Int) := of_decide_eq_true (by first | (with_reducible assumption) | assumption)
                  obtain ⟨ad177, e177, hx177_0⟩ := Kd.at_int HR0.out x5_1 p177 q177
                  obtain rfl : ad173 = ad177 := (by injection e177)
                  replace hx177_0 := (HB.out.cell (World.block_lt_of_cell? w _ hx177_0)).trans hx177_0
                  replace p177 := eq_true p177
                  replace q177 := eq_true q177
                  go_wp2
                  go_roundg k1
                  case measure => have := HK1.out; omega
                  case rel => exact ⟨(rd l0 x5_1), (x4_1), (wrap64 (x5_1 + 1)), (by first | rfl | (simp; done) | (simp [*]; done)), (by first | rfl | (simp; done) | (simp [*]; done)), (by first | rfl | (simp; done) | (simp [*]; done)), H', ⟨by have := HK1.out; omega⟩, ⟨by repeat (first | (with_reducible first | exact HB.out | apply below_alloc | apply pw_below_drewN | apply below_drew1) | exact HB.out)⟩⟩
              · rw [if_neg c7] at H
                have c7b0 : decide ((rd l0 x5_1) < x3_1) = false := decide_eq_false c7
                clear c7
                by_cases c9 : (rd l0 x5_1) > x4_1
                · rw [if_pos c9] at H
                  have c9b0 : decide (x4_1 < (rd l0 x5_1)) = true := decide_eq_true c9
                  clear c9
                  have H' := Aside0.mk H
                  clear H
                  have p175 : 0 ≤ (x5_1 : Int) := of_decide_eq_true (by first | (with_reducible assumption) | assumption)
                  have q175 : x5_1 < (l0.length : Int) := of_decide_eq_true (by first | (with_reducible assumption) | assumption)
                  obtain ⟨ad175, e175, hx175_0⟩ := Kd.at_int HR0.out x5_1 p175 q175
                  obtain rfl : ad173 = ad175 := (by injection e175)
                  replace hx175_0 := (HB.out.cell (World.block_lt_of_cell? w _ hx175_0)).trans hx175_0
                  replace p175 := eq_true p175
                  replace q175 := eq_true q175
                  have p179 : 0 ≤ (x5_1 : Int) := of_decide_eq_true (by first | (with_reducible assumption) | assumption)
                  have q179 : x5_1 < (l0.length : Int) := of_decide_eq_true (by first | (with_reducible assumption) | assumption)
                  obtain ⟨ad179, e179, hx179_0⟩ := Kd.at_int HR0.out x5_1 p179 q179
                  obtain rfl : ad173 = ad179 := (by injection e179)
                  replace hx179_0 := (HB.out.cell (World.block_lt_of_cell? w _ hx179_0)).trans hx179_0
                  replace p179 := eq_true p179
                  replace q179 := eq_true q179
                  have p180 : 0 ≤ (x5_1 : Int) := of_decide_eq_true (by first | (with_reducible assumption) | assumption)
                  have q180 : x5_1 < (l0.length : Int) := of_decide_eq_true (by first | (with_reducible assumption) | assumption)
                  obtain ⟨ad180, e180, hx180_0⟩ := Kd.at_int HR0.out x5_1 p180 q180
                  obtain rfl : ad173 = ad180 := (by injection e180)
                  replace hx180_0 := (HB.out.cell (World.block_lt_of_cell? w _ hx180_0)).trans hx180_0
                  replace p180 := eq_true p180
                  replace q180 := eq_true q180
                  go_wp2
                  go_roundg k1
                  case measure => have := HK1.out; omega
                  case rel => exact ⟨(x3_1), (rd l0 x5_1), (wrap64 (x5_1 + 1)), (by first | rfl | (simp; done) | (simp [*]; done)), (by first | rfl | (simp; done) | (simp [*]; done)), (by first | rfl | (simp; done) | (simp [*]; done)), H', ⟨by have := HK1.out; omega⟩, ⟨by repeat (first | (with_reducible first | exact HB.out | apply below_alloc | apply pw_below_drewN | apply below_drew1) | exact HB.out)⟩⟩
                · rw [if_neg c9] at H
                  have c9b0 : decide (x4_1 < (rd l0 x5_1)) = false := decide_eq_false c9
                  clear c9
                  have H' := Aside0.mk H
                  clear H
                  have p175 : 0 ≤ (x5_1 : Int) := of_decide_eq_true (by first | (with_reducible assumption) | assumption)
                  have q175 : x5_1 < (l0.length : Int) := of_decide_eq_true (by first | (with_reducible assumption) | assumption)
                  obtain ⟨ad175, e175, hx175_0⟩ := Kd.at_int HR0.out x5_1 p175 q175
                  obtain rfl : ad173 = ad175 := (by injection e175)
                  replace hx175_0 := (HB.out.cell (World.block_lt_of_cell? w _ hx175_0)).trans hx175_0
                  replace p175 := eq_true p175
                  replace q175 := eq_true q175
                  have p179 : 0 ≤ (x5_1 : Int) := of_decide_eq_true (by first | (with_reducible assumption) | assumption)
                  have q179 : x5_1 < (l0.length : Int) := of_decide_eq_true (by first | (with_reducible assumption) | assumption)
                  obtain ⟨ad179, e179, hx179_0⟩ := Kd.at_int HR0.out x5_1 p179 q179
                  obtain rfl : ad173 = ad179 := (by injection e179)
                  replace hx179_0 := (HB.out.cell (World.block_lt_of_cell? w _ hx179_0)).trans hx179_0
                  replace p179 := eq_true p179
                  replace q179 := eq_true q179
                  go_wp2
                  go_roundg k1
                  case measure => have := HK1.out; omega
                  case rel => exact ⟨(x3_1), (x4_1), (wrap64 (x5_1 + 1)), (by first | rfl | (simp; done) | (simp [*]; done)), (by first | rfl | (simp; done) | (simp [*]; done)), (by first | rfl | (simp; done) | (simp [*]; done)), H', ⟨by have := HK1.out; omega⟩, ⟨by repeat (first | (with_reducible first | exact HB.out | apply below_alloc | apply pw_below_drewN | apply below_drew1) | exact HB.out)⟩⟩
            · rw [if_neg c6] at H
              exact absurd H (by simp)
          · rw [if_neg c5] at H
            have c5b0 : decide (x5_1 < (l0.length : Int)) = false := decide_eq_false c5
            clear c5
            replace H := Option.bind_eq_some_iff.mp H
            obtain ⟨t181, A100, H⟩ := H
            replace H : ((firkinref01_Int.f k1 x3_1).bind fun t182 => (if t182.length < 140737488355328 then (firkinref07_Put.l1 k1 l0 x3_1 t181 (t182 ++ [(t181) % 256]) 0 0) else (none))) = some r := H
            have A10 := Aside0.mk A100
            clear A100
            replace H := Option.bind_eq_some_iff.mp H
            obtain ⟨t182, A110, H⟩ := H
            replace H : (if t182.length < 140737488355328 then (firkinref07_Put.l1 k1 l0 x3_1 t181 (t182 ++ [(t181) % 256]) 0 0) else (none)) = some r := H
            have A11 := Aside0.mk A110
            clear A110
            by_cases c12 : t182.length < 140737488355328
            · rw [if_pos c12] at H
              have LMc12 := Aside0.mk c12
              clear c12
              obtain ⟨y185, hy185⟩ : ∃ y_ : List Int, y_ = (t182 ++ [(t181) % 256]) := ⟨_, rfl⟩
              replace H : (firkinref07_Put.l1 k1 l0 x3_1 t181 y185 0 0) = some r := by first | (rw [hy185]; with_reducible exact H) | (have H2_ := (Option.bind_some _ _).symm.trans H; rw [hy185]; with_reducible exact H2_) | (have H2_ := (Option.bind_some _ _).symm.trans H; with_reducible exact H2_) | with_reducible exact H | (rw [hy185]; exact H) | exact H
              have Ny185 := Aside0.mk hy185
              clear hy185
              have H' := Aside0.mk H
              clear H
              go_wp2_with (first | ((with_reducible refine gate_callee (f := 50) rfl ?_); refine goesL_ (some 52) rfl rfl Try.func50 (by kernel_rfl) rfl #[.int .u64 (IntKind.u64.wrap ((IntKind.u64.wrap (x4_1)) - (IntKind.u64.wrap (x3_1))))] rfl (by (try simp only [List.map_toArray, List.map_cons, List.map_nil]); first | done | rfl | (simp only [List.length_drop, List.length_take]; rfl)) ?_; (with_reducible refine (firkinref07_need.calls k1 (IntKind.u64.wrap ((IntKind.u64.wrap (x4_1)) - (IntKind.u64.wrap (x3_1)))) t181 _ A10.out).mono ?_); rintro e w' ⟨rfl, ⟨nd, rfl⟩⟩; refine ⟨_, rfl, ?_⟩) | ((with_reducible refine gate_callee (f := 51) rfl ?_); refine goesL_ (some 54) rfl rfl Try.func51 (by kernel_rfl) rfl #[.int .i64 x3_1] rfl (by (try simp only [List.map_toArray, List.map_cons, List.map_nil]); first | done | rfl | (simp only [List.length_drop, List.length_take]; rfl)) ?_; (with_reducible refine (firkinref01_Int.calls k1 x3_1 t182 _ A11.out).mono ?_); rintro e w13 ⟨v183, rfl, ho0, hb⟩; refine ⟨_, rfl, ?_⟩; have n0_ := Aside0.mk (Kd.R_lower ho0 (below_size (by repeat (first | (with_reducible first | exact HB.out | apply below_alloc | apply pw_below_drewN | apply below_drew1) | exact HB.out)))); have n1_ := Aside0.mk (below_step (by repeat (first | (with_reducible first | exact HB.out | apply below_alloc | apply pw_below_drewN | apply below_drew1) | exact HB.out)) hb); clear HB; have HO184 := n0_; have HB := n1_; clear n0_ n1_; (try clear hb); (try clear hb2); (try clear hk); (try clear hi); (try clear ho0)) | ((with_reducible refine gate_builtin (b := .append) (xs := #[.tmp 54, .tmp 57]) rfl ?_); at_builtin; refine Kd.R_append (Kd.int .u8) (w0 := w) w.heap.size rfl (.tmp 54) (.tmp 57) 24 5 (.int .u8 0) 1 rfl Try.underlying24 info5 rfl (by decide) (by omega) v183 t182 ((t181) % 256) [.int .u8 ((t181) % 256)] (fun _ => True) (fun _ => False) rfl rfl ?aP (fun _ hk => hk.elim) ?aF ?aO ?aB ?aS ?aL ?_; (case aP => exact rfl); (case aB => exact (by repeat (first | (with_reducible first | exact HB.out | apply below_alloc | apply pw_below_drewN | apply below_drew1) | exact HB.out))); (case aF => exact (fun _ _ => trivial)); (case aO => exact (by (with_reducible repeat (first | apply Kd.R_alloc | apply Kd.R_drewN | apply Kd.R_drew)); exact HO184.out)); (case aS => exact (below_size (by repeat (first | (with_reducible first | exact HB.out | apply below_alloc | apply pw_below_drewN | apply below_drew1) | exact HB.out)))); (case aL => have := LMc12.out; omega); intro v186 w14 ho hb hg hat; rw [← Ny185.out] at ho; have n0_ := Aside0.mk (hb); have n1_ := Aside0.mk (ho); clear HB; clear HO184; have HB := n0_; have HO187 := n1_; clear n0_ n1_; clear ho hb hg hat))
              go_loopg [7, 8, 9] k1 (fun kq v7 v8 v9 w' => ∃ (x7_2 : List Int) (x8_2 : Int) (x9_2 : Int), v8 = .int .i64 x8_2 ∧ v9 = .int .i64 x9_2 ∧ Aside0 (firkinref07_Put.l1 kq l0 x3_1 t181 x7_2 x8_2 x9_2 = some r) ∧ Aside0 (kq ≤ k1) ∧ Aside0 (Kd.R (Kd.int .u8) 5 w' w.heap.size (fun _ => True) v7 x7_2) ∧ Aside0 (Below w.heap.size w w'))
              case atStart => exact ⟨(y185), (0), (0), (by first | rfl | (simp; done) | (simp [*]; done)), (by first | rfl | (simp; done) | (simp [*]; done)), H', ⟨Nat.le_refl _⟩, ⟨by (with_reducible repeat (first | apply Kd.R_alloc | apply Kd.R_drewN | apply Kd.R_drew)); exact HO187.out⟩, ⟨by repeat (first | (with_reducible first | exact HB.out | apply below_alloc | apply pw_below_drewN | apply below_drew1) | exact HB.out)⟩⟩
              case round =>
                clear H'
                try clear c1
                try clear p1
                try clear q1
                try clear hx1
                try clear qi1
                try clear c2
                try clear c2b0
                try clear c2b1
                try clear c2b2
                try clear p2
                try clear c3
                try clear c3b0
                try clear c3b1
                try clear c5
                try clear c5b0
                try clear c6
                try clear c6b0
                try clear p6
                try clear c7
                try clear c7b0
                try clear c8
                try clear c8b0
                try clear c9
                try clear c9b0
                try clear c12
                try clear c14
                try clear hx173_0
                try clear hx174_0
                try clear hx175_0
                try clear hx176_0
                try clear hx177_0
                try clear hx178_0
                try clear hx179_0
                try clear hx180_0
                try clear p1
                try clear p173
                try clear p174
                try clear p175
                try clear p176
                try clear p177
                try clear p178
                try clear p179
                try clear p180
                try clear p2
                try clear q1
                try clear q173
                try clear q174
                try clear q175
                try clear q176
                try clear q177
                try clear q178
                try clear q179
                try clear q180
                obtain ⟨x7_2, x8_2, x9_2, rfl, rfl, HA, HK2, HO_7, HB⟩ := hrel
                cases gk with
                | zero => exact absurd HA.out (by simp [firkinref07_Put.l1])
                | succ k2 =>
                  have H := HA.out
                  clear HA
                  simp only [firkinref07_Put.l1] at H
                  by_cases c15 : x9_2 < (l0.length : Int)
                  · rw [if_pos c15] at H
                    have c15b0 : decide (x9_2 < (l0.length : Int)) = true := decide_eq_true c15
                    clear c15
                    by_cases c16 : 0 ≤ x9_2
                    · rw [if_pos c16] at H
                      have c16b0 : decide (0 ≤ x9_2) = true := decide_eq_true c16
                      clear c16
                      have H' := Aside0.mk H
                      clear H
                      have p188 : 0 ≤ (x9_2 : Int) := of_decide_eq_true (by first | (with_reducible assumption) | assumption)
                      have q188 : x9_2 < (l0.length : Int) := of_decide_eq_true (by first | (with_reducible assumption) | assumption)
                      obtain ⟨ad188, e188, hx188_0⟩ := Kd.at_int HR0.out x9_2 p188 q188
                      obtain rfl : ad173 = ad188 := (by injection e188)
                      replace hx188_0 := (HB.out.cell (World.block_lt_of_cell? w _ hx188_0)).trans hx188_0
                      replace p188 := eq_true p188
                      replace q188 := eq_true q188
                      go_wp2
                      go_loopg [7, 8, 10, 11] k2 (fun kq v7 v8 v10 v11 w' => ∃ (x7_3 : List Int) (x8_3 : Int) (x10_3 : Int) (x11_3 : Int), v8 = .int .i64 x8_3 ∧ v10 = .int .u64 x10_3 ∧ v11 = .int .i64 x11_3 ∧ Aside0 (firkinref07_Put.l2 kq l0 x3_1 t181 x7_3 x8_3 x9_2 x10_3 x11_3 = some r) ∧ Aside0 (kq ≤ k2) ∧ Aside0 (Kd.R (Kd.int .u8) 5 w' w.heap.size (fun _ => True) v7 x7_3) ∧ Aside0 (Below w.heap.size w w'))
                      case atStart => exact ⟨(x7_2), (x8_2), (IntKind.u64.wrap ((IntKind.u64.wrap (rd l0 x9_2)) - (IntKind.u64.wrap (x3_1)))), (0), (by first | rfl | (simp; done) | (simp [*]; done)), (by first | rfl | (simp; done) | (simp [*]; done)), (by first | rfl | (simp; done) | (simp [*]; done)), H', ⟨Nat.le_refl _⟩, ⟨by (with_reducible repeat (first | apply Kd.R_alloc | apply Kd.R_drewN | apply Kd.R_drew)); exact HO_7.out⟩, ⟨by repeat (first | (with_reducible first | exact HB.out | apply below_alloc | apply pw_below_drewN | apply below_drew1) | exact HB.out)⟩⟩
                      case round =>
                        clear H'
                        try clear c1
                        try clear p1
                        try clear q1
                        try clear hx1
                        try clear qi1
                        try clear c2
                        try clear c2b0
                        try clear c2b1
                        try clear c2b2
                        try clear p2
                        try clear c3
                        try clear c3b0
                        try clear c3b1
                        try clear c5
                        try clear c5b0
                        try clear c6
                        try clear c6b0
                        try clear p6
                        try clear c7
                        try clear c7b0
                        try clear c8
                        try clear c8b0
                        try clear c9
                        try clear c9b0
                        try clear c12
                        try clear c14
                        try clear c15
                        try clear c15b0
                        try clear c16
                        try clear c16b0
                        try clear hx173_0
                        try clear hx174_0
                        try clear hx175_0
                        try clear hx176_0
                        try clear hx177_0
                        try clear hx178_0
                        try clear hx179_0
                        try clear hx180_0
                        try clear hx188_0
                        try clear p1
                        try clear p173
                        try clear p174
                        try clear p175
                        try clear p176
                        try clear p177
                        try clear p178
                        try clear p179
                        try clear p180
                        try clear p188
                        try clear p2
                        try clear p6
                        try clear q1
                        try clear q173
                        try clear q174
                        try clear q175
                        try clear q176
                        try clear q177
                        try clear q178
                        try clear q179
                        try clear q180
                        try clear q188
                        obtain ⟨x7_3, x8_3, x10_3, x11_3, rfl, rfl, rfl, HA, HK3, HO_7, HB⟩ := hrel
                        cases gk with
                        | zero => exact absurd HA.out (by simp [firkinref07_Put.l2])
                        | succ k3 =>
                          have H := HA.out
                          clear HA
                          simp only [firkinref07_Put.l2] at H
                          by_cases c17 : x11_3 < t181
                          · rw [if_pos c17] at H
                            have c17b0 : decide (x11_3 < t181) = true := decide_eq_true c17
                            clear c17
                            by_cases c18 : (Int.tmod x8_3 8) = 0
                            · rw [if_pos c18] at H
                              have c18b0 : ((Int.tmod x8_3 8) == 0) = true := beq_iff_eq.mpr c18
                              have c18b1 : ((Int.tmod x8_3 8) != 0) = false := bne_eq_false_iff_eq.mpr c18
                              clear c18
                              by_cases c19 : x7_3.length < 140737488355328
                              · rw [if_pos c19] at H
                                have LMc19 := Aside0.mk c19
                                clear c19
                                obtain ⟨y189, hy189⟩ : ∃ y_ : List Int, y_ = (x7_3 ++ [0]) := ⟨_, rfl⟩
                                replace H : (if 0 ≤ (wrap64 ((y189.length : Int) - 1)) then (if (wrap64 ((y189.length : Int) - 1)) < (y189.length : Int) then (if 0 ≤ (Int.tmod x8_3 8) then (firkinref07_Put.l2 k3 l0 x3_1 t181 (y189.set ((wrap64 ((y189.length : Int) - 1)) : Int).toNat (((rd y189 (wrap64 ((y189.length : Int) - 1))) + (shl .u8 ((Int.tmod x10_3 2) % 256) (Int.tmod x8_3 8))) % 256)) (wrap64 (x8_3 + 1)) x9_2 (IntKind.u64.wrap (Int.tdiv x10_3 2)) (wrap64 (x11_3 + 1))) else (none)) else (none)) else (none)) = some r := by first | (rw [hy189]; with_reducible exact H) | (have H2_ := (Option.bind_some _ _).symm.trans H; rw [hy189]; with_reducible exact H2_) | (have H2_ := (Option.bind_some _ _).symm.trans H; with_reducible exact H2_) | with_reducible exact H | (rw [hy189]; exact H) | exact H
                                have Ny189 := Aside0.mk hy189
                                clear hy189
                                obtain ⟨ji20, hji20⟩ : ∃ j_ : Int, (wrap64 ((y189.length : Int) - 1)) = j_ := ⟨_, rfl⟩
                                replace H : (if 0 ≤ (ji20) then (if (ji20) < (y189.length : Int) then (if 0 ≤ (Int.tmod x8_3 8) then (firkinref07_Put.l2 k3 l0 x3_1 t181 (y189.set ((ji20) : Int).toNat (((rd y189 (ji20)) + (shl .u8 ((Int.tmod x10_3 2) % 256) (Int.tmod x8_3 8))) % 256)) (wrap64 (x8_3 + 1)) x9_2 (IntKind.u64.wrap (Int.tdiv x10_3 2)) (wrap64 (x11_3 + 1))) else (none)) else (none)) else (none)) = some r := by first | (rw [hji20] at H; exact H) | (simp only [hji20] at H ⊢; exact H)
                                have hji20w : (IntKind.i64.wrap ((y189.length : Int) - 1)) = ji20 := (i64_w _).trans hji20
                                by_cases c21 : 0 ≤ (ji20)
                                · rw [if_pos c21] at H
                                  have c21b0 : decide (0 ≤ (ji20)) = true := decide_eq_true c21
                                  clear c21
                                  by_cases c22 : (ji20) < (y189.length : Int)
                                  · rw [if_pos c22] at H
                                    have c22b0 : decide ((ji20) < (y189.length : Int)) = true := decide_eq_true c22
                                    clear c22
                                    obtain ⟨ji23, hji23⟩ : ∃ j_ : Int, (Int.tmod x8_3 8) = j_ := ⟨_, rfl⟩
                                    replace H : (if 0 ≤ (ji23) then (firkinref07_Put.l2 k3 l0 x3_1 t181 (y189.set ((ji20) : Int).toNat (((rd y189 (ji20)) + (shl .u8 ((Int.tmod x10_3 2) % 256) (ji23))) % 256)) (wrap64 (x8_3 + 1)) x9_2 (IntKind.u64.wrap (Int.tdiv x10_3 2)) (wrap64 (x11_3 + 1))) else (none)) = some r := by first | (rw [hji23] at H; exact H) | (simp only [hji23] at H ⊢; exact H)
                                    (try rw [hji23] at c18b0)
                                    (try rw [hji23] at c18b1)
                                    by_cases c24 : 0 ≤ (ji23)
                                    · rw [if_pos c24] at H
                                      have c24b0 := eq_true c24
                                      have c24b1 : decide (0 ≤ (ji23)) = true := decide_eq_true c24
                                      clear c24
                                      obtain ⟨ji25, hji25⟩ : ∃ j_ : Int, (shl .u8 ((Int.tmod x10_3 2) % 256) (ji23)) = j_ := ⟨_, rfl⟩
                                      replace H : (firkinref07_Put.l2 k3 l0 x3_1 t181 (y189.set ((ji20) : Int).toNat (((rd y189 (ji20)) + (ji25)) % 256)) (wrap64 (x8_3 + 1)) x9_2 (IntKind.u64.wrap (Int.tdiv x10_3 2)) (wrap64 (x11_3 + 1))) = some r := by first | (rw [hji25] at H; exact H) | (simp only [hji25] at H ⊢; exact H)
                                      have hji25_ : (IntKind.u8.wrap (((Int.tmod x10_3 2) % 256) * 2 ^ min (ji23).toNat 8)) = ji25 := hji25
                                      have hji25z : (ji23) ≤ 8 → (IntKind.u8.wrap (((Int.tmod x10_3 2) % 256) * 2 ^ (ji23).toNat)) = ji25 := shl_small hji25
                                      have hji25y : ∀ a_ : Int, (a_ + ((Int.tmod x10_3 2) % 256) * 2 ^ min (ji23).toNat 8) % 256 = (a_ + ji25) % 256 := fun a_ => by rw [← hji25_, IntKind.wrap_u8]; omega
                                      have hji25w : (ji23) ≤ 8 → ∀ a_ : Int, (a_ + ((Int.tmod x10_3 2) % 256) * 2 ^ (ji23).toNat) % 256 = (a_ + ji25) % 256 := fun h_ a_ => by rw [← hji25z h_, IntKind.wrap_u8]; omega
                                      (try have hji25v := hji25w (by rw [← hji23]; exact Int.le_of_lt (Int.tmod_lt_of_pos _ (by decide))))
                                      obtain ⟨y193, hy193⟩ : ∃ y_ : List Int, y_ = (y189.set ((ji20) : Int).toNat (((rd y189 (ji20)) + (ji25)) % 256)) := ⟨_, rfl⟩
                                      replace H : (firkinref07_Put.l2 k3 l0 x3_1 t181 y193 (wrap64 (x8_3 + 1)) x9_2 (IntKind.u64.wrap (Int.tdiv x10_3 2)) (wrap64 (x11_3 + 1))) = some r := by first | (rw [hy193]; with_reducible exact H) | (have H2_ := (Option.bind_some _ _).symm.trans H; rw [hy193]; with_reducible exact H2_) | (have H2_ := (Option.bind_some _ _).symm.trans H; with_reducible exact H2_) | with_reducible exact H | (rw [hy193]; exact H) | exact H
                                      have Ny193 := Aside0.mk hy193
                                      clear hy193
                                      have H' := Aside0.mk H
                                      clear H
                                      try go_wp2_with (first | ((with_reducible refine gate_builtin (b := .append) (xs := #[.tmp 81, .tmp 82]) rfl ?_); at_builtin; refine Kd.R_append (Kd.int .u8) (w0 := w) w.heap.size rfl (.tmp 81) (.tmp 82) 24 5 (.int .u8 0) 1 rfl Try.underlying24 info5 rfl (by decide) (by omega) u7 x7_3 0 [.int .u8 0] (fun _ => True) (fun _ => False) rfl rfl ?aP (fun _ hk => hk.elim) ?aF ?aO ?aB ?aS ?aL ?_; (case aP => exact rfl); (case aB => exact (by repeat (first | (with_reducible first | exact HB.out | apply below_alloc | apply pw_below_drewN | apply below_drew1) | exact HB.out))); (case aF => exact (fun _ _ => trivial)); (case aO => exact (by (with_reducible repeat (first | apply Kd.R_alloc | apply Kd.R_drewN | apply Kd.R_drew)); exact HO_7.out)); (case aS => exact (below_size (by repeat (first | (with_reducible first | exact HB.out | apply below_alloc | apply pw_below_drewN | apply below_drew1) | exact HB.out)))); (case aL => have := LMc19.out; omega); intro v190 w27 ho hb hg hat; rw [← Ny189.out] at ho; have n0_ := Aside0.mk (hb); have n1_ := Aside0.mk (ho); clear HB; clear HO_7; have HB := n0_; have HO191 := n1_; clear n0_ n1_; clear ho hb hg hat))
                                      have n0_ := Aside0.mk (Kd.R_drew HO191.out)
                                      have n1_ := Aside0.mk (below_drew1 HB.out)
                                      clear HO191
                                      clear HB
                                      have HO191 := n0_
                                      have HB := n1_
                                      clear n0_ n1_
                                      obtain ⟨Ao29, co29, eo29⟩ := Kd.R_slice HO191.out
                                      (first | subst eo29 | (injection eo29 with f1_ f2_ f3_; have f4_ := f1_.symm; have f5_ := f3_.symm; clear f1_ f2_ f3_; subst f4_; subst f5_))
                                      have p192 : 0 ≤ ((ji20) : Int) := of_decide_eq_true (by first | (with_reducible assumption) | assumption)
                                      have q192 : (ji20) < (y189.length : Int) := of_decide_eq_true (by first | (with_reducible assumption) | assumption)
                                      obtain ⟨ad192, e192, hx192_0⟩ := Kd.at_int (Kd.R_reads' HO191.out).2.2 (ji20) p192 q192
                                      cases e192
                                      replace p192 := eq_true p192
                                      replace q192 := eq_true q192
                                      have p26 : 0 ≤ ((ji20) : Int) := of_decide_eq_true (by first | (with_reducible assumption) | assumption)
                                      have q26 : ((ji20) : Int) < ((y189.length : Int) : Int) := of_decide_eq_true (by first | (with_reducible assumption) | assumption)
                                      obtain ⟨go26, co26, eo26, gb26, gl26, cl26, HG26⟩ := Kd.R_form HO191.out (by omega)
                                      (first | cases eo26 | (injection eo26 with ea_ en_ ec_; (first | subst ea_ | (injection ea_ with ea_; subst ea_)); subst ec_; clear en_))
                                      have GB26 := Aside0.mk gb26
                                      have GG26 := Aside0.mk HG26
                                      clear gb26 gl26 HG26
                                      (first | simp only [add_plain] at hx192_0 | skip)
                                      obtain ⟨hx26_0, hf26_0⟩ := Kd.R_celln 0 HO191.out ((ji20) : Int) p26 q26
                                      replace p26 := eq_true p26
                                      replace q26 := eq_true q26
                                      have HP30 := Kd.R_putn HO191.out ((ji20) : Int) (((rd y189 (ji20)) + (ji25)) % 256)
                                      rw [← Ny193.out] at HP30
                                      have HQ30 := Aside0.mk HP30
                                      clear HP30
                                      refine start_ (n := 19) (S := fun w' => w'.cell? ⟨go26, ((ji20)).toNat, none⟩ = some (.int .u8 (rd y189 (ji20)))) (ds := [18]) #[false, false, false, false, false, false, false, false, false, false, false, false, false, false, false, false, false, false, false] (by kernel_rfl) rfl rfl (hx192_0) (fun hHeld => ?_); refine with_tabW firkinref07_Put.tab23 firkinref07_Put.bits23 (fun HT_ HW_ => ?_)
                                      generalize w27.drew = w28 at HO191 HB GG26 HQ30 hf26_0 hx192_0 hx26_0 hHeld ⊢
                                      refine pure_ (i := 0) (N := some 84) (v := ?_) (a' := ?_) #[true, false, false, false, false, false, false, false, false, false, false, false, false, false, false, false, false, false, false] rfl rfl (any_of HT_.out (by kernel_rfl)) (fun _ _ _ h => h) (Or.inl ⟨by rfl, ?_⟩) ?_ ?_
                                      rotate_left
                                      · intro w'
                                        go_simp
                                        with_reducible rfl
                                      rotate_left
                                      · simp only [Act.put, List.setIfInBounds_toArray, List.set_cons_zero, List.set_cons_succ, i64_w, i32_w]
                                        rfl
                                      refine pure_ (i := 1) (N := some 85) (v := ?_) (a' := ?_) #[true, true, false, false, false, false, false, false, false, false, false, false, false, false, false, false, false, false, false] rfl rfl (any_of HT_.out (by kernel_rfl)) (fun _ _ _ h => h) (Or.inl ⟨by rfl, ?_⟩) ?_ ?_
                                      rotate_left
                                      · intro w'
                                        go_simp
                                        with_reducible rfl
                                      rotate_left
                                      · simp only [Act.put, List.setIfInBounds_toArray, List.set_cons_zero, List.set_cons_succ, i64_w, i32_w]
                                        rfl
                                      refine pure_ (i := 2) (N := some 86) (v := ?_) (a' := ?_) #[true, true, true, false, false, false, false, false, false, false, false, false, false, false, false, false, false, false, false] rfl rfl (any_of HT_.out (by kernel_rfl)) (fun _ _ _ h => h) (Or.inl ⟨by rfl, ?_⟩) ?_ ?_
                                      rotate_left
                                      · intro w'
                                        go_simp
                                        with_reducible rfl
                                      rotate_left
                                      · simp only [Act.put, List.setIfInBounds_toArray, List.set_cons_zero, List.set_cons_succ, i64_w, i32_w]
                                        rfl
                                      refine pure_ (i := 3) (N := some 87) (v := ?_) (a' := ?_) #[true, true, true, true, false, false, false, false, false, false, false, false, false, false, false, false, false, false, false] rfl rfl (any_of HT_.out (by kernel_rfl)) (fun _ _ _ h => h) (Or.inl ⟨by rfl, ?_⟩) ?_ ?_
                                      rotate_left
                                      · intro w'
                                        go_simp
                                        with_reducible rfl
                                      rotate_left
                                      · simp only [Act.put, List.setIfInBounds_toArray, List.set_cons_zero, List.set_cons_succ, i64_w, i32_w]
                                        rfl
                                      refine pure_ (i := 4) (N := some 88) (v := ?_) (a' := ?_) #[true, true, true, true, true, false, false, false, false, false, false, false, false, false, false, false, false, false, false] rfl rfl (any_of HT_.out (by kernel_rfl)) (fun _ _ _ h => h) (Or.inl ⟨by rfl, ?_⟩) ?_ ?_
                                      rotate_left
                                      · intro w'
                                        go_simp
                                        with_reducible rfl
                                      rotate_left
                                      · simp only [Act.put, List.setIfInBounds_toArray, List.set_cons_zero, List.set_cons_succ, i64_w, i32_w]
                                        rfl
                                      refine pure_ (i := 5) (N := some 89) (v := ?_) (a' := ?_) #[true, true, true, true, true, true, false, false, false, false, false, false, false, false, false, false, false, false, false] rfl rfl (any_of HT_.out (by kernel_rfl)) (fun _ _ _ h => h) (Or.inl ⟨by rfl, ?_⟩) ?_ ?_
                                      rotate_left
                                      · intro w'
                                        go_simp
                                        with_reducible rfl
                                      rotate_left
                                      · simp only [Act.put, List.setIfInBounds_toArray, List.set_cons_zero, List.set_cons_succ, i64_w, i32_w]
                                        rfl
                                      refine pure_ (i := 6) (N := some 90) (v := ?_) (a' := ?_) #[true, true, true, true, true, true, true, false, false, false, false, false, false, false, false, false, false, false, false] rfl rfl (any_of HT_.out (by kernel_rfl)) (fun _ _ _ h => h) (Or.inl ⟨by rfl, ?_⟩) ?_ ?_
                                      rotate_left
                                      · intro w'
                                        go_simp
                                        with_reducible rfl
                                      rotate_left
                                      · simp only [Act.put, List.setIfInBounds_toArray, List.set_cons_zero, List.set_cons_succ, i64_w, i32_w]
                                        rfl
                                      refine pure_ (i := 7) (N := some 91) (v := ?_) (a' := ?_) #[true, true, true, true, true, true, true, true, false, false, false, false, false, false, false, false, false, false, false] rfl rfl (any_of HT_.out (by kernel_rfl)) (fun _ _ _ h => h) (Or.inl ⟨by rfl, ?_⟩) ?_ ?_
                                      rotate_left
                                      · intro w'
                                        go_simp
                                        with_reducible rfl
                                      rotate_left
                                      · simp only [Act.put, List.setIfInBounds_toArray, List.set_cons_zero, List.set_cons_succ, i64_w, i32_w]
                                        rfl
                                      refine pure_ (i := 8) (N := some 92) (v := ?_) (a' := ?_) #[true, true, true, true, true, true, true, true, true, false, false, false, false, false, false, false, false, false, false] rfl rfl (any_of HT_.out (by kernel_rfl)) (fun _ _ _ h => h) (Or.inl ⟨by rfl, ?_⟩) ?_ ?_
                                      rotate_left
                                      · intro w'
                                        go_simp
                                        with_reducible rfl
                                      rotate_left
                                      · simp only [Act.put, List.setIfInBounds_toArray, List.set_cons_zero, List.set_cons_succ, i64_w, i32_w]
                                        rfl
                                      refine pure_ (i := 10) (N := some 94) (v := ?_) (a' := ?_) #[true, true, true, true, true, true, true, true, true, false, true, false, false, false, false, false, false, false, false] rfl rfl (any_of HT_.out (by kernel_rfl)) (fun _ _ _ h => h) (Or.inl ⟨by rfl, ?_⟩) ?_ ?_
                                      rotate_left
                                      · intro w'
                                        go_simp
                                        with_reducible rfl
                                      rotate_left
                                      · simp only [Act.put, List.setIfInBounds_toArray, List.set_cons_zero, List.set_cons_succ, i64_w, i32_w]
                                        rfl
                                      refine pure_ (i := 11) (N := some 95) (v := ?_) (a' := ?_) #[true, true, true, true, true, true, true, true, true, false, true, true, false, false, false, false, false, false, false] rfl rfl (any_of HT_.out (by kernel_rfl)) (fun _ _ _ h => h) (Or.inl ⟨by rfl, ?_⟩) ?_ ?_
                                      rotate_left
                                      · intro w'
                                        go_simp
                                        with_reducible rfl
                                      rotate_left
                                      · simp only [Act.put, List.setIfInBounds_toArray, List.set_cons_zero, List.set_cons_succ, i64_w, i32_w]
                                        rfl
                                      refine pure_ (i := 12) (N := some 96) (v := ?_) (a' := ?_) #[true, true, true, true, true, true, true, true, true, false, true, true, true, false, false, false, false, false, false] rfl rfl (any_of HT_.out (by kernel_rfl)) (fun _ _ _ h => h) (Or.inl ⟨by rfl, ?_⟩) ?_ ?_
                                      rotate_left
                                      · intro w'
                                        go_simp
                                        with_reducible rfl
                                      rotate_left
                                      · simp only [Act.put, List.setIfInBounds_toArray, List.set_cons_zero, List.set_cons_succ, i64_w, i32_w]
                                        rfl
                                      refine pure_ (i := 13) (N := some 97) (v := ?_) (a' := ?_) #[true, true, true, true, true, true, true, true, true, false, true, true, true, true, false, false, false, false, false] rfl rfl (any_of HT_.out (by kernel_rfl)) (fun _ _ _ h => h) (Or.inl ⟨by rfl, ?_⟩) ?_ ?_
                                      rotate_left
                                      · intro w'
                                        go_simp
                                        with_reducible rfl
                                      rotate_left
                                      · simp only [Act.put, List.setIfInBounds_toArray, List.set_cons_zero, List.set_cons_succ, i64_w, i32_w]
                                        rfl
                                      refine pure_ (i := 14) (N := some 98) (v := ?_) (a' := ?_) #[true, true, true, true, true, true, true, true, true, false, true, true, true, true, true, false, false, false, false] rfl rfl (any_of HT_.out (by kernel_rfl)) (fun _ _ _ h => h) (Or.inl ⟨by rfl, ?_⟩) ?_ ?_
                                      rotate_left
                                      · intro w'
                                        go_simp
                                        with_reducible rfl
                                      rotate_left
                                      · simp only [Act.put, List.setIfInBounds_toArray, List.set_cons_zero, List.set_cons_succ, i64_w, i32_w]
                                        rfl
                                      refine pure_ (i := 15) (N := some 99) (v := ?_) (a' := ?_) #[true, true, true, true, true, true, true, true, true, false, true, true, true, true, true, true, false, false, false] rfl rfl (any_of HT_.out (by kernel_rfl)) (fun _ _ _ h => h) (Or.inl ⟨by rfl, ?_⟩) ?_ ?_
                                      rotate_left
                                      · intro w'
                                        go_simp
                                        with_reducible rfl
                                      rotate_left
                                      · simp only [Act.put, List.setIfInBounds_toArray, List.set_cons_zero, List.set_cons_succ, i64_w, i32_w]
                                        rfl
                                      refine take_ (i := 9) (N := some 93) (v := ?_) (a' := ?_) #[true, true, true, true, true, true, true, true, true, true, true, true, true, true, true, true, false, false, false] rfl rfl (take_ofW HT_.out HW_.out (by kernel_rfl)) (fun _ _ _ h => h) (Or.inl ⟨by rfl, ?_⟩) hHeld ?_ ?_
                                      rotate_left
                                      · intro w' s0
                                        go_simp
                                        with_reducible rfl
                                      rotate_left
                                      · simp only [Act.put, List.setIfInBounds_toArray, List.set_cons_zero, List.set_cons_succ, i64_w, i32_w]
                                        rfl
                                      refine pure_ (i := 16) (N := some 100) (v := ?_) (a' := ?_) #[true, true, true, true, true, true, true, true, true, true, true, true, true, true, true, true, true, false, false] rfl rfl (any_of HT_.out (by kernel_rfl)) (fun _ _ _ h => h) (Or.inl ⟨by rfl, ?_⟩) ?_ ?_
                                      rotate_left
                                      · intro w'
                                        go_simp
                                        with_reducible rfl
                                      rotate_left
                                      · simp only [Act.put, List.setIfInBounds_toArray, List.set_cons_zero, List.set_cons_succ, i64_w, i32_w]
                                        rfl
                                      refine pure_ (i := 17) (N := some 101) (v := ?_) (a' := ?_) #[true, true, true, true, true, true, true, true, true, true, true, true, true, true, true, true, true, true, false] rfl rfl (any_of HT_.out (by kernel_rfl)) (fun _ _ _ h => h) (Or.inl ⟨by rfl, ?_⟩) ?_ ?_
                                      rotate_left
                                      · intro w'
                                        go_simp
                                        with_reducible rfl
                                      rotate_left
                                      · simp only [Act.put, List.setIfInBounds_toArray, List.set_cons_zero, List.set_cons_succ, i64_w, i32_w]
                                        rfl
                                      refine last_ (i := 18) (N := none) #[true, true, true, true, true, true, true, true, true, true, true, true, true, true, true, true, true, true, true] rfl rfl (one_of HT_.out (by kernel_rfl)) (by decide) (fun K hK => ?_)
                                      refine skip_ (w1 := ?_) (by rfl) rfl ?_ ?_
                                      rotate_left
                                      · go_simp
                                        rfl
                                      refine hK.out _ _ ?_
                                      clear hK K
                                      refine done_ (done_of HT_.out (by kernel_rfl)) ?_
                                      try go_wp2
                                      go_roundg k3
                                      case measure => have := HK1.out; have := HK2.out; have := HK3.out; omega
                                      case rel => exact ⟨(y193), (wrap64 (x8_3 + 1)), (IntKind.u64.wrap (Int.tdiv x10_3 2)), (wrap64 (x11_3 + 1)), (by first | rfl | (simp; done) | (simp [*]; done)), (by first | rfl | (simp; done) | (simp [*]; done)), (by first | rfl | (simp; done) | (simp [*]; done)), H', ⟨by have := HK1.out; have := HK2.out; have := HK3.out; omega⟩, ⟨by (with_reducible repeat (first | apply Kd.R_alloc | apply Kd.R_drewN | apply Kd.R_drew)); exact HQ30.out⟩, ⟨by repeat (first | (with_reducible first | exact HB.out | apply below_alloc | apply pw_below_drewN | apply below_drew1 | refine below_set ?_ GB26.out) | exact HB.out)⟩⟩
                                    · rw [if_neg c24] at H
                                      exact absurd H (by simp)
                                  · rw [if_neg c22] at H
                                    exact absurd H (by simp)
                                · rw [if_neg c21] at H
                                  exact absurd H (by simp)
                              · rw [if_neg c19] at H
                                exact absurd H (by simp)
                            · rw [if_neg c18] at H
                              have c18b0 : ((Int.tmod x8_3 8) == 0) = false := beq_eq_false_iff_ne.mpr c18
                              have c18b1 : ((Int.tmod x8_3 8) != 0) = true := bne_iff_ne.mpr c18
                              obtain ⟨ji31, hji31⟩ : ∃ j_ : Int, (wrap64 ((x7_3.length : Int) - 1)) = j_ := ⟨_, rfl⟩
                              replace H : (if 0 ≤ (ji31) then (if (ji31) < (x7_3.length : Int) then (if 0 ≤ (Int.tmod x8_3 8) then (firkinref07_Put.l2 k3 l0 x3_1 t181 (x7_3.set ((ji31) : Int).toNat (((rd x7_3 (ji31)) + (shl .u8 ((Int.tmod x10_3 2) % 256) (Int.tmod x8_3 8))) % 256)) (wrap64 (x8_3 + 1)) x9_2 (IntKind.u64.wrap (Int.tdiv x10_3 2)) (wrap64 (x11_3 + 1))) else (none)) else (none)) else (none)) = some r := by first | (rw [hji31] at H; exact H) | (simp only [hji31] at H ⊢; exact H)
                              have hji31w : (IntKind.i64.wrap ((x7_3.length : Int) - 1)) = ji31 := (i64_w _).trans hji31
                              by_cases c32 : 0 ≤ (ji31)
                              · rw [if_pos c32] at H
                                have c32b0 : decide (0 ≤ (ji31)) = true := decide_eq_true c32
                                clear c32
                                by_cases c33 : (ji31) < (x7_3.length : Int)
                                · rw [if_pos c33] at H
                                  have c33b0 : decide ((ji31) < (x7_3.length : Int)) = true := decide_eq_true c33
                                  clear c33
                                  obtain ⟨ji34, hji34⟩ : ∃ j_ : Int, (Int.tmod x8_3 8) = j_ := ⟨_, rfl⟩
                                  replace H : (if 0 ≤ (ji34) then (firkinref07_Put.l2 k3 l0 x3_1 t181 (x7_3.set ((ji31) : Int).toNat (((rd x7_3 (ji31)) + (shl .u8 ((Int.tmod x10_3 2) % 256) (ji34))) % 256)) (wrap64 (x8_3 + 1)) x9_2 (IntKind.u64.wrap (Int.tdiv x10_3 2)) (wrap64 (x11_3 + 1))) else (none)) = some r := by first | (rw [hji34] at H; exact H) | (simp only [hji34] at H ⊢; exact H)
                                  (try rw [hji34] at c18b0)
                                  (try rw [hji34] at c18b1)
                                  by_cases c35 : 0 ≤ (ji34)
                                  · rw [if_pos c35] at H
                                    have c35b0 := eq_true c35
                                    have c35b1 : decide (0 ≤ (ji34)) = true := decide_eq_true c35
                                    clear c35
                                    obtain ⟨ji36, hji36⟩ : ∃ j_ : Int, (shl .u8 ((Int.tmod x10_3 2) % 256) (ji34)) = j_ := ⟨_, rfl⟩
                                    replace H : (firkinref07_Put.l2 k3 l0 x3_1 t181 (x7_3.set ((ji31) : Int).toNat (((rd x7_3 (ji31)) + (ji36)) % 256)) (wrap64 (x8_3 + 1)) x9_2 (IntKind.u64.wrap (Int.tdiv x10_3 2)) (wrap64 (x11_3 + 1))) = some r := by first | (rw [hji36] at H; exact H) | (simp only [hji36] at H ⊢; exact H)
                                    have hji36_ : (IntKind.u8.wrap (((Int.tmod x10_3 2) % 256) * 2 ^ min (ji34).toNat 8)) = ji36 := hji36
                                    have hji36z : (ji34) ≤ 8 → (IntKind.u8.wrap (((Int.tmod x10_3 2) % 256) * 2 ^ (ji34).toNat)) = ji36 := shl_small hji36
                                    have hji36y : ∀ a_ : Int, (a_ + ((Int.tmod x10_3 2) % 256) * 2 ^ min (ji34).toNat 8) % 256 = (a_ + ji36) % 256 := fun a_ => by rw [← hji36_, IntKind.wrap_u8]; omega
                                    have hji36w : (ji34) ≤ 8 → ∀ a_ : Int, (a_ + ((Int.tmod x10_3 2) % 256) * 2 ^ (ji34).toNat) % 256 = (a_ + ji36) % 256 := fun h_ a_ => by rw [← hji36z h_, IntKind.wrap_u8]; omega
                                    (try have hji36v := hji36w (by rw [← hji34]; exact Int.le_of_lt (Int.tmod_lt_of_pos _ (by decide))))
                                    obtain ⟨y195, hy195⟩ : ∃ y_ : List Int, y_ = (x7_3.set ((ji31) : Int).toNat (((rd x7_3 (ji31)) + (ji36)) % 256)) := ⟨_, rfl⟩
                                    replace H : (firkinref07_Put.l2 k3 l0 x3_1 t181 y195 (wrap64 (x8_3 + 1)) x9_2 (IntKind.u64.wrap (Int.tdiv x10_3 2)) (wrap64 (x11_3 + 1))) = some r := by first | (rw [hy195]; with_reducible exact H) | (have H2_ := (Option.bind_some _ _).symm.trans H; rw [hy195]; with_reducible exact H2_) | (have H2_ := (Option.bind_some _ _).symm.trans H; with_reducible exact H2_) | with_reducible exact H | (rw [hy195]; exact H) | exact H
                                    have Ny195 := Aside0.mk hy195
                                    clear hy195
                                    have H' := Aside0.mk H
                                    clear H
                                    try go_wp2
                                    have n0_ := Aside0.mk (Kd.R_drew HO_7.out)
                                    have n1_ := Aside0.mk (below_drew1 HB.out)
                                    clear HO_7
                                    clear HB
                                    have HO_7 := n0_
                                    have HB := n1_
                                    clear n0_ n1_
                                    obtain ⟨Ao39, co39, eo39⟩ := Kd.R_slice HO_7.out
                                    (first | subst eo39 | (injection eo39 with f1_ f2_ f3_; have f4_ := f1_.symm; have f5_ := f3_.symm; clear f1_ f2_ f3_; subst f4_; subst f5_))
                                    have p194 : 0 ≤ ((ji31) : Int) := of_decide_eq_true (by first | (with_reducible assumption) | assumption)
                                    have q194 : (ji31) < (x7_3.length : Int) := of_decide_eq_true (by first | (with_reducible assumption) | assumption)
                                    obtain ⟨ad194, e194, hx194_0⟩ := Kd.at_int (Kd.R_reads' HO_7.out).2.2 (ji31) p194 q194
                                    cases e194
                                    replace p194 := eq_true p194
                                    replace q194 := eq_true q194
                                    have p37 : 0 ≤ ((ji31) : Int) := of_decide_eq_true (by first | (with_reducible assumption) | assumption)
                                    have q37 : ((ji31) : Int) < ((x7_3.length : Int) : Int) := of_decide_eq_true (by first | (with_reducible assumption) | assumption)
                                    obtain ⟨go37, co37, eo37, gb37, gl37, cl37, HG37⟩ := Kd.R_form HO_7.out (by omega)
                                    (first | cases eo37 | (injection eo37 with ea_ en_ ec_; (first | subst ea_ | (injection ea_ with ea_; subst ea_)); subst ec_; clear en_))
                                    have GB37 := Aside0.mk gb37
                                    have GG37 := Aside0.mk HG37
                                    clear gb37 gl37 HG37
                                    (first | simp only [add_plain] at hx194_0 | skip)
                                    obtain ⟨hx37_0, hf37_0⟩ := Kd.R_celln 0 HO_7.out ((ji31) : Int) p37 q37
                                    replace p37 := eq_true p37
                                    replace q37 := eq_true q37
                                    have HP40 := Kd.R_putn HO_7.out ((ji31) : Int) (((rd x7_3 (ji31)) + (ji36)) % 256)
                                    rw [← Ny195.out] at HP40
                                    have HQ40 := Aside0.mk HP40
                                    clear HP40
                                    refine start_ (n := 19) (S := fun w' => w'.cell? ⟨go37, ((ji31)).toNat, none⟩ = some (.int .u8 (rd x7_3 (ji31)))) (ds := [18]) #[false, false, false, false, false, false, false, false, false, false, false, false, false, false, false, false, false, false, false] (by kernel_rfl) rfl rfl (hx194_0) (fun hHeld => ?_); refine with_tabW firkinref07_Put.tab23 firkinref07_Put.bits23 (fun HT_ HW_ => ?_)
                                    generalize wr.drew = w38 at HO_7 HB GG37 HQ40 hf37_0 hx194_0 hx37_0 hHeld ⊢
                                    refine pure_ (i := 0) (N := some 84) (v := ?_) (a' := ?_) #[true, false, false, false, false, false, false, false, false, false, false, false, false, false, false, false, false, false, false] rfl rfl (any_of HT_.out (by kernel_rfl)) (fun _ _ _ h => h) (Or.inl ⟨by rfl, ?_⟩) ?_ ?_
                                    rotate_left
                                    · intro w'
                                      go_simp
                                      with_reducible rfl
                                    rotate_left
                                    · simp only [Act.put, List.setIfInBounds_toArray, List.set_cons_zero, List.set_cons_succ, i64_w, i32_w]
                                      rfl
                                    refine pure_ (i := 1) (N := some 85) (v := ?_) (a' := ?_) #[true, true, false, false, false, false, false, false, false, false, false, false, false, false, false, false, false, false, false] rfl rfl (any_of HT_.out (by kernel_rfl)) (fun _ _ _ h => h) (Or.inl ⟨by rfl, ?_⟩) ?_ ?_
                                    rotate_left
                                    · intro w'
                                      go_simp
                                      with_reducible rfl
                                    rotate_left
                                    · simp only [Act.put, List.setIfInBounds_toArray, List.set_cons_zero, List.set_cons_succ, i64_w, i32_w]
                                      rfl
                                    refine pure_ (i := 2) (N := some 86) (v := ?_) (a' := ?_) #[true, true, true, false, false, false, false, false, false, false, false, false, false, false, false, false, false, false, false] rfl rfl (any_of HT_.out (by kernel_rfl)) (fun _ _ _ h => h) (Or.inl ⟨by rfl, ?_⟩) ?_ ?_
                                    rotate_left
                                    · intro w'
                                      go_simp
                                      with_reducible rfl
                                    rotate_left
                                    · simp only [Act.put, List.setIfInBounds_toArray, List.set_cons_zero, List.set_cons_succ, i64_w, i32_w]
                                      rfl
                                    refine pure_ (i := 3) (N := some 87) (v := ?_) (a' := ?_) #[true, true, true, true, false, false, false, false, false, false, false, false, false, false, false, false, false, false, false] rfl rfl (any_of HT_.out (by kernel_rfl)) (fun _ _ _ h => h) (Or.inl ⟨by rfl, ?_⟩) ?_ ?_
                                    rotate_left
                                    · intro w'
                                      go_simp
                                      with_reducible rfl
                                    rotate_left
                                    · simp only [Act.put, List.setIfInBounds_toArray, List.set_cons_zero, List.set_cons_succ, i64_w, i32_w]
                                      rfl
                                    refine pure_ (i := 4) (N := some 88) (v := ?_) (a' := ?_) #[true, true, true, true, true, false, false, false, false, false, false, false, false, false, false, false, false, false, false] rfl rfl (any_of HT_.out (by kernel_rfl)) (fun _ _ _ h => h) (Or.inl ⟨by rfl, ?_⟩) ?_ ?_
                                    rotate_left
                                    · intro w'
                                      go_simp
                                      with_reducible rfl
                                    rotate_left
                                    · simp only [Act.put, List.setIfInBounds_toArray, List.set_cons_zero, List.set_cons_succ, i64_w, i32_w]
                                      rfl
                                    refine pure_ (i := 5) (N := some 89) (v := ?_) (a' := ?_) #[true, true, true, true, true, true, false, false, false, false, false, false, false, false, false, false, false, false, false] rfl rfl (any_of HT_.out (by kernel_rfl)) (fun _ _ _ h => h) (Or.inl ⟨by rfl, ?_⟩) ?_ ?_
                                    rotate_left
                                    · intro w'
                                      go_simp
                                      with_reducible rfl
                                    rotate_left
                                    · simp only [Act.put, List.setIfInBounds_toArray, List.set_cons_zero, List.set_cons_succ, i64_w, i32_w]
                                      rfl
                                    refine pure_ (i := 6) (N := some 90) (v := ?_) (a' := ?_) #[true, true, true, true, true, true, true, false, false, false, false, false, false, false, false, false, false, false, false] rfl rfl (any_of HT_.out (by kernel_rfl)) (fun _ _ _ h => h) (Or.inl ⟨by rfl, ?_⟩) ?_ ?_
                                    rotate_left
                                    · intro w'
                                      go_simp
                                      with_reducible rfl
                                    rotate_left
                                    · simp only [Act.put, List.setIfInBounds_toArray, List.set_cons_zero, List.set_cons_succ, i64_w, i32_w]
                                      rfl
                                    refine pure_ (i := 7) (N := some 91) (v := ?_) (a' := ?_) #[true, true, true, true, true, true, true, true, false, false, false, false, false, false, false, false, false, false, false] rfl rfl (any_of HT_.out (by kernel_rfl)) (fun _ _ _ h => h) (Or.inl ⟨by rfl, ?_⟩) ?_ ?_
                                    rotate_left
                                    · intro w'
                                      go_simp
                                      with_reducible rfl
                                    rotate_left
                                    · simp only [Act.put, List.setIfInBounds_toArray, List.set_cons_zero, List.set_cons_succ, i64_w, i32_w]
                                      rfl
                                    refine pure_ (i := 8) (N := some 92) (v := ?_) (a' := ?_) #[true, true, true, true, true, true, true, true, true, false, false, false, false, false, false, false, false, false, false] rfl rfl (any_of HT_.out (by kernel_rfl)) (fun _ _ _ h => h) (Or.inl ⟨by rfl, ?_⟩) ?_ ?_
                                    rotate_left
                                    · intro w'
                                      go_simp
                                      with_reducible rfl
                                    rotate_left
                                    · simp only [Act.put, List.setIfInBounds_toArray, List.set_cons_zero, List.set_cons_succ, i64_w, i32_w]
                                      rfl
                                    refine pure_ (i := 10) (N := some 94) (v := ?_) (a' := ?_) #[true, true, true, true, true, true, true, true, true, false, true, false, false, false, false, false, false, false, false] rfl rfl (any_of HT_.out (by kernel_rfl)) (fun _ _ _ h => h) (Or.inl ⟨by rfl, ?_⟩) ?_ ?_
                                    rotate_left
                                    · intro w'
                                      go_simp
                                      with_reducible rfl
                                    rotate_left
                                    · simp only [Act.put, List.setIfInBounds_toArray, List.set_cons_zero, List.set_cons_succ, i64_w, i32_w]
                                      rfl
                                    refine pure_ (i := 11) (N := some 95) (v := ?_) (a' := ?_) #[true, true, true, true, true, true, true, true, true, false, true, true, false, false, false, false, false, false, false] rfl rfl (any_of HT_.out (by kernel_rfl)) (fun _ _ _ h => h) (Or.inl ⟨by rfl, ?_⟩) ?_ ?_
                                    rotate_left
                                    · intro w'
                                      go_simp
                                      with_reducible rfl
                                    rotate_left
                                    · simp only [Act.put, List.setIfInBounds_toArray, List.set_cons_zero, List.set_cons_succ, i64_w, i32_w]
                                      rfl
                                    refine pure_ (i := 12) (N := some 96) (v := ?_) (a' := ?_) #[true, true, true, true, true, true, true, true, true, false, true, true, true, false, false, false, false, false, false] rfl rfl (any_of HT_.out (by kernel_rfl)) (fun _ _ _ h => h) (Or.inl ⟨by rfl, ?_⟩) ?_ ?_
                                    rotate_left
                                    · intro w'
                                      go_simp
                                      with_reducible rfl
                                    rotate_left
                                    · simp only [Act.put, List.setIfInBounds_toArray, List.set_cons_zero, List.set_cons_succ, i64_w, i32_w]
                                      rfl
                                    refine pure_ (i := 13) (N := some 97) (v := ?_) (a' := ?_) #[true, true, true, true, true, true, true, true, true, false, true, true, true, true, false, false, false, false, false] rfl rfl (any_of HT_.out (by kernel_rfl)) (fun _ _ _ h => h) (Or.inl ⟨by rfl, ?_⟩) ?_ ?_
                                    rotate_left
                                    · intro w'
                                      go_simp
                                      with_reducible rfl
                                    rotate_left
                                    · simp only [Act.put, List.setIfInBounds_toArray, List.set_cons_zero, List.set_cons_succ, i64_w, i32_w]
                                      rfl
                                    refine pure_ (i := 14) (N := some 98) (v := ?_) (a' := ?_) #[true, true, true, true, true, true, true, true, true, false, true, true, true, true, true, false, false, false, false] rfl rfl (any_of HT_.out (by kernel_rfl)) (fun _ _ _ h => h) (Or.inl ⟨by rfl, ?_⟩) ?_ ?_
                                    rotate_left
                                    · intro w'
                                      go_simp
                                      with_reducible rfl
                                    rotate_left
                                    · simp only [Act.put, List.setIfInBounds_toArray, List.set_cons_zero, List.set_cons_succ, i64_w, i32_w]
                                      rfl
                                    refine pure_ (i := 15) (N := some 99) (v := ?_) (a' := ?_) #[true, true, true, true, true, true, true, true, true, false, true, true, true, true, true, true, false, false, false] rfl rfl (any_of HT_.out (by kernel_rfl)) (fun _ _ _ h => h) (Or.inl ⟨by rfl, ?_⟩) ?_ ?_
                                    rotate_left
                                    · intro w'
                                      go_simp
                                      with_reducible rfl
                                    rotate_left
                                    · simp only [Act.put, List.setIfInBounds_toArray, List.set_cons_zero, List.set_cons_succ, i64_w, i32_w]
                                      rfl
                                    refine take_ (i := 9) (N := some 93) (v := ?_) (a' := ?_) #[true, true, true, true, true, true, true, true, true, true, true, true, true, true, true, true, false, false, false] rfl rfl (take_ofW HT_.out HW_.out (by kernel_rfl)) (fun _ _ _ h => h) (Or.inl ⟨by rfl, ?_⟩) hHeld ?_ ?_
                                    rotate_left
                                    · intro w' s0
                                      go_simp
                                      with_reducible rfl
                                    rotate_left
                                    · simp only [Act.put, List.setIfInBounds_toArray, List.set_cons_zero, List.set_cons_succ, i64_w, i32_w]
                                      rfl
                                    refine pure_ (i := 16) (N := some 100) (v := ?_) (a' := ?_) #[true, true, true, true, true, true, true, true, true, true, true, true, true, true, true, true, true, false, false] rfl rfl (any_of HT_.out (by kernel_rfl)) (fun _ _ _ h => h) (Or.inl ⟨by rfl, ?_⟩) ?_ ?_
                                    rotate_left
                                    · intro w'
                                      go_simp
                                      with_reducible rfl
                                    rotate_left
                                    · simp only [Act.put, List.setIfInBounds_toArray, List.set_cons_zero, List.set_cons_succ, i64_w, i32_w]
                                      rfl
                                    refine pure_ (i := 17) (N := some 101) (v := ?_) (a' := ?_) #[true, true, true, true, true, true, true, true, true, true, true, true, true, true, true, true, true, true, false] rfl rfl (any_of HT_.out (by kernel_rfl)) (fun _ _ _ h => h) (Or.inl ⟨by rfl, ?_⟩) ?_ ?_
                                    rotate_left
                                    · intro w'
                                      go_simp
                                      with_reducible rfl
                                    rotate_left
                                    · simp only [Act.put, List.setIfInBounds_toArray, List.set_cons_zero, List.set_cons_succ, i64_w, i32_w]
                                      rfl
                                    refine last_ (i := 18) (N := none) #[true, true, true, true, true, true, true, true, true, true, true, true, true, true, true, true, true, true, true] rfl rfl (one_of HT_.out (by kernel_rfl)) (by decide) (fun K hK => ?_)
                                    refine skip_ (w1 := ?_) (by rfl) rfl ?_ ?_
                                    rotate_left
                                    · go_simp
                                      rfl
                                    refine hK.out _ _ ?_
                                    clear hK K
                                    refine done_ (done_of HT_.out (by kernel_rfl)) ?_
                                    try go_wp2
                                    go_roundg k3
                                    case measure => have := HK1.out; have := HK2.out; have := HK3.out; omega
                                    case rel => exact ⟨(y195), (wrap64 (x8_3 + 1)), (IntKind.u64.wrap (Int.tdiv x10_3 2)), (wrap64 (x11_3 + 1)), (by first | rfl | (simp; done) | (simp [*]; done)), (by first | rfl | (simp; done) | (simp [*]; done)), (by first | rfl | (simp; done) | (simp [*]; done)), H', ⟨by have := HK1.out; have := HK2.out; have := HK3.out; omega⟩, ⟨by (with_reducible repeat (first | apply Kd.R_alloc | apply Kd.R_drewN | apply Kd.R_drew)); exact HQ40.out⟩, ⟨by repeat (first | (with_reducible first | exact HB.out | apply below_alloc | apply pw_below_drewN | apply below_drew1 | refine below_set ?_ GB37.out) | exact HB.out)⟩⟩
                                  · rw [if_neg c35] at H
                                    exact absurd H (by simp)
                                · rw [if_neg c33] at H
                                  exact absurd H (by simp)
                              · rw [if_neg c32] at H
                                exact absurd H (by simp)
                          · rw [if_neg c17] at H
                            have c17b0 : decide (x11_3 < t181) = false := decide_eq_false c17
                            clear c17
                            have H' := Aside0.mk H
                            clear H
                            go_wp2
                            go_roundg k3
                            case measure => have := HK1.out; have := HK2.out; have := HK3.out; omega
                            case rel => exact ⟨(x7_3), (x8_3), (wrap64 (x9_2 + 1)), (by first | rfl | (simp; done) | (simp [*]; done)), (by first | rfl | (simp; done) | (simp [*]; done)), H', ⟨by have := HK1.out; have := HK2.out; have := HK3.out; omega⟩, ⟨by (with_reducible repeat (first | apply Kd.R_alloc | apply Kd.R_drewN | apply Kd.R_drew)); exact HO_7.out⟩, ⟨by repeat (first | (with_reducible first | exact HB.out | apply below_alloc | apply pw_below_drewN | apply below_drew1) | exact HB.out)⟩⟩
                    · rw [if_neg c16] at H
                      exact absurd H (by simp)
                  · rw [if_neg c15] at H
                    have c15b0 : decide (x9_2 < (l0.length : Int)) = false := decide_eq_false c15
                    clear c15
                    obtain rfl := Option.some.inj H
                    go_wp2
                    go_ret
                    exact ⟨_, by first | rfl | (simp [errW_none, errW_some] <;> rfl) | (simp [*, errW_none, errW_some] <;> rfl), by (with_reducible repeat (first | apply Kd.R_alloc | apply Kd.R_drewN | apply Kd.R_drew)); exact HO_7.out, by repeat (first | (with_reducible first | exact HB.out | apply below_alloc | apply pw_below_drewN | apply below_drew1) | exact HB.out)⟩
            · rw [if_neg c12] at H
              exact absurd H (by simp)
    · rw [if_neg c3] at H
      exact absurd H (by simp)

end Go.Proofs.Ytbbffnlefmogbaa.X
/- The contract of firkinref07.Get: the numbers that bytes are. -/
namespace Go.Proofs.Ytbbffnlefmogbaa.X
open Go.RowKit Go.Proofs.YtbbffnlefmogbaaW.PrintWords Go.Proofs.YtbbffnlefmogbaaW.PrintLast Go.Proofs.YtbbffnlefmogbaaW.PrintMore
set_option linter.unusedVariables false
set_option linter.unusedSimpArgs false
theorem lit_i64 (V : World) (base g : Nat) (x : Int) (hg : g = V.heap.size) (hb : base ≤ V.heap.size) : Kd.R (Kd.int .i64) 2 (V.alloc (.cells #[.int .i64 x] 2)) base (fun _ => True) (.slice (some ⟨g, 0, none⟩) 1 1) [x] := by
  subst hg
  refine ⟨fun _ _ => trivial, [.int .i64 x], ?_, ?_⟩
  · have h2 := World.ownsRow_lit (base := base) (e := 2) (size := (Kd.int .i64).sz) V #[.int .i64 x] 1 hb (by decide) rfl
    simpa using h2
  · exact Reps.one (show Kd.M (Kd.int .i64) _ _ _ x [.int .i64 x] from rfl) (Reps.none _ _)
theorem lit0_i64 (V : World) (base g : Nat) (hg : g = V.heap.size) (hb : base ≤ V.heap.size) : Kd.R (Kd.int .i64) 2 (V.alloc (.cells #[] 2)) base (fun _ => True) (.slice (some ⟨g, 0, none⟩) 0 0) ([] : List Int) := by
  subst hg
  refine ⟨fun _ _ => trivial, [], ?_, Reps.none _ _⟩
  have h2 := World.ownsRow_lit (base := base) (e := 2) (size := (Kd.int .i64).sz) V #[] 0 hb (by decide) (by simp)
  simpa using h2
theorem wq_ (a q : Nat) (h : a / 8 = q) (ha : a < 30000) : wrap64 ((a : Int) / 8) = (q : Int) ∧ IntKind.i64.wrap ((a : Int) / 8) = (q : Int) := by
  constructor
  · unfold wrap64; omega
  · rw [IntKind.wrap_i64]; omega
theorem w1_ (a : Nat) (ha : a < 30000) : wrap64 ((a : Int) + 1) = ((a + 1 : Nat) : Int) := by unfold wrap64; omega
/-- One number, bit by bit, as the document adds it up. -/
def rread (b : List Int) : Nat → Nat → Int → Nat → Int
  | 0, _, u, _ => u
  | d + 1, k, u, at_ => rread b d (k + 1) (IntKind.u64.wrap (u + IntKind.u64.wrap (IntKind.u64.wrap (Int.tmod (rd b ((at_ / 8 : Nat) : Int) / 2 ^ (at_ % 8)) 2) * 2 ^ min k 64))) (at_ + 1)
def rgetGo (lo : Int) (m : Nat) (b : List Int) : Nat → Nat → List Int
  | 0, _ => []
  | d + 1, at_ => IntKind.i64.wrap (IntKind.u64.wrap (IntKind.u64.wrap lo + rread b m 0 0 at_)) :: rgetGo lo m b d (at_ + m)
def firkinref07_Get.f (k : Nat) (l0 : List Int) (a1 : Int) : Option (List Int × Bool) :=
  if a1 = 0 then some ([], l0.length == 0) else (firkinref01_S_Int.f l0 false).bind fun a => (firkinref01_S_Take.f a.2.1 a.2.2 1).bind fun t =>
    if t.2.2 = true then some ([], false) else if a1 < 0 then some ([], false) else if a1 > 400 then some ([], false) else if rd t.1 0 > 64 then some ([], false) else
    if 0 ≤ rd t.1 0 ∧ t.2.1.length < 1000000000 then if t.2.1.length = (a1.toNat * (rd t.1 0).toNat + 7) / 8 then
      (firkinref07_Put.f k (rgetGo a.1 (rd t.1 0).toNat t.2.1 a1.toNat 0)).bind fun p => if ((strOfNums p).toList == (strOfNums l0).toList) = true then some (rgetGo a.1 (rd t.1 0).toNat t.2.1 a1.toNat 0, true) else some ([], false)
      else some ([], false) else none
theorem firkinref07_Get.mono : ∀ a0 a1 k, LeO (firkinref07_Get.f k a0 a1) (firkinref07_Get.f (k + 1) a0 a1) := by
  intro a0 a1 k
  unfold firkinref07_Get.f
  repeat' first
      | (with_reducible exact firkinref07_Put.mono _ _)
      | (with_reducible exact LeO.refl _)
      | (with_reducible exact LeO.none _)
      | (with_reducible refine LeO.ite ?_ ?_)
      | (with_reducible refine LeO.bind ?_ (fun _ => ?_))
set_option maxHeartbeats 8000000 in
set_option maxRecDepth 1000000 in
theorem firkinref07_Get.calls (k : Nat) (A0 : Option Addr) (c0 : Nat) (l0 : List Int) (a1 : Int) (r1 : List Int) (r2 : Bool) (w : World) (hr0 : Kd.C (Kd.int .u8) w A0 l0.length l0) (hc0 : l0.length ≤ c0) (h : firkinref07_Get.f k l0 a1 = some (r1, r2)) :
    Calls Try.prog 16 #[.slice A0 l0.length c0, .int .i64 a1] w fun e w' => ∃ v0_ : Value, e = .returned (.tuple #[v0_, .bool r2]) ∧ Kd.R (Kd.int .i64) 2 w' w.heap.size (fun _ => True) v0_ r1 ∧ Below w.heap.size w w' := by
  unfold firkinref07_Get.f at h
  have HR0 := Aside0.mk hr0
  have hm0 := Kd.C_max hr0
  clear hr0
  by_cases h0 : a1 = 0
  · rw [if_pos h0] at h
    simp only [Option.some.injEq, Prod.mk.injEq] at h
    obtain ⟨rfl, rfl⟩ := h
    obtain ⟨td, htd⟩ : ∃ t : Bool, ((l0.length : Int) == 0) = t := ⟨_, rfl⟩
    have hres : (l0.length == 0) = td := by
      rw [← htd]
      by_cases h6 : l0.length = 0
      · rw [h6]; rfl
      · rw [beq_eq_false_iff_ne.mpr h6, beq_eq_false_iff_ne.mpr (show (l0.length : Int) ≠ 0 by omega)]
    rw [hres]
    subst h0
    clear hres
    go_enter Try.func16, Try.ntmps16
    go_wp2_with fail
    go_ret2
    exact ⟨_, rfl, Kd.R_nil _ _ _ _ _, Below.refl _ _⟩
  rw [if_neg h0] at h
  have d0 : (a1 == 0) = false := beq_eq_false_iff_ne.mpr h0
  obtain ⟨⟨lo, l1, b1⟩, e1, h⟩ := Option.bind_eq_some_iff.mp h
  obtain ⟨⟨t1, l2, b2⟩, e2, h⟩ := Option.bind_eq_some_iff.mp h
  simp only at h e1 e2
  have E1 := Aside0.mk e1
  have E2 := Aside0.mk e2
  have HH := Aside0.mk h
  have hu := Try.underlying39
  clear h0 e1 e2 h
  go_enter Try.func16, Try.ntmps16
  go_wp2_with fail
  have s1 := IsS39.new w w A0 c0 l0 false (Below.refl _ _) ⟨HR0.out, hc0⟩
  have B1 := below_alloc (Below.refl w.heap.size w) (.cells #[.slice A0 l0.length c0, .bool false] 39)
  refine (firkinref01_S_Int.calls w.heap.size l0 false lo l1 b1 w _ s1 B1 E1.out).mono ?_
  rintro e w2 ⟨rfl, s2, B2, K2⟩
  clear s1 B1 K2
  go_wp2_with fail
  refine (firkinref01_S_Take.calls w.heap.size l1 b1 1 t1 l2 b2 w _ s2 B2 E2.out).mono ?_
  rintro e w4 ⟨v4, rfl, R4, s4, B4, K4⟩
  have HB4 := Aside0.mk B4
  have HR4 := Aside0.mk (Kd.R_bound R4)
  obtain ⟨A4, c4, e4⟩ := Kd.R_slice HR4.out
  subst e4
  obtain ⟨A5, c5, hb5, hg5, hr5, hc5⟩ := s4
  have hx0 : w4.cell? ⟨w.heap.size, 0, none⟩ = some (.slice A5 l2.length c5) := (blk_cell hb5 0).trans rfl
  have hx1 : w4.cell? ⟨w.heap.size, 1, none⟩ = some (.bool b2) := (blk_cell hb5 1).trans rfl
  have HK4 := Aside0.mk hb5
  have HC5 := Aside0.mk (Kd.C_below hr5 B4)
  have HCC5 := Aside0.mk hc5
  clear s2 B2 K4 R4 B4 hb5 hg5 hr5 hc5
  cases b2 with
  | true =>
    have h := HH.out
    rw [if_pos rfl] at h
    simp only [Option.some.injEq, Prod.mk.injEq] at h
    obtain ⟨rfl, rfl⟩ := h
    go_wp2_with fail
    go_quiet (fail)
    go_wp2_with fail
    go_ret2
    exact ⟨_, rfl, Kd.R_nil _ _ _ _ _, pw_below_drewN HB4.out _⟩
  | false =>
    have h := HH.out
    rw [if_neg (show ¬ (false = true) by decide)] at h
    by_cases hn0 : a1 < 0
    · rw [if_pos hn0] at h
      simp only [Option.some.injEq, Prod.mk.injEq] at h
      obtain ⟨rfl, rfl⟩ := h
      have d1 : decide (a1 < 0) = true := decide_eq_true hn0
      clear hn0
      go_wp2_with fail
      go_quiet (fail)
      go_wp2_with fail
      go_ret2
      exact ⟨_, rfl, Kd.R_nil _ _ _ _ _, pw_below_drewN HB4.out _⟩
    rw [if_neg hn0] at h
    have d1 : decide (a1 < 0) = false := decide_eq_false hn0
    by_cases hn1 : a1 > 400
    · rw [if_pos hn1] at h
      simp only [Option.some.injEq, Prod.mk.injEq] at h
      obtain ⟨rfl, rfl⟩ := h
      have d2 : decide (a1 > 400) = true := decide_eq_true hn1
      have d2b : decide (400 < a1) = true := decide_eq_true hn1
      clear hn0 hn1
      go_wp2_with fail
      go_quiet (fail)
      go_wp2_with fail
      go_ret2
      exact ⟨_, rfl, Kd.R_nil _ _ _ _ _, pw_below_drewN HB4.out _⟩
    rw [if_neg hn1] at h
    have d2 : decide (a1 > 400) = false := decide_eq_false hn1
    have d2b : decide (400 < a1) = false := decide_eq_false hn1
    have HL1 : Aside0 (t1.length = 1) := ⟨by
      have h9 := E2.out
      unfold firkinref01_S_Take.f at h9
      split at h9
      · have h8 := Option.some.inj h9
        unfold rtakeS at h8
        split at h8
        · simp at h8
        · rename_i h7
          simp only [Prod.mk.injEq] at h8
          rw [← h8.1, List.length_take]
          have h6 : ¬ ((l1.length : Int) < 1) := fun h5 => h7 (Or.inr (Or.inr h5))
          show min (1 : Int).toNat l1.length = 1
          rw [show (1 : Int).toNat = 1 from rfl]
          omega
      · cases h9⟩
    have hl1 := HL1.out
    have hp0 : (0 : Int) < (t1.length : Int) := by omega
    obtain ⟨gb, cp, ev, hgb1, hgb2, cells, hcl⟩ := Kd.R_form HR4.out (by omega)
    injection ev with ev1 _ ev3
    subst ev1 ev3
    obtain ⟨ad, ea, hy0⟩ := Kd.at_int (Kd.R_reads' HR4.out).2.2 (0 : Int) (by omega) hp0
    injection ea with ea
    subst ea
    have eadd : (⟨gb, 0, none⟩ : Addr).add (0 : Int).toNat = ⟨gb, 0, none⟩ := by unfold Addr.add; split <;> simp_all
    rw [eadd] at hy0
    obtain ⟨y, hy⟩ : ∃ y, rd t1 0 = y := ⟨_, rfl⟩
    rw [hy] at hy0 h
    have hp1 : 0 < t1.length := by omega
    clear hcl hgb1 hgb2 eadd
    by_cases h64 : y > 64
    · rw [if_pos h64] at h
      simp only [Option.some.injEq, Prod.mk.injEq] at h
      obtain ⟨rfl, rfl⟩ := h
      have d3 : decide (y > 64) = true := decide_eq_true h64
      have d3b : decide (64 < y) = true := decide_eq_true h64
      clear hn0 hn1 hl1 h64
      go_wp2_with fail
      go_quiet (fail)
      go_wp2_with fail
      go_ret2
      exact ⟨_, rfl, Kd.R_nil _ _ _ _ _, pw_below_drewN HB4.out _⟩
    rw [if_neg h64] at h
    by_cases hy1 : 0 ≤ y ∧ l2.length < 1000000000
    case neg => rw [if_neg hy1] at h; cases h
    rw [if_pos hy1] at h
    obtain ⟨m, rfl⟩ : ∃ m : Nat, y = (m : Int) := ⟨y.toNat, by omega⟩
    obtain ⟨n, rfl⟩ : ∃ n : Nat, a1 = (n : Int) := ⟨a1.toNat, by omega⟩
    rw [Int.toNat_natCast, Int.toNat_natCast] at h
    have hm : m ≤ 64 := by omega
    have hn : n ≤ 400 := by omega
    have HM := Aside0.mk hm
    have HN := Aside0.mk hn
    have hnm : n * m ≤ 25600 := Nat.le_trans (Nat.mul_le_mul hn hm) (by decide)
    have d3 : decide ((m : Int) > 64) = false := decide_eq_false h64
    have d3b : decide ((64 : Int) < (m : Int)) = false := decide_eq_false h64
    have d3c : decide (64 < m) = false := decide_eq_false (by omega)
    have d4 : decide (400 < n) = false := decide_eq_false (by omega)
    have d4b : decide (n < 0) = false := decide_eq_false (by omega)
    have d4c : decide (n = 0) = false := decide_eq_false (fun h9 => by rw [h9] at d0; cases d0)
    have hwy : IntKind.i64.wrap (m : Int) = (m : Int) := by rw [IntKind.wrap_i64]; omega
    obtain ⟨NM, hNM⟩ : ∃ NM : Nat, n * m = NM := ⟨_, rfl⟩
    rw [hNM] at hnm
    obtain ⟨N7, hN7⟩ : ∃ N7 : Nat, NM + 7 = N7 := ⟨_, rfl⟩
    obtain ⟨V, hV⟩ : ∃ V : Nat, N7 / 8 = V := ⟨_, rfl⟩
    have hx1' : IntKind.i64.wrap ((n : Int) * (m : Int)) = (NM : Int) := by rw [IntKind.wrap_i64, ← Int.natCast_mul, hNM]; omega
    have hx2 : IntKind.i64.wrap ((NM : Int) + 7) = (N7 : Int) := by rw [IntKind.wrap_i64]; omega
    have hx4 : Int.tdiv (N7 : Int) 8 = (V : Int) := by rw [Int.tdiv_eq_ediv_of_nonneg (by omega), ← hV]; rfl
    have hx5 : IntKind.i64.wrap (V : Int) = (V : Int) := by rw [IntKind.wrap_i64]; omega
    obtain ⟨ta, hta⟩ : ∃ t : Bool, ((l2.length : Int) != (V : Int)) = t := ⟨_, rfl⟩
    have HVV : Aside0 (l2.length = (n * m + 7) / 8 ↔ ta = false) := ⟨by
      rw [hNM, hN7, hV, ← hta]
      constructor
      · intro h9; rw [h9]; simp
      · intro h9
        rw [bne_eq_false_iff_eq] at h9
        omega⟩
    have HL2 := Aside0.mk hy1.2
    have HY := Aside0.mk hy
    have HHN := Aside0.mk h
    clear hn0 hn1 hl1 h64 hy1 h hm hn hnm hNM hN7 hV hy
    go_wp2_with fail
    go_quiet (fail)
    cases ta with
    | true =>
      have h := HHN.out
      rw [if_neg (fun h9 => by have := HVV.out.mp h9; cases this)] at h
      simp only [Option.some.injEq, Prod.mk.injEq] at h
      obtain ⟨rfl, rfl⟩ := h
      go_wp2_with fail
      go_ret2
      exact ⟨_, rfl, Kd.R_nil _ _ _ _ _, pw_below_drewN HB4.out _⟩
    | false =>
      have h := HHN.out
      rw [if_pos (HVV.out.mpr rfl)] at h
      obtain ⟨p, e3, h⟩ := Option.bind_eq_some_iff.mp h
      have E3 := Aside0.mk e3
      have HH3 := Aside0.mk h
      have HLV : Aside0 (l2.length = (n * m + 7) / 8) := ⟨HVV.out.mpr rfl⟩
      clear h e3 hx1' hx2 hx4 hx5 d0 d1 d2 d2b d3 d3b d3c d4 d4b d4c
      go_wp2_with fail
      have HO8 : Aside0 (Kd.R (Kd.int .i64) 2 ((w4.drewN nq).alloc (.cells #[] 2)) (w4.drewN nq).heap.size (fun _ => True) (.slice (some ⟨w4.heap.size, 0, none⟩) 0 0) ([] : List Int)) := ⟨lit0_i64 (w4.drewN nq) _ w4.heap.size rfl (Nat.le_refl _)⟩
      have HB5 := Aside0.mk (pw_below_drewN HB4.out nq)
      have HK5 := Aside0.mk (blk_drewN HK4.out nq)
      have HC5' := Aside0.mk (Kd.C_drewN HC5.out nq)
      have HY5 : Aside0 ((w4.drewN nq).cell? ⟨gb, 0, none⟩ = some (.int .u8 (m : Int))) := ⟨by simpa using hy0⟩
      clear HB4 HK4 HC5 hy0 hx0 hx1 HR4
      generalize w4.drewN nq = w5 at HO8 HB5 HK5 HC5' HY5 ⊢
      have HB8 : Aside0 (Below w5.heap.size w5 (w5.alloc (.cells #[] 2))) := ⟨below_alloc (Below.refl _ _) _⟩
      go_loopg [9, 10, 11] (n + 1) (fun kq v9 v10 v11 w' => ∃ (i : Nat) (out : List Int), v10 = .int .i64 ((i * m : Nat) : Int) ∧ v11 = .int .i64 (i : Int) ∧ Aside0 (kq + i = n + 1) ∧ Aside0 (i ≤ n) ∧ Aside0 (out ++ rgetGo lo m l2 (n - i) (i * m) = rgetGo lo m l2 n 0) ∧ Aside0 (out.length = i) ∧ Aside0 (Kd.R (Kd.int .i64) 2 w' w5.heap.size (fun _ => True) v9 out) ∧ Aside0 (Below w5.heap.size w5 w'))
      case atStart => exact ⟨0, [], by simp, rfl, ⟨by omega⟩, ⟨by omega⟩, ⟨by simp⟩, ⟨rfl⟩, HO8, HB8⟩
      case round =>
        clear HO8 HB8
        obtain ⟨i, out, rfl, rfl, HQ, HI, HG, HOL, HO, HB⟩ := hrel
        cases gk with
        | zero => have h1 := HQ.out; have h2 := HI.out; omega
        | succ k2 =>
        obtain ⟨Ao, co, eo⟩ := Kd.R_slice HO.out
        subst eo
        by_cases hi : i < n
        · have c1 : decide ((i : Int) < (n : Int)) = true := decide_eq_true (by omega)
          have c1b : decide (i < n) = true := decide_eq_true hi
          have HIN := Aside0.mk hi
          have HMUL : Aside0 (i * m + m ≤ n * m ∧ n * m ≤ 25600) := ⟨by rw [← Nat.succ_mul]; exact Nat.mul_le_mul_right m hi, Nat.le_trans (Nat.mul_le_mul HN.out HM.out) (by decide)⟩
          clear hi
          go_wp2_with fail
          go_loopg [10, 12, 13] (m + 1) (fun kq v10 v12 v13 w' => ∃ (j : Nat) (u : Int), v10 = .int .i64 ((i * m + j : Nat) : Int) ∧ v12 = .int .u64 u ∧ v13 = .int .i64 (j : Int) ∧ Aside0 (kq + j = m + 1) ∧ Aside0 (j ≤ m) ∧ Aside0 (rread l2 (m - j) j u (i * m + j) = rread l2 m 0 0 (i * m)) ∧ Aside0 (Kd.R (Kd.int .i64) 2 w' w5.heap.size (fun _ => True) (.slice Ao out.length co) out) ∧ Aside0 (Below w5.heap.size w5 w'))
          case atStart => exact ⟨0, 0, by simp, rfl, rfl, ⟨by omega⟩, ⟨by omega⟩, ⟨rfl⟩, HO, HB⟩
          case round =>
            clear HO HB
            obtain ⟨j, u, rfl, rfl, rfl, HKJ, HJ, HRR, HO, HB⟩ := hrel
            cases gk with
            | zero => have h1 := HKJ.out; have h2 := HJ.out; omega
            | succ k3 =>
            have hyw := (HB.out.cell (World.block_lt_of_cell? w5 _ HY5.out)).trans HY5.out
            by_cases hj : j < m
            · have c2 : decide ((j : Int) < (m : Int)) = true := decide_eq_true (by omega)
              have c2b : decide (j < m) = true := decide_eq_true hj
              obtain ⟨a, ha⟩ : ∃ a, i * m + j = a := ⟨_, rfl⟩
              rw [ha] at HRR ⊢
              have hal : a < 8 * l2.length ∧ a < 30000 := by have h1 := HMUL.out; have h2 := HLV.out; omega
              obtain ⟨q, hq⟩ : ∃ q, a / 8 = q := ⟨_, rfl⟩
              have hq1 : (0 : Int) ≤ (q : Int) := Int.natCast_nonneg _
              have hq2 : (q : Int) < (l2.length : Int) := by omega
              have hq3 : q < l2.length := by omega
              obtain ⟨ad, ea, hz0⟩ := Kd.at_int (Kd.C_below HC5'.out HB.out) (q : Int) hq1 hq2
              subst ea
              rw [Int.toNat_natCast] at hz0
              obtain ⟨z, hz⟩ : ∃ z, rd l2 (q : Int) = z := ⟨_, rfl⟩
              rw [hz] at hz0
              have h0 : wr.cell? ⟨w.heap.size, 0, none⟩ = some (.slice (some ad) l2.length c5) := (blk_cell (blk_below HK5.out HB.out) 0).trans rfl
              have HA := Aside0.mk ha
              have HQQ := Aside0.mk hq
              have HZ := Aside0.mk hz
              have HJM := Aside0.mk hj
              have HW1 := Aside0.mk (w1_ a hal.2)
              have HW2 := Aside0.mk (w1_ j (by have := HM.out; omega))
              obtain ⟨hwq2, hwq⟩ := wq_ a q hq hal.2
              clear ha hj hz hal hq
              go_wp2_with fail
              rw [HW1.out, HW2.out]
              obtain ⟨u2, hu2⟩ : ∃ u2, IntKind.u64.wrap (u + IntKind.u64.wrap (IntKind.u64.wrap (Int.tmod (z / 2 ^ (a % 8)) 2) * 2 ^ min j 64)) = u2 := ⟨_, rfl⟩
              rw [hu2]
              have HGO : Aside0 (rread l2 (m - (j + 1)) (j + 1) u2 (i * m + (j + 1)) = rread l2 m 0 0 (i * m)) := ⟨by
                have h2 := HRR.out
                have h3 : m - j = (m - (j + 1)) + 1 := by have := HJM.out; omega
                rw [h3, rread] at h2
                rw [HQQ.out, HZ.out, hu2] at h2
                rw [show i * m + (j + 1) = a + 1 by have := HA.out; omega]
                exact h2⟩
              clear hwq hwq2 hu2 hz0 h0 hyw HRR
              go_roundg k3
              case measure => omega
              case rel => exact ⟨j + 1, u2, by rw [show i * m + (j + 1) = a + 1 by have := HA.out; omega], rfl, rfl, ⟨by have := HKJ.out; omega⟩, ⟨by have := HJM.out; omega⟩, HGO, HO, HB⟩
            · have hje : j = m := by have := HJ.out; omega
              have c2 : decide ((j : Int) < (m : Int)) = false := decide_eq_false (by omega)
              have c2b : decide (j < m) = false := decide_eq_false hj
              have hu1 : u = rread l2 m 0 0 (i * m) := by
                have h1 := HRR.out
                rw [hje, Nat.sub_self, rread] at h1
                exact h1
              obtain ⟨x, hx⟩ : ∃ x, IntKind.i64.wrap (IntKind.u64.wrap (IntKind.u64.wrap lo + u)) = x := ⟨_, rfl⟩
              have HX : Aside0 (IntKind.i64.wrap (IntKind.u64.wrap (IntKind.u64.wrap lo + rread l2 m 0 0 (i * m))) = x) := ⟨by rw [← hu1]; exact hx⟩
              have HJE := Aside0.mk hje
              have HW3 := Aside0.mk (w1_ i (by have h1 := HIN.out; have h2 := HN.out; omega))
              have HOB : Aside0 (w5.heap.size ≤ wr.heap.size) := ⟨below_size HB.out⟩
              have HLT : Aside0 (out.length < 10000) := ⟨by have h1 := HOL.out; have h2 := HI.out; have h3 := HN.out; omega⟩
              clear hj hje hu1
              go_wp2_with ((with_reducible refine gate_builtin (b := .append) (xs := #[.tmp 93, .tmp 99]) rfl ?_); at_builtin; refine Kd.R_append_rows (Kd.int .i64) (w0 := w5) w5.heap.size rfl (.tmp 93) (.tmp 99) 22 2 (.int .i64 0) 8 rfl Try.underlying22 info2 rfl (by decide) (by omega) (.slice Ao out.length co) out [x] _ _ _ (fun _ => True) (fun _ => False) rfl rfl (Kd.R_alloc HO.out _) (Kd.R_reads' (lit_i64 wr 0 wr.heap.size x rfl (Nat.zero_le _))).2.2 (fun _ _ h => h) (fun _ h => h.elim) (fun _ _ => trivial) (HB.out.alloc HOB.out _) (Nat.le_trans HOB.out (below_size (below_alloc (Below.refl _ _) _))) (by have h9 := HLT.out; omega) ?_; intro v9 w9 ho hb hg hat; have HO9 := Aside0.mk ho; have HB9 := Aside0.mk hb; clear ho hb hg hat)
              (try rw [HW3.out])
              have HG9 : Aside0 ((out ++ [x]) ++ rgetGo lo m l2 (n - (i + 1)) ((i + 1) * m) = rgetGo lo m l2 n 0) := ⟨by
                have h2 := HG.out
                have h3 : n - i = (n - (i + 1)) + 1 := by have := HIN.out; omega
                rw [h3, rgetGo, HX.out] at h2
                rw [Nat.succ_mul, List.append_assoc]; exact h2⟩
              clear HO HB hyw HRR HG
              go_roundg k2
              case measure => omega
              case rel => exact ⟨i + 1, out ++ [x], by rw [HJE.out, Nat.succ_mul]; simp, by first | rfl | (congr 1; omega), ⟨by have := HQ.out; omega⟩, ⟨by have := HIN.out; omega⟩, HG9, ⟨by rw [List.length_append, List.length_singleton, HOL.out]⟩, HO9, HB9⟩
        · have hie : i = n := by have := HI.out; omega
          have c1 : decide ((i : Int) < (n : Int)) = false := decide_eq_false (by omega)
          have c1b : decide (i < n) = false := decide_eq_false hi
          have hall : out = rgetGo lo m l2 n 0 := by
            have h1 := HG.out
            rw [hie, Nat.sub_self, rgetGo, List.append_nil] at h1
            exact h1
          have E3' := E3.out
          have HH3' := HH3.out
          rw [← hall] at E3' HH3'
          have E4 := Aside0.mk E3'
          have HH4 := Aside0.mk HH3'
          have HR8 : Aside0 (Kd.R (Kd.int .i64) 2 wr w.heap.size (fun _ => True) (.slice Ao out.length co) out) := ⟨Kd.R_lower HO.out (below_size HB5.out)⟩
          have HB8 := Aside0.mk (below_step HB5.out HB.out)
          have hcv0 : ∀ W, Below w.heap.size w W → (convert 24 9 (.slice A0 l0.length c0)).run Try.prog W = .ok (.string (strOfNums l0)) W := fun W hW => string_of_reads Try.underlying24 Try.underlying5 Try.underlying9 (readsInt_of.mpr (Kd.reads_of_C (d := (0 : Int)) (Kd.C_below HR0.out hW)))
          have HCV := Aside0.mk hcv0
          have HRD := Aside0.mk (Kd.R_reads' (Kd.R_drew HR8.out)).2.2
          have HRC := Aside0.mk (Kd.R_reads' HR8.out).2.1
          have HBD : Aside0 (Below w.heap.size w wr.drew) := ⟨below_drew HB8.out⟩
          clear hi hie hall E3' HH3' hcv0 HO HB
          go_wp2_with fail
          go_upto_region 20 with (fail)
          have hcvA := HCV.out _ HBD.out
          go_cut [106] (fun v106 wx => v106 = .bool (!((strOfNums p).toList == (strOfNums l0).toList)) ∧ Aside0 (Below w.heap.size w wx) ∧ Aside0 (Kd.R (Kd.int .i64) 2 wx w.heap.size (fun _ => True) (.slice Ao out.length co) out))
          case first =>
            go_region_with ((go_at_call 14; refine (firkinref07_Put.calls k Ao co out p _ HRD.out HRC.out E4.out).mono ?_; rintro e w6 ⟨v6, rfl, R6, b6⟩; obtain ⟨A6, c6, rfl, hc6, C6⟩ := Kd.R_reads R6; have hcv6 := string_of_reads Try.underlying24 Try.underlying5 Try.underlying9 (c := c6) (readsInt_of.mpr (Kd.reads_of_C (d := (0 : Int)) C6)); have hcvB := HCV.out _ (below_step HBD.out b6); have HB9 := Aside0.mk (below_step HBD.out b6); have HR9 := Aside0.mk (Kd.R_below (Kd.R_drew HR8.out) b6); clear R6 C6 b6))
            all_goals
              go_wp2_with fail
              go_meet
              case rel => exact ⟨rfl, HB9, HR9⟩
          case rest =>
          obtain ⟨rfl, HBX, HRX⟩ := hcut
          have h := HH4.out
          by_cases he : ((strOfNums p).toList == (strOfNums l0).toList) = true
          · rw [if_pos he] at h
            simp only [Option.some.injEq, Prod.mk.injEq] at h
            obtain ⟨rfl, rfl⟩ := h
            rw [he]
            clear he
            go_wp2_with fail
            go_ret2
            exact ⟨_, rfl, HRX.out, HBX.out⟩
          · rw [if_neg he] at h
            simp only [Option.some.injEq, Prod.mk.injEq] at h
            obtain ⟨rfl, rfl⟩ := h
            rw [Bool.eq_false_iff.mpr he]
            clear he
            go_wp2_with fail
            go_ret2
            exact ⟨_, rfl, Kd.R_nil _ _ _ _ _, HBX.out⟩
end Go.Proofs.Ytbbffnlefmogbaa.X
/- The contract of (*tight.row).read, and of (*tight.packed).next: the next bits, as a number. -/
namespace Go.Proofs.Ytbbffnlefmogbaa.X
open Go.RowKit Go.Proofs.YtbbffnlefmogbaaW.PrintWords Go.Proofs.YtbbffnlefmogbaaW.PrintLast Go.Proofs.YtbbffnlefmogbaaW.PrintMore
set_option linter.unusedVariables false
set_option linter.unusedSimpArgs false
/-- The bit at a place. -/
def bitOf (b : List Int) (i : Nat) : Int := Go.bits .and .u8 (rd b ((i / 8 : Nat) : Int) / 2 ^ (i % 8)) 1
def readGo (b : List Int) : Nat → Nat → Int → Nat → Int
  | 0, _, u, _ => u
  | d + 1, k, u, at_ => readGo b d (k + 1) (Go.bits .or .u64 u (IntKind.u64.wrap (IntKind.u64.wrap (bitOf b at_) * 2 ^ min k 64))) (at_ + 1)
def tight_row_read.f (b : List Int) (at_ : Nat) (n : Nat) : Option Int :=
  if at_ + n ≤ 8 * b.length ∧ at_ < 1000000000 ∧ n ≤ 64 then some (readGo b n 0 0 at_) else none
set_option maxHeartbeats 8000000 in
set_option maxRecDepth 100000 in
theorem tight_row_read.calls (g : Nat) (A : Option Addr) (c : Nat) (b : List Int) (at_ : Nat) (low wide : Int) (n : Nat) (r : Int) (w0 w : World) (hb : w.heap[g]? = some (.cells #[.slice A b.length c, .int .i64 (at_ : Int), .int .i64 low, .int .i64 wide] 60 (0, 0))) (hg : w0.heap.size ≤ g) (hC : Kd.C (Kd.int .u8) w A b.length b) (hne : ∀ ad, A = some ad → 0 < b.length → ad.block ≠ g) (hB : Below w0.heap.size w0 w) (h : tight_row_read.f b at_ n = some r) :
    Calls Try.prog 78 #[.pointer (some ⟨g, 0, none⟩), .int .i64 (n : Int)] w fun e w' => e = .returned (.int .u64 r) ∧ w'.heap[g]? = some (.cells #[.slice A b.length c, .int .i64 ((at_ + n : Nat) : Int), .int .i64 low, .int .i64 wide] 60 (0, 0)) ∧ KeepBut w w' g none ∧ Below w0.heap.size w0 w' := by
  unfold tight_row_read.f at h
  by_cases hf : at_ + n ≤ 8 * b.length ∧ at_ < 1000000000 ∧ n ≤ 64
  case neg => rw [if_neg hf] at h; cases h
  rw [if_pos hf] at h
  obtain rfl := Option.some.inj h
  clear h
  have HF := Aside0.mk hf
  have HBK := Aside0.mk hb
  have HC := Aside0.mk hC
  have HB := Aside0.mk hB
  have HNE := Aside0.mk hne
  have HK := Aside0.mk (KeepBut.of_below (Below.refl w.heap.size w) g none)
  have hu := Try.underlying58
  clear hf hb hC hB hne
  go_enter Try.func78, Try.ntmps78
  go_wp2_with fail
  go_loopg [5, 8] (n + 1) (fun kq v5 v8 w' => ∃ (j : Nat) (u : Int), v5 = .int .u64 u ∧ v8 = .int .i64 (j : Int) ∧ Aside0 (kq + j = n + 1) ∧ Aside0 (j ≤ n) ∧ Aside0 (readGo b (n - j) j u (at_ + j) = readGo b n 0 0 at_) ∧ Aside0 (w'.heap[g]? = some (.cells #[.slice A b.length c, .int .i64 ((at_ + j : Nat) : Int), .int .i64 low, .int .i64 wide] 60 (0, 0))) ∧ Aside0 (KeepBut w w' g none) ∧ Aside0 (Below w0.heap.size w0 w'))
  case atStart => exact ⟨0, 0, rfl, rfl, ⟨by omega⟩, ⟨by omega⟩, ⟨rfl⟩, HBK, HK, HB⟩
  case round =>
    clear HBK HB HK
    obtain ⟨j, u, rfl, rfl, HKQ, HJ, HG, HBK, HK, HB⟩ := hrel
    cases gk with
    | zero => have h1 := HKQ.out; have h2 := HJ.out; omega
    | succ k2 =>
    by_cases hj : j < n
    · have c1 : decide ((j : Int) < (n : Int)) = true := decide_eq_true (by omega)
      have c1b : decide (j < n) = true := decide_eq_true hj
      obtain ⟨a, ha⟩ : ∃ a, at_ + j = a := ⟨_, rfl⟩
      rw [ha] at HG HBK
      have HA := Aside0.mk ha
      have HAL : Aside0 (a < 8 * b.length ∧ a < 1000000064) := ⟨by have h1 := HF.out; omega⟩
      have HJN := Aside0.mk hj
      have hal := HAL.out
      obtain ⟨q, hq⟩ : ∃ q, a / 8 = q := ⟨_, rfl⟩
      have HQ := Aside0.mk hq
      have hq1 : (0 : Int) ≤ (q : Int) := Int.natCast_nonneg _
      have hq2 : (q : Int) < (b.length : Int) := by omega
      have hq3 : q < b.length := by omega
      have C1 := Kd.C_keep (0 : Int) HC.out HK.out HNE.out
      obtain ⟨ad, ea, hy0⟩ := Kd.at_int C1 (q : Int) hq1 hq2
      subst ea
      rw [Int.toNat_natCast] at hy0
      obtain ⟨y, hy⟩ : ∃ y, rd b (q : Int) = y := ⟨_, rfl⟩
      rw [hy] at hy0
      have h0 : wr.cell? ⟨g, 0, none⟩ = some (.slice (some ad) b.length c) := (blk_cell HBK.out 0).trans rfl
      have h1 : wr.cell? ⟨g, 1, none⟩ = some (.int .i64 (a : Int)) := (blk_cell HBK.out 1).trans rfl
      have f1 := blk_frozen HBK.out 1
      have HY := Aside0.mk hy
      have hwq : IntKind.i64.wrap ((a : Int) / 8) = (q : Int) := by rw [IntKind.wrap_i64]; omega
      have hwq2 : wrap64 ((a : Int) / 8) = (q : Int) := by unfold wrap64; omega
      clear ha hj C1 hy hal hq
      go_wp2_with fail
      go_region
      go_wp2_with fail
      have hw1 : wrap64 ((a : Int) + 1) = ((a + 1 : Nat) : Int) := by have h2 := HAL.out; unfold wrap64; omega
      have hw2 : wrap64 ((j : Int) + 1) = ((j + 1 : Nat) : Int) := by have h2 := HF.out; have h3 := HJN.out; unfold wrap64; omega
      rw [hw1, hw2]
      obtain ⟨u2, hu2⟩ : ∃ u2, Go.bits .or .u64 u (IntKind.u64.wrap (IntKind.u64.wrap (Go.bits .and .u8 (y / 2 ^ (a % 8)) 1) * 2 ^ min j 64)) = u2 := ⟨_, rfl⟩
      rw [hu2]
      have HBK2 : Aside0 ((wr.setCell ⟨g, 1, none⟩ (.int .i64 ((a + 1 : Nat) : Int))).drew.heap[g]? = some (.cells #[.slice (some ad) b.length c, .int .i64 ((a + 1 : Nat) : Int), .int .i64 low, .int .i64 wide] 60 (0, 0))) := ⟨blk_drew (by simpa using blk_set HBK.out 1 (.int .i64 ((a + 1 : Nat) : Int)))⟩
      have HK2 : Aside0 (KeepBut w (wr.setCell ⟨g, 1, none⟩ (.int .i64 ((a + 1 : Nat) : Int))).drew g none) := ⟨(KeepBut.set_ HK.out 1 _).trans (KeepBut.of_below (below_drew (Below.refl _ _)) g none) (.inl rfl)⟩
      have HB2 := Aside0.mk (below_drew (below_set HB.out (g := g) (j := 1) (v := .int .i64 ((a + 1 : Nat) : Int)) hg))
      have HGO : Aside0 (readGo b (n - (j + 1)) (j + 1) u2 (at_ + (j + 1)) = readGo b n 0 0 at_) := ⟨by
        have h2 := HG.out
        have h3 : n - j = (n - (j + 1)) + 1 := by have := HJN.out; omega
        rw [h3, readGo] at h2
        unfold bitOf at h2
        rw [HQ.out, HY.out, hu2] at h2
        rw [show at_ + (j + 1) = a + 1 by have := HA.out; omega]
        exact h2⟩
      clear hw1 hw2 hu2 hy0 h0 h1 f1 hwq hwq2 HBK HK HB
      go_roundg k2
      case measure => omega
      case rel => exact ⟨j + 1, u2, rfl, rfl, ⟨by have := HKQ.out; omega⟩, ⟨by have := HJN.out; omega⟩, HGO, ⟨by have h2 := HBK2.out; rw [show at_ + (j + 1) = a + 1 by have := HA.out; omega]; exact h2⟩, HK2, HB2⟩
    · have hje : j = n := by have := HJ.out; omega
      have c1 : decide ((j : Int) < (n : Int)) = false := decide_eq_false (by omega)
      have c1b : decide (j < n) = false := decide_eq_false hj
      have hu1 : u = readGo b n 0 0 at_ := by
        have h1 := HG.out
        rw [hje, Nat.sub_self, readGo] at h1
        exact h1
      have HBK2 := HBK.out
      rw [hje] at HBK2
      have HBK3 := Aside0.mk HBK2
      subst hu1
      clear hj hje HBK2
      go_wp2_with fail
      go_ret
      exact ⟨rfl, HBK3.out, HK.out, HB.out⟩
/-- A number of a packed row. -/
def nextOf (low u : Int) : Int := IntKind.i64.wrap (IntKind.u64.wrap (IntKind.u64.wrap low + u))
set_option maxHeartbeats 8000000 in
set_option maxRecDepth 100000 in
theorem tight_packed_next.calls (g : Nat) (A : Option Addr) (c : Nat) (b : List Int) (at_ : Nat) (low : Int) (n : Nat) (r : Int) (w0 w : World) (hb : w.heap[g]? = some (.cells #[.slice A b.length c, .int .i64 (at_ : Int), .int .i64 low, .int .i64 (n : Int)] 60 (0, 0))) (hg : w0.heap.size ≤ g) (hC : Kd.C (Kd.int .u8) w A b.length b) (hne : ∀ ad, A = some ad → 0 < b.length → ad.block ≠ g) (hB : Below w0.heap.size w0 w) (h : tight_row_read.f b at_ n = some r) :
    Calls Try.prog 48 #[.pointer (some ⟨g, 0, none⟩)] w fun e w' => e = .returned (.int .i64 (nextOf low r)) ∧ w'.heap[g]? = some (.cells #[.slice A b.length c, .int .i64 ((at_ + n : Nat) : Int), .int .i64 low, .int .i64 (n : Int)] 60 (0, 0)) ∧ KeepBut w w' g none ∧ Below w0.heap.size w0 w' := by
  have HBK := Aside0.mk hb
  have HC := Aside0.mk hC
  have HB := Aside0.mk hB
  have HNE := Aside0.mk hne
  have HH := Aside0.mk h
  have h2 : w.cell? ⟨g, 2, none⟩ = some (.int .i64 low) := (blk_cell hb 2).trans rfl
  have h3 : w.cell? ⟨g, 3, none⟩ = some (.int .i64 (n : Int)) := (blk_cell hb 3).trans rfl
  have hu := Try.underlying60
  clear hb hC hB hne h
  go_enter Try.func48, Try.ntmps48
  go_wp2_with fail
  go_region_held3 (fun w' => w'.cell? ⟨g, 2, none⟩ = some (.int .i64 low) ∧ w'.cell? ⟨g, 3, none⟩ = some (.int .i64 (n : Int))) (first | exact ⟨(blk_cell HB3.out.1 2).trans rfl, (blk_cell HB3.out.1 3).trans rfl⟩ | exact ⟨(blk_cell (blk_drew HBK.out) 2).trans rfl, (blk_cell (blk_drew HBK.out) 3).trans rfl⟩ | go_keep)
    (first | (go_at_call 78; refine (tight_row_read.calls g A c b at_ low (n : Int) n r w0 w.drew (blk_drew HBK.out) hg (Kd.C_drew HC.out) HNE.out (below_drew HB.out) HH.out).mono ?_; rintro e w3 ⟨rfl, hb3, hk3, hB3⟩; have HB3 := Aside0.mk (And.intro hb3 (And.intro ((KeepBut.of_below (below_drew (Below.refl _ _)) g none).trans hk3 (.inl rfl)) hB3)); clear hb3 hk3 hB3) | fail)
  all_goals go_wp2_with fail
  all_goals (go_ret; exact ⟨rfl, HB3.out⟩)
end Go.Proofs.Ytbbffnlefmogbaa.X
/- The contract of vint.From: a source that reads the bytes, in a block of its own. -/
namespace Go.Proofs.Ytbbffnlefmogbaa.X
open Go.RowKit Go.Proofs.YtbbffnlefmogbaaW.PrintWords Go.Proofs.YtbbffnlefmogbaaW.PrintLast Go.Proofs.YtbbffnlefmogbaaW.PrintMore
set_option linter.unusedVariables false
set_option linter.unusedSimpArgs false
def vint_From.f (l0 : List Int) : Option (List Int × Bool) := some (l0, false)
set_option maxHeartbeats 8000000 in
set_option maxRecDepth 100000 in
theorem vint_From.calls2 (A0 : Option Addr) (c0 : Nat) (l0 : List Int) (w0 w : World) (hB : Below w0.heap.size w0 w) (hr0 : Kd.C (Kd.int .u8) w0 A0 l0.length l0) (hc0 : l0.length ≤ c0) :
    Calls Try.prog 19 #[.slice A0 l0.length c0] w fun e w' => ∃ g_ : Nat, e = .returned (.pointer (some ⟨g_, 0, none⟩)) ∧ IsS75 w0 w' g_ l0 false ∧ Below w0.heap.size w0 w' ∧ Below w.heap.size w w' ∧ w.heap.size ≤ g_ := by
  have hu := Try.underlying75
  go_enter Try.func19, Try.ntmps19
  go_wp2
  go_ret
  refine ⟨w.heap.size, rfl, IsS75.new w0 w A0 c0 l0 false hB ⟨hr0, hc0⟩, hB.alloc hB.size _, below_alloc (Below.refl _ _) _, Nat.le_refl _⟩
theorem vint_From.calls (A0 : Option Addr) (c0 : Nat) (l0 : List Int) (r1 : List Int) (r2 : Bool) (w0 w : World) (hB : Below w0.heap.size w0 w) (hr0 : Kd.C (Kd.int .u8) w0 A0 l0.length l0) (hc0 : l0.length ≤ c0) (h : vint_From.f l0 = some (r1, r2)) :
    Calls Try.prog 19 #[.slice A0 l0.length c0] w fun e w' => ∃ g_ : Nat, e = .returned (.pointer (some ⟨g_, 0, none⟩)) ∧ IsS75 w0 w' g_ r1 r2 ∧ Below w0.heap.size w0 w' ∧ Below w.heap.size w w' := by
  unfold vint_From.f at h
  simp only [Option.some.injEq, Prod.mk.injEq] at h
  obtain ⟨rfl, rfl⟩ := h
  exact (vint_From.calls2 A0 c0 l0 w0 w hB hr0 hc0).mono fun e w' ⟨g, h1, h2, h3, h4, _⟩ => ⟨g, h1, h2, h3, h4⟩
end Go.Proofs.Ytbbffnlefmogbaa.X
/- The contract of (*vint.Source).Ok: whether it did not fail; the source stays as it is. -/
namespace Go.Proofs.Ytbbffnlefmogbaa.X
open Go.RowKit Go.Proofs.YtbbffnlefmogbaaW.PrintWords Go.Proofs.YtbbffnlefmogbaaW.PrintLast Go.Proofs.YtbbffnlefmogbaaW.PrintMore
set_option linter.unusedVariables false
set_option linter.unusedSimpArgs false
def vint_Source_Ok.f (l : List Int) (bad : Bool) : Option (Bool × List Int × Bool) := some (!bad, l, bad)
set_option maxHeartbeats 8000000 in
set_option maxRecDepth 100000 in
theorem vint_Source_Ok.calls (g : Nat) (s0_0 : List Int) (s0_1 : Bool) (r1 : Bool) (r2 : List Int) (r3 : Bool) (w0 w : World) (hI : IsS75 w0 w g s0_0 s0_1) (hB : Below w0.heap.size w0 w) (h : vint_Source_Ok.f s0_0 s0_1 = some (r1, r2, r3)) :
    Calls Try.prog 23 #[.pointer (some ⟨g, 0, none⟩)] w fun e w' => e = .returned (.bool r1) ∧ IsS75 w0 w' g r2 r3 ∧ Below w0.heap.size w0 w' ∧ KeepBut w w' g none := by
  obtain ⟨rfl, rfl, rfl⟩ : (!s0_1) = r1 ∧ s0_0 = r2 ∧ s0_1 = r3 := by unfold vint_Source_Ok.f at h; injection h with h; injection h with h1 h; injection h with h2 h3; exact ⟨h1, h2, h3⟩
  clear h
  have HI := Aside0.mk hI
  obtain ⟨A0, c0, hb, hg, hr⟩ := hI
  have hne : ∀ w : World, (binOp .neq 35 (.pointer (some ⟨g, 0, none⟩)) (.pointer none)).run Try.prog w = .ok (.bool true) w := fun w => run_neq_pointer_nil w 35 (some ⟨g, 0, none⟩) (by kernel_rfl)
  have h1 : w.cell? ⟨g, 1, none⟩ = some (.bool s0_1) := (blk_cell hb 1).trans rfl
  have hu := Try.underlying75
  clear hb hr hg
  go_enter Try.func23, Try.ntmps23
  go_wp2
  go_ret
  exact ⟨rfl, HI.out, hB, KeepBut.refl _ _ _⟩
end Go.Proofs.Ytbbffnlefmogbaa.X
/- What a source tells without being read from: the world stays as it is. -/
namespace Go.Proofs.Ytbbffnlefmogbaa.X
open Go.RowKit Go.Proofs.YtbbffnlefmogbaaW.PrintWords Go.Proofs.YtbbffnlefmogbaaW.PrintLast Go.Proofs.YtbbffnlefmogbaaW.PrintMore
set_option linter.unusedVariables false
set_option linter.unusedSimpArgs false
set_option maxHeartbeats 4000000 in
set_option maxRecDepth 100000 in
theorem vint_Source_Ok.same (g : Nat) (l : List Int) (bad : Bool) (w0 w : World) (hI : IsS75 w0 w g l bad) : Calls Try.prog 23 #[.pointer (some ⟨g, 0, none⟩)] w fun e w' => e = .returned (.bool !bad) ∧ w' = w := by
  have HI := Aside0.mk hI
  obtain ⟨A1, c1, hb1, hg1, hr1, hc1⟩ := hI
  have h0 : w.cell? ⟨g, 0, none⟩ = some (.slice A1 l.length c1) := (blk_cell hb1 0).trans rfl
  have h1 : w.cell? ⟨g, 1, none⟩ = some (.bool bad) := (blk_cell hb1 1).trans rfl
  have hu := Try.underlying75
  have hne : ∀ w : World, (binOp .neq 35 (.pointer (some ⟨g, 0, none⟩)) (.pointer none)).run Try.prog w = .ok (.bool true) w := fun w => run_neq_pointer_nil w 35 (some ⟨g, 0, none⟩) (by kernel_rfl)
  clear hb1
  cases bad <;>
    (go_enter Try.func23, Try.ntmps23
     go_wp2_with fail
     go_ret
     exact ⟨rfl, rfl⟩)
set_option maxHeartbeats 4000000 in
set_option maxRecDepth 100000 in
theorem vint_Source_Left.same (g : Nat) (l : List Int) (bad : Bool) (w0 w : World) (hI : IsS75 w0 w g l bad) : Calls Try.prog 24 #[.pointer (some ⟨g, 0, none⟩)] w fun e w' => e = .returned (.int .i64 (if bad = true then 0 else (l.length : Int))) ∧ w' = w := by
  have HI := Aside0.mk hI
  obtain ⟨A1, c1, hb1, hg1, hr1, hc1⟩ := hI
  have h0 : w.cell? ⟨g, 0, none⟩ = some (.slice A1 l.length c1) := (blk_cell hb1 0).trans rfl
  have h1 : w.cell? ⟨g, 1, none⟩ = some (.bool bad) := (blk_cell hb1 1).trans rfl
  have hu := Try.underlying75
  clear hb1
  cases bad <;>
    (go_enter Try.func24, Try.ntmps24
     go_wp2_with (refine (vint_Source_Ok.same g l _ w0 _ HI.out).mono ?_; rintro e w1 ⟨rfl, rfl⟩)
     go_ret
     exact ⟨rfl, rfl⟩)
theorem vint_Source_Left.same2 (g : Nat) (l : List Int) (bad : Bool) (w0 w : World) (hI : IsS75 w0 w g l bad) (hg : bad = true → l = []) : Calls Try.prog 24 #[.pointer (some ⟨g, 0, none⟩)] w fun e w' => e = .returned (.int .i64 (l.length : Int)) ∧ w' = w := by
  have h := vint_Source_Left.same g l bad w0 w hI
  have e : (if bad = true then (0 : Int) else (l.length : Int)) = (l.length : Int) := by
    cases bad
    · rfl
    · rw [hg rfl]; rfl
  rwa [e] at h
end Go.Proofs.Ytbbffnlefmogbaa.X
/- The contract of (*vint.Source).Fail: it failed, and has nothing left. -/
namespace Go.Proofs.Ytbbffnlefmogbaa.X
open Go.RowKit Go.Proofs.YtbbffnlefmogbaaW.PrintWords Go.Proofs.YtbbffnlefmogbaaW.PrintLast Go.Proofs.YtbbffnlefmogbaaW.PrintMore
set_option linter.unusedVariables false
set_option linter.unusedSimpArgs false
def vint_Source_Fail.f (l : List Int) (bad : Bool) : Option (List Int × Bool) := some ([], true)
set_option maxHeartbeats 8000000 in
set_option maxRecDepth 100000 in
theorem vint_Source_Fail.calls (g : Nat) (s0_0 : List Int) (s0_1 : Bool) (r1 : List Int) (r2 : Bool) (w0 w : World) (hI : IsS75 w0 w g s0_0 s0_1) (hB : Below w0.heap.size w0 w) (h : vint_Source_Fail.f s0_0 s0_1 = some (r1, r2)) :
    Calls Try.prog 59 #[.pointer (some ⟨g, 0, none⟩)] w fun e w' => e = .returned (.tuple #[]) ∧ IsS75 w0 w' g r1 r2 ∧ Below w0.heap.size w0 w' ∧ KeepBut w w' g none := by
  obtain ⟨rfl, rfl⟩ : [] = r1 ∧ true = r2 := by unfold vint_Source_Fail.f at h; injection h with h; injection h with h1 h2; exact ⟨h1, h2⟩
  clear h
  obtain ⟨A0, c0, hb, hg, hr⟩ := hI
  have hne : ∀ w : World, (binOp .neq 35 (.pointer (some ⟨g, 0, none⟩)) (.pointer none)).run Try.prog w = .ok (.bool true) w := fun w => run_neq_pointer_nil w 35 (some ⟨g, 0, none⟩) (by kernel_rfl)
  have h0 : w.cell? ⟨g, 0, none⟩ = some (.slice A0 s0_0.length c0) := (blk_cell hb 0).trans rfl
  have h1 : w.cell? ⟨g, 1, none⟩ = some (.bool s0_1) := (blk_cell hb 1).trans rfl
  have f0 := blk_frozen hb 0
  have f1 := blk_frozen hb 1
  have hu := Try.underlying75
  have HB := Aside0.mk hb
  clear hb
  go_enter Try.func59, Try.ntmps59
  go_wp2
  go_end0
  have h2 := blk_set (blk_set HB.out 1 (.bool true)) 0 (.slice none 0 0)
  refine ⟨rfl, ⟨none, 0, by simpa using h2, hg, Kd.C_nil _ _, Nat.le_refl _⟩, below_set (below_set hB hg) hg, ?_⟩
  exact KeepBut.set_ (KeepBut.set_ (KeepBut.refl _ _ _) 1 _) 0 _
end Go.Proofs.Ytbbffnlefmogbaa.X
/- The contract of bytes.Clone: a copy of the bytes, in memory of its own. -/
namespace Go.Proofs.Ytbbffnlefmogbaa.X
open Go.RowKit Go.Proofs.YtbbffnlefmogbaaW.PrintWords Go.Proofs.YtbbffnlefmogbaaW.PrintLast Go.Proofs.YtbbffnlefmogbaaW.PrintMore
set_option linter.unusedVariables false
set_option linter.unusedSimpArgs false
def bytes_Clone.f (l0 : List Int) : Option (List Int) := if l0.length < 140737488355328 then some l0 else none
set_option maxHeartbeats 8000000 in
set_option maxRecDepth 100000 in
theorem bytes_Clone.calls (A0 : Option Addr) (c0 : Nat) (l0 : List Int) (r : List Int) (w : World) (hr0 : Kd.C (Kd.int .u8) w A0 l0.length l0) (hc0 : l0.length ≤ c0) (h : bytes_Clone.f l0 = some r) :
    Calls Try.prog 86 #[.slice A0 l0.length c0] w fun e w' => ∃ v0_ : Value, e = .returned v0_ ∧ Kd.R (Kd.int .u8) 5 w' w.heap.size (fun _ => True) v0_ r ∧ Below w.heap.size w w' := by
  unfold bytes_Clone.f at h
  by_cases hf : l0.length < 140737488355328
  case neg => rw [if_neg hf] at h; cases h
  rw [if_pos hf] at h
  obtain rfl := Option.some.inj h
  clear h
  have HR0 := Aside0.mk hr0
  have HL := Aside0.mk hf
  clear hf
  cases A0 with
  | none =>
    have hl0 : l0 = [] := by
      rcases Nat.eq_zero_or_pos l0.length with h | h
      · exact List.eq_nil_of_length_eq_zero h
      · obtain ⟨ad, hn, _⟩ := hr0.2.2 h; cases hn
    subst hl0
    have hnil : ∀ W, (binOp .eql 24 (.slice none 0 c0) (.slice none 0 0)).run Try.prog W = .ok (.bool true) W := fun W => Lib.run_eql_slice_nil W _ _ _ _ _ _ _ Try.underlying24
    go_enter Try.func86, Try.ntmps86
    go_wp2_with fail
    go_ret
    exact ⟨_, rfl, Kd.R_nil _ _ _ _ _, Below.refl _ _⟩
  | some ad =>
    have hnil : ∀ W, (binOp .eql 24 (.slice (some ad) l0.length c0) (.slice none 0 0)).run Try.prog W = .ok (.bool false) W := fun W => Lib.run_eql_slice_nil W _ _ _ _ _ _ _ Try.underlying24
    go_enter Try.func86, Try.ntmps86
    go_wp2_with (first | ((with_reducible refine gate_dst (N := 5) rfl ?_); refine Kd.R_lit (Kd.int .u8) _ 5 ?hg (N := 5) ?hd (xs := ([] : List Int)) (inner := []) (ok := fun _ => True) (okp := fun _ => True) ?hr ?hp (fun _ hk => hk) trivial (Below.refl _ _) (Nat.le_refl _) (by simp) ?_; (case hd => rfl); (case hg => rfl); (case hr => first | (go_simp; done) | (go_simp; rfl)); (case hp => exact (Reps.none _ _)); intro v205 w2 ho3 hb hg_ hnew_; clear hg_ hnew_; have HO := Aside0.mk ho3; have HB := Aside0.mk hb; clear ho3 hb) | ((with_reducible refine gate_builtin (b := .append) (xs := #[.tmp 5, .tmp 6]) rfl ?_); at_builtin; refine Kd.R_append_rows (Kd.int .u8) (w0 := w) w.heap.size rfl (.tmp 5) (.tmp 6) 24 5 (.int .u8 0) 1 rfl Try.underlying24 info5 rfl (by decide) (by omega) v205 [] l0 _ _ _ (fun _ => True) (fun _ => False) rfl rfl HO.out (Kd.C_below HR0.out HB.out) (fun _ _ h => h) (fun _ h => h.elim) (fun _ _ => trivial) HB.out (below_size HB.out) (by have := HL.out; rw [List.length_nil]; omega) ?_; intro v4 w4 ho hb hg hat; have HO4 := Aside0.mk ho; have HB4 := Aside0.mk hb; clear HO HB ho hb hg hat))
    go_ret
    exact ⟨_, rfl, by have := HO4.out; rwa [List.nil_append] at this, HB4.out⟩
end Go.Proofs.Ytbbffnlefmogbaa.X
/- The contract of (*vint.Source).Take: the first bytes, in memory of their own; or it failed. -/
namespace Go.Proofs.Ytbbffnlefmogbaa.X
open Go.RowKit Go.Proofs.YtbbffnlefmogbaaW.PrintWords Go.Proofs.YtbbffnlefmogbaaW.PrintLast Go.Proofs.YtbbffnlefmogbaaW.PrintMore
set_option linter.unusedVariables false
set_option linter.unusedSimpArgs false
def takeS (l : List Int) (bad : Bool) (n : Int) : List Int × List Int × Bool :=
  if bad = true ∨ n < 0 ∨ (l.length : Int) < n then ([], [], true) else (l.take n.toNat, l.drop n.toNat, false)
def vint_Source_Take.f (l : List Int) (bad : Bool) (n : Int) : Option (List Int × List Int × Bool) := if l.length < 1000000000000 then some (takeS l bad n) else none
set_option maxHeartbeats 8000000 in
set_option maxRecDepth 100000 in
theorem vint_Source_Take.calls (g : Nat) (s0_0 : List Int) (s0_1 : Bool) (a1 : Int) (r1 : List Int) (r2 : List Int) (r3 : Bool) (w0 w : World) (hI : IsS75 w0 w g s0_0 s0_1) (hB : Below w0.heap.size w0 w) (h : vint_Source_Take.f s0_0 s0_1 a1 = some (r1, r2, r3)) :
    Calls Try.prog 71 #[.pointer (some ⟨g, 0, none⟩), .int .i64 a1] w fun e w' => ∃ v0_ : Value, e = .returned v0_ ∧ Kd.R (Kd.int .u8) 5 w' w.heap.size (fun _ => True) v0_ r1 ∧ IsS75 w0 w' g r2 r3 ∧ Below w0.heap.size w0 w' ∧ KeepBut w w' g none := by
  unfold vint_Source_Take.f at h
  by_cases hf : s0_0.length < 1000000000000
  case neg => rw [if_neg hf] at h; cases h
  rw [if_pos hf] at h
  have h := Option.some.inj h
  unfold takeS at h
  have HF := Aside0.mk hf
  clear hf
  by_cases ht : s0_1 = true ∨ a1 < 0 ∨ (s0_0.length : Int) < a1
  · rw [if_pos ht] at h
    simp only [Prod.mk.injEq] at h
    obtain ⟨rfl, rfl, rfl⟩ := h
    obtain ⟨bn, hbn⟩ : ∃ b_ : Bool, decide (a1 < 0) = b_ := ⟨_, rfl⟩
    obtain ⟨bl, hbl⟩ : ∃ b_ : Bool, decide ((s0_0.length : Int) < a1) = b_ := ⟨_, rfl⟩
    have hx : (s0_1 || bn || bl) = true := by rw [← hbn, ← hbl]; simp only [Bool.or_eq_true, decide_eq_true_eq]; exact (or_assoc).mpr ht
    clear ht
    have hu := Try.underlying75
    cases s0_1 <;> cases bn <;> cases bl <;> first
      | (exact absurd hx (by decide))
      | (clear hx
         go_enter Try.func71, Try.ntmps71
         go_wp2_with fail
         refine (vint_Source_Ok.calls g s0_0 _ _ s0_0 _ w0 _ hI hB rfl).mono ?_
         rintro e w1 ⟨rfl, hI1, hB1, hK1⟩
         have HI1 := Aside0.mk hI1
         obtain ⟨A1, c1, hb1, hg1, hr1, hc1⟩ := hI1
         have h0 : w1.cell? ⟨g, 0, none⟩ = some (.slice A1 s0_0.length c1) := (blk_cell hb1 0).trans rfl
         clear hb1 hr1
         go_wp2_with fail
         refine (vint_Source_Fail.calls g s0_0 _ [] true w0 _ HI1.out hB1 rfl).mono ?_
         rintro e w2 ⟨rfl, hI2, hB2, hK2⟩
         go_wp2_with fail
         go_ret
         exact ⟨_, rfl, Kd.R_nil _ _ _ _ _, hI2, hB2, hK1.trans hK2 (.inl rfl)⟩)
  · rw [if_neg ht] at h
    simp only [Prod.mk.injEq] at h
    obtain ⟨rfl, rfl, rfl⟩ := h
    have hbad : s0_1 = false := by cases s0_1 <;> simp_all
    subst hbad
    obtain ⟨m, rfl⟩ : ∃ m : Nat, a1 = (m : Int) := ⟨a1.toNat, by omega⟩
    rw [Int.toNat_natCast]
    have hm : m ≤ s0_0.length := by omega
    have hbn : decide ((m : Int) < 0) = false := decide_eq_false (by omega)
    have hbl : decide ((s0_0.length : Int) < (m : Int)) = false := decide_eq_false (by omega)
    have hbl2 : decide (s0_0.length < m) = false := decide_eq_false (by omega)
    have hu := Try.underlying75
    clear ht
    go_enter Try.func71, Try.ntmps71
    go_wp2_with fail
    refine (vint_Source_Ok.calls g s0_0 _ _ s0_0 _ w0 _ hI hB rfl).mono ?_
    rintro e w1 ⟨rfl, hI1, hB1, hK1⟩
    have HI1 := Aside0.mk hI1
    obtain ⟨A1, c1, hb1, hg1, hr1, hc1⟩ := hI1
    have h0 : w1.cell? ⟨g, 0, none⟩ = some (.slice A1 s0_0.length c1) := (blk_cell hb1 0).trans rfl
    have HB1 := Aside0.mk hb1
    clear hb1
    go_wp2_with fail
    have hlm : (s0_0.take m).length = m := by rw [List.length_take]; omega
    have HCl := bytes_Clone.calls A1 c1 (s0_0.take m) (s0_0.take m) w1 (Kd.C_take (Kd.C_below hr1 hB1) hm) (by omega) (by unfold bytes_Clone.f; have := HF.out; rw [if_pos (by omega)])
    rw [hlm] at HCl
    refine HCl.mono ?_
    rintro e w2 ⟨v2, rfl, R2, b2⟩
    have HR2 := Aside0.mk R2
    have HG2 := Aside0.mk (blk_below HB1.out b2)
    have B2 := below_step hB1 b2
    have HI2 := Aside0.mk (IsS75.below HI1.out b2)
    have HKB := Aside0.mk hK1
    have K2 := hK1.trans (KeepBut.of_below b2 g none) (.inl rfl)
    have hlt1 : g < w1.heap.size := blk_lt HB1.out
    have HL1 := Aside0.mk hlt1
    have h0 : w2.cell? ⟨g, 0, none⟩ = some (.slice A1 s0_0.length c1) := (blk_cell HG2.out 0).trans rfl
    have f0 := blk_frozen HG2.out 0
    have HD := Lib.hid (Kd.C_drop (m := m) hr1 (by omega) hc1)
    have HL := Lib.hid (show (s0_0.drop m).length = s0_0.length - m from List.length_drop)
    have HR3 : Aside0 (∀ u, Kd.R (Kd.int .u8) 5 (w2.setCell ⟨g, 0, none⟩ u) w.heap.size (fun _ => True) v2 (s0_0.take m)) := ⟨fun u => Kd.R_mono (Kd.R_far (p := ⟨g, 0, none⟩) (Kd.R_lower (Kd.R_bound HR2.out) HKB.out.1) (fun k hk => by have := HL1.out; have := hk.2.1; show k ≠ g; omega) u) (fun _ _ => trivial)⟩
    clear R2 b2 hlt1 hlm HB1 HI1 hB1 hK1 HCl
    by_cases hcj : c1 = m
    · subst hcj
      have hl0 : s0_0.length - c1 = 0 := by omega
      have HL0 := Lib.hid hl0
      clear hl0
      go_wp2_with fail
      go_ret
      refine ⟨_, rfl, HR3.out _, ⟨A1, 0, ?_, hg1, ?_, ?_⟩, below_set B2 hg1, KeepBut.set_ K2 0 _⟩
      · have h2 := blk_set HG2.out 0 (.slice A1 0 0)
        have e : (s0_0.drop c1).length = 0 := by rw [HL.out]; exact HL0.out
        rw [e]
        simpa using h2
      · have := HD.out
        simp only [if_true] at this
        exact this
      · rw [HL.out]; omega
    · go_wp2_with fail
      go_ret
      refine ⟨_, rfl, HR3.out _, ⟨A1.map (·.add m), c1 - m, ?_, hg1, ?_, ?_⟩, below_set B2 hg1, KeepBut.set_ K2 0 _⟩
      · have h2 := blk_set HG2.out 0 (.slice (A1.map (·.add m)) (s0_0.length - m) (c1 - m))
        rw [← HL.out] at h2
        rw [← HL.out]
        simpa using h2
      · have := HD.out
        rw [if_neg hcj] at this
        have e : (Kd.int .u8).sz = 1 := rfl
        rw [e, Nat.mul_one] at this
        exact this
      · rw [HL.out]; omega
end Go.Proofs.Ytbbffnlefmogbaa.X
-- Printed for this claim by a program of this session (wip/xprint.py) over the kit's printer; Lean checks it.
namespace Go.Proofs.Ytbbffnlefmogbaa.X
open Go.RowKit Go.Proofs.YtbbffnlefmogbaaW.PrintWords Go.Proofs.YtbbffnlefmogbaaW.PrintLast Go.Proofs.YtbbffnlefmogbaaW.PrintMore
attribute [local go_sem] max2_int min2_int max_two min_two max_three min_three max_four min_four   -- for this text's walks alone
set_option linter.unusedVariables false
set_option linter.unusedSimpArgs false

/-! ### vint_size: function 91 -/
mutual
def vint_size.l0 : Nat → List Int → Int → Int → Option (Int)
  | 0, _, _, _ => none
  | k + 1, x5, x6, x7 => if x7 < x6 then (if 0 ≤ x7 then (if x7 < (x5.length : Int) then (if x7 = 9 then (vint_size.j1 k x7 (rd x5 x7) x5 x6 x7 (decide ((rd x5 x7) > 1))) else (vint_size.j1 k x7 (rd x5 x7) x5 x6 x7 false)) else (none)) else (none)) else (some 0)
def vint_size.j1 : Nat → Int → Int → List Int → Int → Int → Bool → Option (Int)
  | 0, _, _, _, _, _, _ => none
  | k + 1, x3, x4, x5, x6, x7, x12 => if x12 = true then (vint_size.j2 k x3 x4 x5 x6 x7 x12) else (if x3 > 0 then (vint_size.j2 k x3 x4 x5 x6 x7 (x4 == 0)) else (vint_size.j2 k x3 x4 x5 x6 x7 false))
def vint_size.j2 : Nat → Int → Int → List Int → Int → Int → Bool → Option (Int)
  | 0, _, _, _, _, _, _ => none
  | k + 1, x3, x4, x5, x6, x7, x12 => if x12 = true then (some 0) else (if x4 < 128 then (some (wrap64 (x3 + 1))) else (if x3 = 9 then (some 0) else (vint_size.l0 k x5 x6 (wrap64 (x7 + 1)))))
end
def vint_size.f (k : Nat) (l0 : List Int) : Option (Int) := vint_size.l0 k l0 (l0.length : Int) 0
theorem vint_size.mono_l : ∀ k, (∀ y0 y1 y2, LeO (vint_size.l0 k y0 y1 y2) (vint_size.l0 (k + 1) y0 y1 y2)) ∧ (∀ y0 y1 y2 y3 y4 y5, LeO (vint_size.j1 k y0 y1 y2 y3 y4 y5) (vint_size.j1 (k + 1) y0 y1 y2 y3 y4 y5)) ∧ (∀ y0 y1 y2 y3 y4 y5, LeO (vint_size.j2 k y0 y1 y2 y3 y4 y5) (vint_size.j2 (k + 1) y0 y1 y2 y3 y4 y5))
  | 0 => ⟨fun _ _ _ r h => by simp [vint_size.l0] at h, fun _ _ _ _ _ _ r h => by simp [vint_size.j1] at h, fun _ _ _ _ _ _ r h => by simp [vint_size.j2] at h⟩
  | k + 1 => by
    obtain ⟨ih0, ih1, ih2⟩ := vint_size.mono_l k
    refine ⟨?_, ?_, ?_⟩
    · intro y0 y1 y2
      unfold vint_size.l0
      repeat' first
      | (with_reducible exact ih0 _ _ _)
      | (with_reducible exact ih1 _ _ _ _ _ _)
      | (with_reducible exact ih2 _ _ _ _ _ _)
      | (with_reducible exact LeO.refl _)
      | (with_reducible exact LeO.none _)
      | (with_reducible refine LeO.ite ?_ ?_)
      | (with_reducible refine LeO.bind ?_ (fun _ => ?_))
      | exact ih0 _ _ _
      | exact ih1 _ _ _ _ _ _
      | exact ih2 _ _ _ _ _ _
      | exact LeO.none _
      | refine LeO.ite ?_ ?_
      | refine LeO.bind ?_ (fun _ => ?_)
    · intro y0 y1 y2 y3 y4 y5
      unfold vint_size.j1
      repeat' first
      | (with_reducible exact ih0 _ _ _)
      | (with_reducible exact ih1 _ _ _ _ _ _)
      | (with_reducible exact ih2 _ _ _ _ _ _)
      | (with_reducible exact LeO.refl _)
      | (with_reducible exact LeO.none _)
      | (with_reducible refine LeO.ite ?_ ?_)
      | (with_reducible refine LeO.bind ?_ (fun _ => ?_))
      | exact ih0 _ _ _
      | exact ih1 _ _ _ _ _ _
      | exact ih2 _ _ _ _ _ _
      | exact LeO.none _
      | refine LeO.ite ?_ ?_
      | refine LeO.bind ?_ (fun _ => ?_)
    · intro y0 y1 y2 y3 y4 y5
      unfold vint_size.j2
      repeat' first
      | (with_reducible exact ih0 _ _ _)
      | (with_reducible exact ih1 _ _ _ _ _ _)
      | (with_reducible exact ih2 _ _ _ _ _ _)
      | (with_reducible exact LeO.refl _)
      | (with_reducible exact LeO.none _)
      | (with_reducible refine LeO.ite ?_ ?_)
      | (with_reducible refine LeO.bind ?_ (fun _ => ?_))
      | exact ih0 _ _ _
      | exact ih1 _ _ _ _ _ _
      | exact ih2 _ _ _ _ _ _
      | exact LeO.none _
      | refine LeO.ite ?_ ?_
      | refine LeO.bind ?_ (fun _ => ?_)
theorem vint_size.mono : ∀ a0 k, LeO (vint_size.f k a0) (vint_size.f (k + 1) a0) := by
  intro a0 k
  obtain ⟨ih0, ih1, ih2⟩ := vint_size.mono_l k
  unfold vint_size.f
  repeat' first
      | (with_reducible exact ih0 _ _ _)
      | (with_reducible exact ih1 _ _ _ _ _ _)
      | (with_reducible exact ih2 _ _ _ _ _ _)
      | (with_reducible exact LeO.refl _)
      | (with_reducible exact LeO.none _)
      | (with_reducible refine LeO.ite ?_ ?_)
      | (with_reducible refine LeO.bind ?_ (fun _ => ?_))
      | exact ih0 _ _ _
      | exact ih1 _ _ _ _ _ _
      | exact ih2 _ _ _ _ _ _
      | exact LeO.none _
      | refine LeO.ite ?_ ?_
      | refine LeO.bind ?_ (fun _ => ?_)
set_option maxHeartbeats 8000000 in
set_option maxRecDepth 100000 in
theorem vint_size.calls (k : Nat) (A0 : Option Addr) (c0 : Nat) (l0 : List Int) (r : Int) (w : World) (hr0 : Kd.C (Kd.int .u8) w A0 l0.length l0) (hc0 : l0.length ≤ c0) (h : vint_size.f k l0 = some r) :
    Calls Try.prog 91 #[.slice A0 l0.length c0] w fun e w' => e = .returned (.int .i64 r) ∧ Drawn0 w w' := by
  have HR0 := Aside0.mk hr0
  have HC0 := Aside0.mk hc0
  clear hr0 hc0
  have H : (vint_size.l0 k l0 (l0.length : Int) 0) = some r := h
  clear h
  have H' := Aside0.mk H
  clear H
  go_enter Try.func91, Try.ntmps91
  go_wp2
  go_loopg [7] k (fun kq v7 w' => ∃ (x7_1 : Int), v7 = .int .i64 x7_1 ∧ Aside0 (vint_size.l0 kq l0 (l0.length : Int) x7_1 = some r) ∧ Aside0 (kq ≤ k) ∧ Drawn0 w w')
  case atStart => exact ⟨(0), (by first | rfl | (simp; done) | (simp [*]; done)), H', ⟨Nat.le_refl _⟩, by repeat (first | exact Drawn0.refl _ | apply Drawn0.step)⟩
  case round =>
    clear H'
    obtain ⟨x7_1, rfl, HA, HK1, ⟨m1, rfl⟩⟩ := hrel
    cases gk with
    | zero => exact absurd HA.out (by simp [vint_size.l0])
    | succ k1 =>
      have H := HA.out
      clear HA
      simp only [vint_size.l0] at H
      by_cases c2 : x7_1 < (l0.length : Int)
      · rw [if_pos c2] at H
        have c2b0 : decide (x7_1 < (l0.length : Int)) = true := decide_eq_true c2
        clear c2
        by_cases c3 : 0 ≤ x7_1
        · rw [if_pos c3] at H
          have c3b0 : decide (0 ≤ x7_1) = true := decide_eq_true c3
          clear c3
          by_cases c4 : x7_1 < (l0.length : Int)
          · rw [if_pos c4] at H
            have c4b0 : decide (x7_1 < (l0.length : Int)) = true := decide_eq_true c4
            clear c4
            have HC5 := Aside0.mk H
            clear H
            have p101 : 0 ≤ (x7_1 : Int) := of_decide_eq_true (by first | (with_reducible assumption) | assumption)
            have q101 : x7_1 < (l0.length : Int) := of_decide_eq_true (by first | (with_reducible assumption) | assumption)
            obtain ⟨ad101, e101, hx101_0⟩ := Kd.at_int HR0.out x7_1 p101 q101
            cases e101
            replace p101 := eq_true p101
            replace q101 := eq_true q101
            go_upto_region 4 with (fail)
            go_cut [12] (fun v12 wc => ∃ (kq : Nat) (x12_4 : Bool), v12 = .bool x12_4 ∧ Aside0 (vint_size.j1 kq x7_1 (rd l0 x7_1) l0 (l0.length : Int) x7_1 x12_4 = some r) ∧ Aside0 (kq ≤ k1) ∧ Drawn0 w wc)
            case first =>
              have H := HC5.out
              clear HC5
              by_cases c6 : x7_1 = 9
              · rw [if_pos c6] at H
                have c6b0 : (x7_1 == 9) = true := beq_iff_eq.mpr c6
                have c6b1 : (x7_1 != 9) = false := bne_eq_false_iff_eq.mpr c6
                clear c6
                (first | rw [c6b0] | (simp only [i64_w, i32_w]; rw [c6b0]) | skip)
                have H' := Aside0.mk H
                clear H
                go_wp2
                go_meet
                case rel => exact ⟨_, (decide ((rd l0 x7_1) > 1)), (by first | rfl | (simp; done) | (simp [*]; done)), H', ⟨by have := HK1.out; first | omega | exact Nat.le_refl _⟩, by repeat (first | exact Drawn0.refl _ | apply Drawn0.step)⟩
              · rw [if_neg c6] at H
                have c6b0 : (x7_1 == 9) = false := beq_eq_false_iff_ne.mpr c6
                have c6b1 : (x7_1 != 9) = true := bne_iff_ne.mpr c6
                (first | rw [c6b0] | (simp only [i64_w, i32_w]; rw [c6b0]) | skip)
                have H' := Aside0.mk H
                clear H
                go_wp2
                go_meet
                case rel => exact ⟨_, (false), (by first | rfl | (simp; done) | (simp [*]; done)), H', ⟨by have := HK1.out; first | omega | exact Nat.le_refl _⟩, by repeat (first | exact Drawn0.refl _ | apply Drawn0.step)⟩
            case rest =>
              clear HC5
              try clear p1
              try clear q1
              try clear hx1
              try clear c2
              try clear c2b0
              try clear p2
              try clear c3
              try clear c3b0
              try clear c4
              try clear c4b0
              try clear c6
              try clear c6b0
              try clear c6b1
              try clear hx101_0
              try clear p101
              try clear q101
              obtain ⟨kq, x12_4, rfl, HA, HJ4, ⟨mc4, rfl⟩⟩ := hcut
              cases kq with
              | zero => exact absurd HA.out (by simp [vint_size.j1])
              | succ kj4 =>
                have H := HA.out
                clear HA
                simp only [vint_size.j1] at H
                have HC7 := Aside0.mk H
                clear H
                go_upto_if 12 with (fail)
                go_cut [12] (fun v12 wc => ∃ (kq : Nat) (x12_6 : Bool), v12 = .bool x12_6 ∧ Aside0 (vint_size.j2 kq x7_1 (rd l0 x7_1) l0 (l0.length : Int) x7_1 x12_6 = some r) ∧ Aside0 (kq ≤ kj4) ∧ Drawn0 w wc)
                case first =>
                  have H := HC7.out
                  clear HC7
                  by_cases c8 : x12_4 = true
                  · subst c8
                    have H1 : (vint_size.j2 kj4 x7_1 (rd l0 x7_1) l0 (l0.length : Int) x7_1 true) = some r := by rw [if_pos rfl] at H; exact H
                    clear H
                    have H := H1
                    clear H1
                    have H' := Aside0.mk H
                    clear H
                    go_wp2
                    go_meet
                    case rel => exact ⟨_, (true), (by first | rfl | (simp; done) | (simp [*]; done)), H', ⟨by have := HK1.out; have := HJ4.out; first | omega | exact Nat.le_refl _⟩, by repeat (first | exact Drawn0.refl _ | apply Drawn0.step)⟩
                  · replace c8 := Bool.eq_false_iff.mpr c8
                    subst c8
                    have H1 : (if x7_1 > 0 then (vint_size.j2 kj4 x7_1 (rd l0 x7_1) l0 (l0.length : Int) x7_1 ((rd l0 x7_1) == 0)) else (vint_size.j2 kj4 x7_1 (rd l0 x7_1) l0 (l0.length : Int) x7_1 false)) = some r := by rw [if_neg (show ¬ (false = true) by decide)] at H; exact H
                    clear H
                    have H := H1
                    clear H1
                    by_cases c9 : x7_1 > 0
                    · rw [if_pos c9] at H
                      have c9b0 : decide (0 < x7_1) = true := decide_eq_true c9
                      clear c9
                      (first | rw [c9b0] | (simp only [i64_w, i32_w]; rw [c9b0]) | skip)
                      have H' := Aside0.mk H
                      clear H
                      go_wp2
                      go_meet
                      case rel => exact ⟨_, (((rd l0 x7_1) == 0)), (by first | rfl | (simp; done) | (simp [*]; done)), H', ⟨by have := HK1.out; have := HJ4.out; first | omega | exact Nat.le_refl _⟩, by repeat (first | exact Drawn0.refl _ | apply Drawn0.step)⟩
                    · rw [if_neg c9] at H
                      have c9b0 : decide (0 < x7_1) = false := decide_eq_false c9
                      clear c9
                      (first | rw [c9b0] | (simp only [i64_w, i32_w]; rw [c9b0]) | skip)
                      have H' := Aside0.mk H
                      clear H
                      go_wp2
                      go_meet
                      case rel => exact ⟨_, (false), (by first | rfl | (simp; done) | (simp [*]; done)), H', ⟨by have := HK1.out; have := HJ4.out; first | omega | exact Nat.le_refl _⟩, by repeat (first | exact Drawn0.refl _ | apply Drawn0.step)⟩
                case rest =>
                  clear HC7
                  try clear p1
                  try clear q1
                  try clear hx1
                  try clear c2
                  try clear c2b0
                  try clear p2
                  try clear c3
                  try clear c3b0
                  try clear c4
                  try clear c4b0
                  try clear c6
                  try clear c6b0
                  try clear c6b1
                  try clear c8
                  try clear c9
                  try clear c9b0
                  try clear hx101_0
                  try clear p1
                  try clear p101
                  try clear p2
                  try clear q1
                  try clear q101
                  obtain ⟨kq, x12_6, rfl, HA, HJ6, ⟨mc6, rfl⟩⟩ := hcut
                  cases kq with
                  | zero => exact absurd HA.out (by simp [vint_size.j2])
                  | succ kj6 =>
                    have H := HA.out
                    clear HA
                    simp only [vint_size.j2] at H
                    by_cases c10 : x12_6 = true
                    · subst c10
                      have H1 : (some 0) = some r := by rw [if_pos rfl] at H; exact H
                      clear H
                      have H := H1
                      clear H1
                      obtain rfl := Option.some.inj H
                      go_wp2
                      go_ret
                      exact ⟨by first | rfl | (simp; done) | (simp [*]; done), by repeat (first | exact Drawn0.refl _ | apply Drawn0.step)⟩
                    · replace c10 := Bool.eq_false_iff.mpr c10
                      subst c10
                      have H1 : (if (rd l0 x7_1) < 128 then (some (wrap64 (x7_1 + 1))) else (if x7_1 = 9 then (some 0) else (vint_size.l0 kj6 l0 (l0.length : Int) (wrap64 (x7_1 + 1))))) = some r := by rw [if_neg (show ¬ (false = true) by decide)] at H; exact H
                      clear H
                      have H := H1
                      clear H1
                      by_cases c11 : (rd l0 x7_1) < 128
                      · rw [if_pos c11] at H
                        have c11b0 : decide ((rd l0 x7_1) < 128) = true := decide_eq_true c11
                        clear c11
                        obtain rfl := Option.some.inj H
                        go_wp2
                        go_ret
                        exact ⟨by first | rfl | (simp; done) | (simp [*]; done), by repeat (first | exact Drawn0.refl _ | apply Drawn0.step)⟩
                      · rw [if_neg c11] at H
                        have c11b0 : decide ((rd l0 x7_1) < 128) = false := decide_eq_false c11
                        clear c11
                        by_cases c12 : x7_1 = 9
                        · rw [if_pos c12] at H
                          have c12b0 : (x7_1 == 9) = true := beq_iff_eq.mpr c12
                          have c12b1 : (x7_1 != 9) = false := bne_eq_false_iff_eq.mpr c12
                          clear c12
                          obtain rfl := Option.some.inj H
                          go_wp2
                          go_ret
                          exact ⟨by first | rfl | (simp; done) | (simp [*]; done), by repeat (first | exact Drawn0.refl _ | apply Drawn0.step)⟩
                        · rw [if_neg c12] at H
                          have c12b0 : (x7_1 == 9) = false := beq_eq_false_iff_ne.mpr c12
                          have c12b1 : (x7_1 != 9) = true := bne_iff_ne.mpr c12
                          have H' := Aside0.mk H
                          clear H
                          go_wp2
                          go_roundg kj6
                          case measure => have := HK1.out; have := HJ4.out; have := HJ6.out; omega
                          case rel => exact ⟨(wrap64 (x7_1 + 1)), (by first | rfl | (simp; done) | (simp [*]; done)), H', ⟨by have := HK1.out; have := HJ4.out; have := HJ6.out; omega⟩, by repeat (first | exact Drawn0.refl _ | apply Drawn0.step)⟩
          · rw [if_neg c4] at H
            exact absurd H (by simp)
        · rw [if_neg c3] at H
          exact absurd H (by simp)
      · rw [if_neg c2] at H
        have c2b0 : decide (x7_1 < (l0.length : Int)) = false := decide_eq_false c2
        clear c2
        obtain rfl := Option.some.inj H
        go_wp2
        go_ret
        exact ⟨by first | rfl | (simp; done) | (simp [*]; done), by repeat (first | exact Drawn0.refl _ | apply Drawn0.step)⟩

end Go.Proofs.Ytbbffnlefmogbaa.X
/- The contract of (*vint.Source).Num: the number that the bytes begin with, and what is left behind it; or it failed. -/
namespace Go.Proofs.Ytbbffnlefmogbaa.X
open Go.RowKit Go.Proofs.YtbbffnlefmogbaaW.PrintWords Go.Proofs.YtbbffnlefmogbaaW.PrintLast Go.Proofs.YtbbffnlefmogbaaW.PrintMore
set_option linter.unusedVariables false
set_option linter.unusedSimpArgs false
open Go.Proofs.Ytbbffnlefmogbaa.Dec
def vint_Source_Num.f (l : List Int) (bad : Bool) : Option (Int × List Int × Bool) := if Fit l then some (numS l bad) else none
theorem size_loop (l : List Int) (hb : IsBytes l) (hl : l.length < 1000000000000) (d : Nat) : ∀ (k i : Nat), i + d = 10 → 1 ≤ d → 3 * d < k →
    vint_size.l0 k l (l.length : Int) (i : Int) = some ((szS i (l.drop i) : Nat) : Int) := by
  induction d with
  | zero => intro k i h1 h2; omega
  | succ d ih =>
    intro k i hd _ hk
    obtain ⟨k, rfl⟩ : ∃ m, k = m + 3 := ⟨k - 3, by omega⟩
    rw [vint_size.l0]
    by_cases hi : i < l.length
    · have hc := hb.get i
      rw [if_pos (by omega), if_pos (by omega), if_pos (by omega), drop_get hi]
      have hrd : rd l (i : Int) = l.getD i 0 := rfl
      rw [hrd]
      generalize l.getD i 0 = c at hc
      have hw : wrap64 ((i : Int) + 1) = ((i + 1 : Nat) : Int) := by rw [w64 (by omega) (by omega)]; omega
      have hs (hn : ¬ ((i = 9 ∧ 1 < c) ∨ (0 < i ∧ c = 0))) : szS i (c :: l.drop (i + 1)) = if c < 128 then i + 1 else if i = 9 then 0 else szS (i + 1) (l.drop (i + 1)) := by rw [szS, if_neg hn]
      have hz (hn : (i = 9 ∧ 1 < c) ∨ (0 < i ∧ c = 0)) : szS i (c :: l.drop (i + 1)) = 0 := by rw [szS, if_pos hn]
      by_cases h9 : i = 9
      · have h9' : (i : Int) = 9 := by omega
        rw [if_pos h9']
        by_cases hc1 : 1 < c
        · rw [decide_eq_true (by omega : c > 1), vint_size.j1, if_pos rfl, vint_size.j2, if_pos rfl, hz (by omega)]
          rfl
        · rw [decide_eq_false (by omega : ¬ c > 1), vint_size.j1, if_neg (by decide), if_pos (by omega)]
          by_cases hc0 : c = 0
          · rw [hz (by omega), hc0, beq_self_eq_true, vint_size.j2, if_pos rfl]; rfl
          · rw [hs (by omega), beq_eq_false_iff_ne.mpr hc0, vint_size.j2, if_neg (by decide), if_pos (by omega : c < 128), if_pos (by omega : c < 128), hw]
      · have h9' : ¬ (i : Int) = 9 := by omega
        rw [if_neg h9', vint_size.j1, if_neg (by decide)]
        by_cases hi0 : i = 0
        · rw [if_neg (by omega), vint_size.j2, if_neg (by decide), hs (by omega)]
          by_cases hc8 : c < 128
          · rw [if_pos hc8, if_pos hc8, hw]
          · rw [if_neg hc8, if_neg hc8, if_neg h9', if_neg h9, hw, ih k (i + 1) (by omega) (by omega) (by omega)]
        · rw [if_pos (by omega)]
          by_cases hc0 : c = 0
          · rw [hz (by omega), hc0, beq_self_eq_true, vint_size.j2, if_pos rfl]; rfl
          · rw [hs (by omega), beq_eq_false_iff_ne.mpr hc0, vint_size.j2, if_neg (by decide)]
            by_cases hc8 : c < 128
            · rw [if_pos hc8, if_pos hc8, hw]
            · rw [if_neg hc8, if_neg hc8, if_neg h9', if_neg h9, hw, ih k (i + 1) (by omega) (by omega) (by omega)]
    · rw [if_neg (by omega), List.drop_eq_nil_of_le (by omega)]; rfl
theorem size_is (l : List Int) (h : Fit l) : vint_size.f 40 l = some ((szS 0 l : Nat) : Int) := by
  unfold vint_size.f
  have := size_loop l h.1 h.2 10 40 0 (by omega) (by omega) (by omega)
  rw [List.drop_zero] at this
  exact this
theorem low_seven (c : Int) (h0 : 0 ≤ c) (h1 : c < 256) : Go.bits .andNot .u8 c 128 = ((c.toNat % 128 : Nat) : Int) := by
  rw [u8_andNot _ _ h0 h1 (by omega) (by omega), show 255 - (128 : Int).toNat = 2 ^ 7 - 1 by decide, Nat.and_two_pow_sub_one_eq_mod]
theorem or_step {l : List Int} (hb : IsBytes l) {j : Nat} (hj : j < szS 0 l) :
    Go.bits .or .u64 ((valS 0 (l.take j) : Nat) : Int) (IntKind.u64.wrap (IntKind.u64.wrap (Go.bits .andNot .u8 (l[j]?.getD 0) 128) * 2 ^ (7 * j))) = ((valS 0 (l.take (j + 1)) : Nat) : Int) := by
  have hle := szS_le l 0 (by decide)
  have hc := hb.get j
  have hp := part_lt hb hj
  have hv := val_lt hb (Nat.le_of_lt hj)
  have hlt := valS_lt (l.take j) 0
  rw [List.length_take, Nat.min_eq_left (by omega), Nat.zero_add] at hlt
  rw [valS_take (by omega)]
  rw [show l[j]?.getD 0 = l.getD j 0 from rfl, low_seven _ hc.1 hc.2]
  generalize (l.getD j 0).toNat % 128 = m at hp ⊢
  generalize valS 0 (l.take j) = v at hv hlt ⊢
  have hm : m < 18446744073709551616 := Nat.lt_of_le_of_lt (Nat.le_mul_of_pos_right _ (Nat.two_pow_pos _)) hp
  have hw1 : IntKind.u64.wrap (m : Int) = m := by rw [IntKind.wrap_u64, Int.emod_eq_of_lt (by omega) (by omega)]
  have hcast : (m : Int) * 2 ^ (7 * j) = ((m * 2 ^ (7 * j) : Nat) : Int) := by simp
  rw [hw1, hcast, IntKind.wrap_u64]
  have hor := Nat.two_pow_add_eq_or_of_lt hlt m
  rw [Nat.mul_comm] at hor
  generalize m * 2 ^ (7 * j) = x at hp hor ⊢
  rw [Int.emod_eq_of_lt (by omega) (by omega), u64_or _ _ (by omega) (by omega) (by omega) (by omega), Int.toNat_natCast, Int.toNat_natCast, Nat.or_comm, ← hor, Nat.add_comm]
set_option maxHeartbeats 8000000 in
set_option maxRecDepth 100000 in
theorem vint_Source_Num.calls (g : Nat) (s0_0 : List Int) (s0_1 : Bool) (r1 : Int) (r2 : List Int) (r3 : Bool) (w0 w : World) (hI : IsS75 w0 w g s0_0 s0_1) (hB : Below w0.heap.size w0 w) (h : vint_Source_Num.f s0_0 s0_1 = some (r1, r2, r3)) :
    Calls Try.prog 83 #[.pointer (some ⟨g, 0, none⟩)] w fun e w' => e = .returned (.int .u64 r1) ∧ IsS75 w0 w' g r2 r3 ∧ Below w0.heap.size w0 w' ∧ KeepBut w w' g none := by
  unfold vint_Source_Num.f at h
  by_cases hf : Fit s0_0
  case neg => rw [if_neg hf] at h; cases h
  rw [if_pos hf] at h
  have h := Option.some.inj h
  unfold numS at h
  have hu := Try.underlying75
  cases s0_1 with
  | true =>
    rw [if_pos rfl] at h
    simp only [Prod.mk.injEq] at h
    obtain ⟨rfl, rfl, rfl⟩ := h
    go_enter Try.func83, Try.ntmps83
    go_wp2_with fail
    refine (vint_Source_Ok.calls g s0_0 true false s0_0 true w0 _ hI hB rfl).mono ?_
    rintro e w1 ⟨rfl, hI1, hB1, hK1⟩
    go_wp2_with fail
    go_ret
    exact ⟨rfl, hI1, hB1, hK1⟩
  | false =>
    rw [if_neg (by decide)] at h
    have hle := szS_le s0_0 0 (by decide)
    have hsz := size_is s0_0 hf
    have hstep := fun j => or_step hf.1 (j := j)
    have hfin := val_lt hf.1 (Nat.le_refl (szS 0 s0_0))
    generalize szS 0 s0_0 = k at h hle hsz hstep hfin
    have HSTEP := Lib.hid hstep
    clear hstep
    have hlen := hf.2
    go_enter Try.func83, Try.ntmps83
    go_wp2_with fail
    refine (vint_Source_Ok.calls g s0_0 false true s0_0 false w0 _ hI hB rfl).mono ?_
    rintro e w1 ⟨rfl, hI1, hB1, hK1⟩
    have HI1 := Aside0.mk hI1
    have HH := Aside0.mk h
    clear hI h
    obtain ⟨A1, c1, hb1, hg1, hr1, hc1⟩ := hI1
    have h0 : w1.cell? ⟨g, 0, none⟩ = some (.slice A1 s0_0.length c1) := (blk_cell hb1 0).trans rfl
    have HB1 := Aside0.mk hb1
    clear hb1
    go_wp2_with fail
    refine (vint_size.calls 40 A1 c1 s0_0 (k : Int) _ (Kd.C_below hr1 hB1) hc1 hsz).mono ?_
    rintro e w2 ⟨rfl, ⟨nd, rfl⟩⟩
    by_cases hk0 : k = 0
    · subst hk0
      go_wp2_with fail
      refine (vint_Source_Fail.calls g s0_0 false [] true w0 _ (IsS75.drewN HI1.out nd) (pw_below_drewN hB1 nd) rfl).mono ?_
      rintro e w2 ⟨rfl, hI2, hB2, hK2⟩
      have h := HH.out
      simp only [if_true, Prod.mk.injEq] at h
      obtain ⟨rfl, rfl, rfl⟩ := h
      go_wp2_with fail
      go_ret
      exact ⟨rfl, hI2, hB2, (keep_drewN hK1 nd).trans hK2 (.inl rfl)⟩
    · have hkb : ((k : Int) == 0) = false := by rw [beq_eq_false_iff_ne]; omega
      have hrw := Kd.C_below hr1 hB1
      obtain ⟨ad, rfl, _⟩ := Kd.at_int hrw 0 (by omega) (by omega)
      have hcells : ∀ j : Nat, j < s0_0.length → w1.cell? (ad.add j) = some (.int .u8 (s0_0.getD j 0)) := fun j hj => by
        obtain ⟨ad', he, hcell⟩ := Kd.at_int hrw (j : Int) (by omega) (by omega)
        obtain rfl := Option.some.inj he
        exact hcell
      go_wp2_with fail
      go_loop [4, 26] (fun n i => ∃ j : Nat, j ≤ k ∧ i = .int .i64 (j : Int) ∧ n = .int .u64 ((valS 0 (s0_0.take j) : Nat) : Int)) (fun _ i => k - (intOf i).toNat)
      case atStart => exact ⟨0, Nat.zero_le _, rfl, rfl⟩
      case round =>
        obtain ⟨j, hjk, rfl, rfl⟩ := hrel
        by_cases hlt : j < k
        · have hcell := hcells j (by omega)
          have hcb := hf.1.get j
          clear hcells
          go_wp2_with fail
          go_round
          case rel => exact ⟨j + 1, by omega, by go_num, by rw [HSTEP.out j hlt]⟩
          case measure => simp [intOf]; omega
        · have hjk2 : j = k := by omega
          have hlt' : decide (j < k) = false := decide_eq_false hlt
          subst hjk2
          clear hcells
          have f0 := blk_frozen HB1.out 0
          have HD := Lib.hid (Kd.C_drop (m := j) hr1 (by omega) hc1)
          have HL := Lib.hid (show (s0_0.drop j).length = s0_0.length - j from List.length_drop)
          have h := HH.out
          rw [if_neg hk0] at h
          simp only [Prod.mk.injEq] at h
          obtain ⟨rfl, rfl, rfl⟩ := h
          clear hrw hr1 HH
          by_cases hcj : c1 = j
          · subst hcj
            go_wp2_with fail
            go_ret
            have hl0 : s0_0.length - c1 = 0 := by omega
            refine ⟨rfl, ⟨some ad, 0, ?_, hg1, ?_, ?_⟩, below_set (pw_below_drewN hB1 nd) hg1, KeepBut.set_ (keep_drewN hK1 nd) 0 _⟩
            · have h2 := blk_set (blk_drewN HB1.out nd) 0 (.slice (some ad) 0 0)
              have e : (s0_0.drop c1).length = 0 := by rw [HL.out]; exact hl0
              rw [e]
              simpa [hl0] using h2
            · have := HD.out
              simp only [if_true] at this
              exact this
            · rw [HL.out]; omega
          · go_wp2_with fail
            go_ret
            refine ⟨rfl, ⟨some (ad.add j), c1 - j, ?_, hg1, ?_, ?_⟩, below_set (pw_below_drewN hB1 nd) hg1, KeepBut.set_ (keep_drewN hK1 nd) 0 _⟩
            · have h2 := blk_set (blk_drewN HB1.out nd) 0 (.slice (some (ad.add j)) (s0_0.length - j) (c1 - j))
              rw [← HL.out] at h2
              simpa using h2
            · have := HD.out
              rw [if_neg hcj] at this
              have e : (Kd.int .u8).sz = 1 := rfl
              rw [e, Nat.mul_one] at this
              exact this
            · rw [HL.out]; omega
end Go.Proofs.Ytbbffnlefmogbaa.X
-- Printed for this claim by a program of this session (wip/xprint.py) over the kit's printer; Lean checks it.
namespace Go.Proofs.Ytbbffnlefmogbaa.X
open Go.RowKit Go.Proofs.YtbbffnlefmogbaaW.PrintWords Go.Proofs.YtbbffnlefmogbaaW.PrintLast Go.Proofs.YtbbffnlefmogbaaW.PrintMore
attribute [local go_sem] max2_int min2_int max_two min_two max_three min_three max_four min_four   -- for this text's walks alone
set_option linter.unusedVariables false
set_option linter.unusedSimpArgs false

/-! ### vint_Source_Int: function 77 -/
def vint_Source_Int.f (s0_0 : List Int) (s0_1 : Bool) : Option (Int × List Int × Bool) := (vint_Source_Num.f s0_0 s0_1).bind fun bt168 => (some (Go.bits .xor .i64 (wrap64 (bt168.1 / 2)) (wrap64 (-(wrap64 (Go.bits .and .u64 bt168.1 1)))), bt168.2.1, bt168.2.2))
set_option maxHeartbeats 8000000 in
set_option maxRecDepth 100000 in
theorem vint_Source_Int.calls (g : Nat) (s0_0 : List Int) (s0_1 : Bool) (r1 : Int) (r2 : List Int) (r3 : Bool) (w0 w : World) (hI : IsS75 w0 w g s0_0 s0_1) (hB : Below w0.heap.size w0 w) (h : vint_Source_Int.f s0_0 s0_1 = some (r1, r2, r3)) :
    Calls Try.prog 77 #[.pointer (some ⟨g, 0, none⟩)] w fun e w' => e = .returned (.int .i64 r1) ∧ IsS75 w0 w' g r2 r3 ∧ Below w0.heap.size w0 w' ∧ KeepBut w w' g none := by
  have HI0 := Aside0.mk hI
  have HK := Aside0.mk (KeepBut.refl w g none)
  have HL := Aside0.mk hB.size
  clear hI
  have HW0 := Aside0.mk hB.size
  have HB := Aside0.mk hB
  clear hB
  have H : ((vint_Source_Num.f s0_0 s0_1).bind fun bt168 => (some (Go.bits .xor .i64 (wrap64 (bt168.1 / 2)) (wrap64 (-(wrap64 (Go.bits .and .u64 bt168.1 1)))), bt168.2.1, bt168.2.2))) = some (r1, r2, r3) := h
  clear h
  replace H := Option.bind_eq_some_iff.mp H
  obtain ⟨⟨t168, t169, t170⟩, A20, H⟩ := H
  replace H : (some (Go.bits .xor .i64 (wrap64 (t168 / 2)) (wrap64 (-(wrap64 (Go.bits .and .u64 t168 1)))), t169, t170)) = some (r1, r2, r3) := H
  have A2 := Aside0.mk A20
  clear A20
  simp only [Option.some.injEq, Prod.mk.injEq] at H
  obtain ⟨rfl, rfl, rfl⟩ := H
  go_enter Try.func77, Try.ntmps77
  go_wp2_with (first | ((with_reducible refine gate_callee (f := 83) rfl ?_); refine goesL_ (some 5) rfl rfl Try.func83 (by kernel_rfl) rfl #[.pointer (some ⟨g, 0, none⟩)] rfl (by (try simp only [List.map_toArray, List.map_cons, List.map_nil]); first | done | rfl | (simp only [List.length_drop, List.length_take]; rfl)) ?_; (with_reducible refine (vint_Source_Num.calls g s0_0 s0_1 t168 t169 t170 w0 _ ?side1 ?side2 A2.out).mono ?_); (case side1 => repeat (first | (with_reducible first | exact HI0.out | apply IsS75.alloc | apply IsS75.drewN | apply IsS75.drew | apply IsS75.set_0 | apply IsS75.set_1) | exact HI0.out)); (case side2 => repeat (first | (with_reducible first | exact HB.out | apply below_alloc | apply pw_below_drewN | apply below_drew1 | refine below_set ?_ (IsS75.ge HI0.out)) | exact HB.out)); rintro e w3 ⟨rfl, hi, hb, hk⟩; refine ⟨_, rfl, ?_⟩; have n0_ := Aside0.mk (KeepBut.trans (by repeat (first | (with_reducible first | exact HK.out | apply KeepBut.set_ | apply keep_drewN | apply keep_drew | apply keep_alloc) | exact HK.out)) hk (.inl rfl)); have n1_ := Aside0.mk (hb); have n2_ := Aside0.mk (hi); clear HK; clear HB; clear HI0; have HK := n0_; have HB := n1_; have HI0 := n2_; clear n0_ n1_ n2_; (try clear hb); (try clear hb2); (try clear hk); (try clear hi)))
  go_ret
  exact ⟨by first | rfl | (simp [errW_none, errW_some] <;> rfl) | (simp [*, errW_none, errW_some] <;> rfl), by repeat (first | (with_reducible first | exact HI0.out | apply IsS75.alloc | apply IsS75.drewN | apply IsS75.drew | apply IsS75.set_0 | apply IsS75.set_1) | exact HI0.out), by repeat (first | (with_reducible first | exact HB.out | apply below_alloc | apply pw_below_drewN | apply below_drew1 | refine below_set ?_ (IsS75.ge HI0.out)) | exact HB.out), by repeat (first | (with_reducible first | exact HK.out | apply KeepBut.set_ | apply keep_drewN | apply keep_drew | apply keep_alloc) | exact HK.out)⟩

end Go.Proofs.Ytbbffnlefmogbaa.X
-- Printed for this claim by a program of this session (wip/xprint.py) over the kit's printer; Lean checks it.
namespace Go.Proofs.Ytbbffnlefmogbaa.X
open Go.RowKit Go.Proofs.YtbbffnlefmogbaaW.PrintWords Go.Proofs.YtbbffnlefmogbaaW.PrintLast Go.Proofs.YtbbffnlefmogbaaW.PrintMore
attribute [local go_sem] max2_int min2_int max_two min_two max_three min_three max_four min_four   -- for this text's walks alone
set_option linter.unusedVariables false
set_option linter.unusedSimpArgs false

/-! ### vint_Source_Left: function 24 -/
def vint_Source_Left.f (s0_0 : List Int) (s0_1 : Bool) : Option (Int × List Int × Bool) := (vint_Source_Ok.f s0_0 s0_1).bind fun bt165 => (if bt165.1 = true then (some ((bt165.2.1.length : Int), bt165.2.1, bt165.2.2)) else (some (0, bt165.2.1, bt165.2.2)))
set_option maxHeartbeats 8000000 in
set_option maxRecDepth 100000 in
theorem vint_Source_Left.calls (g : Nat) (s0_0 : List Int) (s0_1 : Bool) (r1 : Int) (r2 : List Int) (r3 : Bool) (w0 w : World) (hI : IsS75 w0 w g s0_0 s0_1) (hB : Below w0.heap.size w0 w) (h : vint_Source_Left.f s0_0 s0_1 = some (r1, r2, r3)) :
    Calls Try.prog 24 #[.pointer (some ⟨g, 0, none⟩)] w fun e w' => e = .returned (.int .i64 r1) ∧ IsS75 w0 w' g r2 r3 ∧ Below w0.heap.size w0 w' ∧ KeepBut w w' g none := by
  have HI0 := Aside0.mk hI
  have HK := Aside0.mk (KeepBut.refl w g none)
  have HL := Aside0.mk hB.size
  clear hI
  have HW0 := Aside0.mk hB.size
  have HB := Aside0.mk hB
  clear hB
  have H : ((vint_Source_Ok.f s0_0 s0_1).bind fun bt165 => (if bt165.1 = true then (some ((bt165.2.1.length : Int), bt165.2.1, bt165.2.2)) else (some (0, bt165.2.1, bt165.2.2)))) = some (r1, r2, r3) := h
  clear h
  replace H := Option.bind_eq_some_iff.mp H
  obtain ⟨⟨t165, t166, t167⟩, A20, H⟩ := H
  replace H : (if t165 = true then (some ((t166.length : Int), t166, t167)) else (some (0, t166, t167))) = some (r1, r2, r3) := H
  have A2 := Aside0.mk A20
  clear A20
  by_cases c3 : t165 = true
  · subst c3
    have H1 : (some ((t166.length : Int), t166, t167)) = some (r1, r2, r3) := by rw [if_pos rfl] at H; exact H
    clear H
    have H := H1
    clear H1
    simp only [Option.some.injEq, Prod.mk.injEq] at H
    obtain ⟨rfl, rfl, rfl⟩ := H
    go_enter Try.func24, Try.ntmps24
    go_wp2_with (first | ((with_reducible refine gate_callee (f := 23) rfl ?_); refine goesL_ (some 4) rfl rfl Try.func23 (by kernel_rfl) rfl #[.pointer (some ⟨g, 0, none⟩)] rfl (by (try simp only [List.map_toArray, List.map_cons, List.map_nil]); first | done | rfl | (simp only [List.length_drop, List.length_take]; rfl)) ?_; (with_reducible refine (vint_Source_Ok.calls g s0_0 s0_1 true t166 t167 w0 _ ?side1 ?side2 A2.out).mono ?_); (case side1 => repeat (first | (with_reducible first | exact HI0.out | apply IsS75.alloc | apply IsS75.drewN | apply IsS75.drew | apply IsS75.set_0 | apply IsS75.set_1) | exact HI0.out)); (case side2 => repeat (first | (with_reducible first | exact HB.out | apply below_alloc | apply pw_below_drewN | apply below_drew1 | refine below_set ?_ (IsS75.ge HI0.out)) | exact HB.out)); rintro e w4 ⟨rfl, hi, hb, hk⟩; refine ⟨_, rfl, ?_⟩; have n0_ := Aside0.mk (KeepBut.trans (by repeat (first | (with_reducible first | exact HK.out | apply KeepBut.set_ | apply keep_drewN | apply keep_drew | apply keep_alloc) | exact HK.out)) hk (.inl rfl)); have n1_ := Aside0.mk (hb); have n2_ := Aside0.mk (hi); clear HK; clear HB; clear HI0; have HK := n0_; have HB := n1_; have HI0 := n2_; clear n0_ n1_ n2_; (try clear hb); (try clear hb2); (try clear hk); (try clear hi); obtain ⟨ASz5_0, cSz5_0, HGz5, hgz5, ⟨HSz5_0, _⟩⟩ := HI0.out; have hcz5_0 := cellS75_0 HGz5; have hcz5_1 := cellS75_1 HGz5; have hfz5_0 := blk_frozen HGz5 0; have hfz5_1 := blk_frozen HGz5 1; clear HGz5 hgz5))
    go_ret
    exact ⟨by first | rfl | (simp [errW_none, errW_some] <;> rfl) | (simp [*, errW_none, errW_some] <;> rfl), by repeat (first | (with_reducible first | exact HI0.out | apply IsS75.alloc | apply IsS75.drewN | apply IsS75.drew | apply IsS75.set_0 | apply IsS75.set_1) | exact HI0.out), by repeat (first | (with_reducible first | exact HB.out | apply below_alloc | apply pw_below_drewN | apply below_drew1 | refine below_set ?_ (IsS75.ge HI0.out)) | exact HB.out), by repeat (first | (with_reducible first | exact HK.out | apply KeepBut.set_ | apply keep_drewN | apply keep_drew | apply keep_alloc) | exact HK.out)⟩
  · replace c3 := Bool.eq_false_iff.mpr c3
    subst c3
    have H1 : (some (0, t166, t167)) = some (r1, r2, r3) := by rw [if_neg (show ¬ (false = true) by decide)] at H; exact H
    clear H
    have H := H1
    clear H1
    simp only [Option.some.injEq, Prod.mk.injEq] at H
    obtain ⟨rfl, rfl, rfl⟩ := H
    go_enter Try.func24, Try.ntmps24
    go_wp2_with (first | ((with_reducible refine gate_callee (f := 23) rfl ?_); refine goesL_ (some 4) rfl rfl Try.func23 (by kernel_rfl) rfl #[.pointer (some ⟨g, 0, none⟩)] rfl (by (try simp only [List.map_toArray, List.map_cons, List.map_nil]); first | done | rfl | (simp only [List.length_drop, List.length_take]; rfl)) ?_; (with_reducible refine (vint_Source_Ok.calls g s0_0 s0_1 false t166 t167 w0 _ ?side1 ?side2 A2.out).mono ?_); (case side1 => repeat (first | (with_reducible first | exact HI0.out | apply IsS75.alloc | apply IsS75.drewN | apply IsS75.drew | apply IsS75.set_0 | apply IsS75.set_1) | exact HI0.out)); (case side2 => repeat (first | (with_reducible first | exact HB.out | apply below_alloc | apply pw_below_drewN | apply below_drew1 | refine below_set ?_ (IsS75.ge HI0.out)) | exact HB.out)); rintro e w6 ⟨rfl, hi, hb, hk⟩; refine ⟨_, rfl, ?_⟩; have n0_ := Aside0.mk (KeepBut.trans (by repeat (first | (with_reducible first | exact HK.out | apply KeepBut.set_ | apply keep_drewN | apply keep_drew | apply keep_alloc) | exact HK.out)) hk (.inl rfl)); have n1_ := Aside0.mk (hb); have n2_ := Aside0.mk (hi); clear HK; clear HB; clear HI0; have HK := n0_; have HB := n1_; have HI0 := n2_; clear n0_ n1_ n2_; (try clear hb); (try clear hb2); (try clear hk); (try clear hi)))
    go_ret
    exact ⟨by first | rfl | (simp [errW_none, errW_some] <;> rfl) | (simp [*, errW_none, errW_some] <;> rfl), by repeat (first | (with_reducible first | exact HI0.out | apply IsS75.alloc | apply IsS75.drewN | apply IsS75.drew | apply IsS75.set_0 | apply IsS75.set_1) | exact HI0.out), by repeat (first | (with_reducible first | exact HB.out | apply below_alloc | apply pw_below_drewN | apply below_drew1 | refine below_set ?_ (IsS75.ge HI0.out)) | exact HB.out), by repeat (first | (with_reducible first | exact HK.out | apply KeepBut.set_ | apply keep_drewN | apply keep_drew | apply keep_alloc) | exact HK.out)⟩

end Go.Proofs.Ytbbffnlefmogbaa.X
/- The contract of tight.open: a row of bytes as a packed row of so many numbers; or it is none. -/
namespace Go.Proofs.Ytbbffnlefmogbaa.X
open Go.RowKit Go.Proofs.YtbbffnlefmogbaaW.PrintWords Go.Proofs.YtbbffnlefmogbaaW.PrintLast Go.Proofs.YtbbffnlefmogbaaW.PrintMore
set_option linter.unusedVariables false
set_option linter.unusedSimpArgs false
/-- May so many bytes be so many numbers, so wide? -/
def fits (n y m : Nat) : Bool := if y = 0 then m == 0 else decide (n ≤ 8 * m / y) && decide (8 * m / y - n < 8) && ((n * y + 7) / 8 == m)
/-- What is opened: the least number, how wide, the bytes, whether they are so many numbers. -/
def tight_open.f (l : List Int) (n : Nat) : Option (Option (Int × Int × List Int × Bool)) :=
  if l.length < 1000000000 ∧ 1 ≤ n ∧ n ≤ 4096 then (vint_Source_Int.f l false).bind fun a => (vint_Source_Take.f a.2.1 a.2.2 1).bind fun t =>
    if t.2.2 = true then some none else if rd t.1 0 > 64 then some none else if 0 ≤ rd t.1 0 then (vint_Source_Left.f t.2.1 false).bind fun q => (vint_Source_Take.f q.2.1 q.2.2 q.1).bind fun u => if u.1.length < 1000000000 then some (some (a.1, rd t.1 0, u.1, fits n (rd t.1 0).toNat u.1.length)) else none else none
  else none
/-- What stands behind the call. -/
def Opened (w : World) (r : Option (Int × Int × List Int × Bool)) (e : Ending) (w' : World) : Prop :=
  Below w.heap.size w w' ∧ match r with
      | none => e = .returned (.tuple #[.pointer none, .bool false])
      | some (lo, y, b, t) => ∃ g A c, e = .returned (.tuple #[.pointer (some ⟨g, 0, none⟩), .bool t]) ∧ w'.heap[g]? = some (.cells #[.slice A b.length c, .int .i64 0, .int .i64 lo, .int .i64 y] 60 (0, 0)) ∧ w.heap.size ≤ g ∧ b.length ≤ c ∧ Kd.C (Kd.int .u8) w' A b.length b ∧ (∀ ad, A = some ad → 0 < b.length → ad.block ≠ g)
set_option maxHeartbeats 8000000 in
set_option maxRecDepth 1000000 in
theorem tight_open.calls (A0 : Option Addr) (c0 : Nat) (l0 : List Int) (n : Nat) (r : Option (Int × Int × List Int × Bool)) (w : World) (hr0 : Kd.C (Kd.int .u8) w A0 l0.length l0) (hc0 : l0.length ≤ c0) (h : tight_open.f l0 n = some r) :
    Calls Try.prog 47 #[.slice A0 l0.length c0, .int .i64 (n : Int)] w (Opened w r) := by
  unfold tight_open.f at h
  by_cases hf : l0.length < 1000000000 ∧ 1 ≤ n ∧ n ≤ 4096
  case neg => rw [if_neg hf] at h; cases h
  rw [if_pos hf] at h
  obtain ⟨⟨lo, l1, b1⟩, e1, h⟩ := Option.bind_eq_some_iff.mp h
  obtain ⟨⟨t1, l2, b2⟩, e2, h⟩ := Option.bind_eq_some_iff.mp h
  simp only at h e1 e2
  have E1 := Aside0.mk e1
  have E2 := Aside0.mk e2
  have HH := Aside0.mk h
  have HF := Aside0.mk hf
  have HR0 := Aside0.mk hr0
  clear e1 e2 h hf hr0
  have hu := Try.underlying60
  have hu2 := Try.underlying58
  go_enter Try.func47, Try.ntmps47
  go_wp2_with fail
  refine (vint_From.calls2 A0 c0 l0 w w (Below.refl _ _) HR0.out hc0).mono ?_
  rintro e w2 ⟨g, rfl, s2, B2, _, hg2⟩
  go_wp2_with fail
  refine (vint_Source_Int.calls g l0 false lo l1 b1 w _ s2 B2 E1.out).mono ?_
  rintro e w3 ⟨rfl, s3, B3, K3⟩
  clear s2 B2 K3
  go_wp2_with fail
  refine (vint_Source_Take.calls g l1 b1 1 t1 l2 b2 w _ s3 B3 E2.out).mono ?_
  rintro e w4 ⟨v4, rfl, R4, s4, B4, K4⟩
  have HB4 := Aside0.mk B4
  have HS4 := Aside0.mk s4
  have HR4 := Aside0.mk (Kd.R_bound R4)
  have HG2 := Aside0.mk (IsS75.lt s3)
  clear s3 B3 K4 R4 B4 s4
  obtain ⟨A4, c4, e4⟩ := Kd.R_slice HR4.out
  subst e4
  go_wp2_with fail
  refine (vint_Source_Ok.same g l2 b2 w _ HS4.out).mono ?_
  rintro e w5 ⟨rfl, rfl⟩
  cases b2 with
  | true =>
    have h := HH.out
    rw [if_pos rfl] at h
    obtain rfl := Option.some.inj h
    clear h
    go_wp2_with fail
    go_ret2
    exact ⟨HB4.out, rfl⟩
  | false =>
    have h := HH.out
    rw [if_neg (show ¬ (false = true) by decide)] at h
    have HL1 : Aside0 (t1.length = 1) := ⟨by
      have h9 := E2.out
      unfold vint_Source_Take.f at h9
      split at h9
      · have h8 := Option.some.inj h9
        unfold takeS at h8
        split at h8
        · simp at h8
        · rename_i h7
          simp only [Prod.mk.injEq] at h8
          rw [← h8.1, List.length_take]
          have h6 : ¬ ((l1.length : Int) < 1) := fun h5 => h7 (Or.inr (Or.inr h5))
          show min (1 : Int).toNat l1.length = 1
          rw [show (1 : Int).toNat = 1 from rfl]
          omega
      · cases h9⟩
    have hl1 := HL1.out
    have hp0 : (0 : Int) < (t1.length : Int) := by omega
    obtain ⟨gb, cp, ev, hgb1, hgb2, cells, hcl⟩ := Kd.R_form HR4.out (by omega)
    injection ev with ev1 _ ev3
    subst ev1 ev3
    obtain ⟨ad, ea, hy0⟩ := Kd.at_int (Kd.R_reads' HR4.out).2.2 (0 : Int) (by omega) hp0
    injection ea with ea
    subst ea
    have eadd : (⟨gb, 0, none⟩ : Addr).add (0 : Int).toNat = ⟨gb, 0, none⟩ := by unfold Addr.add; split <;> simp_all
    rw [eadd] at hy0
    clear hcl hgb1 hgb2 eadd
    obtain ⟨y, hy⟩ : ∃ y, rd t1 0 = y := ⟨_, rfl⟩
    rw [hy] at hy0 h
    have hp1 : 0 < t1.length := by omega
    by_cases h64 : y > 64
    · rw [if_pos h64] at h
      obtain rfl := Option.some.inj h
      have d1 : decide (y > 64) = true := decide_eq_true h64
      have d1b : decide (64 < y) = true := decide_eq_true h64
      clear h hl1 h64
      go_wp2_with fail
      go_ret2
      exact ⟨HB4.out, rfl⟩
    rw [if_neg h64] at h
    by_cases hy1 : 0 ≤ y
    case neg => rw [if_neg hy1] at h; cases h
    rw [if_pos hy1] at h
    obtain ⟨⟨q, l3, b3⟩, e3, h⟩ := Option.bind_eq_some_iff.mp h
    obtain ⟨⟨u, l4, b4⟩, e4, h⟩ := Option.bind_eq_some_iff.mp h
    simp only at h e3 e4
    by_cases hul : u.length < 1000000000
    case neg => rw [if_neg hul] at h; cases h
    rw [if_pos hul] at h
    obtain rfl := Option.some.inj h
    obtain ⟨m, rfl⟩ : ∃ m : Nat, y = (m : Int) := ⟨y.toNat, by omega⟩
    have HM : Aside0 (m ≤ 64) := ⟨by omega⟩
    have HUL := Aside0.mk hul
    have E3 := Aside0.mk e3
    have E4 := Aside0.mk e4
    have d1 : decide ((m : Int) > 64) = false := decide_eq_false h64
    have d1b : decide ((64 : Int) < (m : Int)) = false := decide_eq_false h64
    have d1c : decide (64 < m) = false := decide_eq_false (by omega)
    have hwy : IntKind.i64.wrap (m : Int) = (m : Int) := by rw [IntKind.wrap_i64]; omega
    clear h hl1 h64 hy1 e3 e4 hy hul
    go_wp2_with fail
    have HS6 := Aside0.mk (IsS75.alloc HS4.out (.cells #[.slice none 0 0, .int .i64 0, .int .i64 lo, .int .i64 (m : Int)] 60))
    have HB6 := Aside0.mk (below_alloc HB4.out (.cells #[.slice none 0 0, .int .i64 0, .int .i64 lo, .int .i64 (m : Int)] 60))
    have HK6 : Aside0 ((w5.alloc (.cells #[.slice none 0 0, .int .i64 0, .int .i64 lo, .int .i64 (m : Int)] 60)).heap[w5.heap.size]? = some (.cells #[.slice none 0 0, .int .i64 0, .int .i64 lo, .int .i64 (m : Int)] 60 (0, 0))) := ⟨Mem.alloc_new _ _⟩
    have HGE : Aside0 (w.heap.size ≤ w5.heap.size ∧ g ≠ w5.heap.size) := ⟨below_size HB4.out, fun h9 => by have := IsS75.lt HS4.out; omega⟩
    obtain ⟨G, hG⟩ : ∃ G, w5.heap.size = G := ⟨_, rfl⟩
    rw [hG] at HK6 HGE ⊢
    have HGN : Aside0 (G = w5.heap.size) := ⟨hG.symm⟩
    clear HS4 HB4 HR4 hG hy0
    generalize w5.alloc (.cells #[.slice none 0 0, .int .i64 0, .int .i64 lo, .int .i64 (m : Int)] 60) = w6 at HS6 HB6 HK6 ⊢
    refine (vint_Source_Left.calls g l2 false q l3 b3 w _ HS6.out HB6.out E3.out).mono ?_
    rintro e w7 ⟨rfl, s7, B7, K7⟩
    have HK7 := Aside0.mk ((K7.2 G (blk_lt HK6.out) (Ne.symm HGE.out.2) (by simp)).trans HK6.out)
    clear HS6 HB6 HK6 K7
    go_wp2_with fail
    refine (vint_Source_Take.calls g l3 b3 q u l4 b4 w _ s7 B7 E4.out).mono ?_
    rintro e w8 ⟨v8, rfl, R8, s8, B8, K8⟩
    have HK8 := Aside0.mk ((K8.2 G (blk_lt HK7.out) (Ne.symm HGE.out.2) (by simp)).trans HK7.out)
    have HB8 := Aside0.mk B8
    have HR8 := Aside0.mk (Kd.R_mono (ok' := fun k => k ≠ G) (Kd.R_bound R8) (fun k hk => by have h9 := hk.2.1; have h8 := blk_lt HK7.out; omega))
    obtain ⟨A8, c8, e8⟩ := Kd.R_slice HR8.out
    subst e8
    have h0 : w8.cell? ⟨G, 0, none⟩ = some (.slice none 0 0) := (blk_cell HK8.out 0).trans rfl
    have h3 : w8.cell? ⟨G, 3, none⟩ = some (.int .i64 (m : Int)) := (blk_cell HK8.out 3).trans rfl
    have f0 := blk_frozen HK8.out 0
    clear s7 B7 HK7 R8 s8 B8 K8
    have HK9 : Aside0 ((w8.setCell ⟨G, 0, none⟩ (.slice A8 u.length c8)).heap[G]? = some (.cells #[.slice A8 u.length c8, .int .i64 0, .int .i64 lo, .int .i64 (m : Int)] 60 (0, 0))) := ⟨by simpa using blk_set HK8.out 0 (.slice A8 u.length c8)⟩
    have HB9 : Aside0 (Below w.heap.size w (w8.setCell ⟨G, 0, none⟩ (.slice A8 u.length c8))) := ⟨below_set HB8.out HGE.out.1⟩
    have HC9 := Aside0.mk (Kd.R_reads' (Kd.R_far (p := ⟨G, 0, none⟩) HR8.out (fun k hk => hk) (.slice A8 u.length c8))).2.2
    have HCC := Aside0.mk (Kd.R_reads' HR8.out).2.1
    have HNE : Aside0 (∀ ad, A8 = some ad → 0 < u.length → ad.block ≠ G) := ⟨fun ad ha hp => by
      have h9 := HR8.out.1 ad.block (by rw [ha]; rfl)
      exact h9⟩
    clear HR8 HB8
    have hl0 : (u.length : Int) ≤ 1000000000 := by have := HUL.out; omega
    by_cases hm : m = 0
    · subst hm
      have d2 : (((0 : Nat) : Int) == 0) = true := rfl
      go_wp2_with fail
      clear h0 h3 f0
      generalize w8.setCell ⟨G, 0, none⟩ (.slice A8 u.length c8) = w9 at HK9 HB9 HC9 ⊢
      have h0 : w9.cell? ⟨G, 0, none⟩ = some (.slice A8 u.length c8) := (blk_cell HK9.out 0).trans rfl
      go_region
      go_wp2_with fail
      go_ret2
      have h7 : ((u.length : Int) == 0) = fits n ((0 : Nat) : Int).toNat u.length := by
        show ((u.length : Int) == 0) = (u.length == 0)
        by_cases h6 : u.length = 0
        · rw [h6]; rfl
        · rw [beq_eq_false_iff_ne.mpr h6, beq_eq_false_iff_ne.mpr (show (u.length : Int) ≠ 0 by omega)]
      exact ⟨below_drew HB9.out, G, A8, c8, congrArg (fun t => Ending.returned (.tuple #[.pointer (some ⟨G, 0, none⟩), .bool t])) h7, blk_drew HK9.out, HGE.out.1, HCC.out, Kd.C_drew HC9.out, HNE.out⟩
    · have d2 : ((m : Int) == 0) = false := beq_eq_false_iff_ne.mpr (by omega)
      have hmp : (0 : Int) < (m : Int) := by omega
      have hmn : ¬ (m : Int) = 0 := by omega
      go_wp2_with fail
      clear h0 h3 f0
      generalize w8.setCell ⟨G, 0, none⟩ (.slice A8 u.length c8) = w9 at HK9 HB9 HC9 ⊢
      have h0 : w9.cell? ⟨G, 0, none⟩ = some (.slice A8 u.length c8) := (blk_cell HK9.out 0).trans rfl
      have h3 : w9.cell? ⟨G, 3, none⟩ = some (.int .i64 (m : Int)) := (blk_cell HK9.out 3).trans rfl
      obtain ⟨L8, hL8⟩ : ∃ L8 : Nat, 8 * u.length = L8 := ⟨_, rfl⟩
      have hw1 : IntKind.i64.wrap (8 * (u.length : Int)) = (L8 : Int) := by rw [IntKind.wrap_i64, ← hL8]; omega
      have hw2 : wrap64 (8 * (u.length : Int)) = (L8 : Int) := by rw [← hL8]; unfold wrap64; omega
      obtain ⟨Q, hQ⟩ : ∃ Q : Nat, L8 / m = Q := ⟨_, rfl⟩
      have hq1 : Int.tdiv (L8 : Int) (m : Int) = (Q : Int) := by rw [Int.tdiv_eq_ediv_of_nonneg (by omega), ← hQ]; rfl
      have HL8 := Aside0.mk hL8
      have HQ := Aside0.mk hQ
      clear hL8 hQ
      go_region
      go_wp2_with fail
      have HB10 := Aside0.mk (below_drew HB9.out)
      have HK10 := Aside0.mk (blk_drew HK9.out)
      have HC10 := Aside0.mk (Kd.C_drew HC9.out)
      clear HB9 HK9 HC9 h0 h3 hw1 hw2 hq1
      generalize w9.drew = w10 at HB10 HK10 HC10 ⊢
      have h0 : w10.cell? ⟨G, 0, none⟩ = some (.slice A8 u.length c8) := (blk_cell HK10.out 0).trans rfl
      have h3 : w10.cell? ⟨G, 3, none⟩ = some (.int .i64 (m : Int)) := (blk_cell HK10.out 3).trans rfl
      have hnm : n * m ≤ 300000 := Nat.le_trans (Nat.mul_le_mul HF.out.2.2 HM.out) (by decide)
      obtain ⟨NM, hNM⟩ : ∃ NM : Nat, n * m = NM := ⟨_, rfl⟩
      rw [hNM] at hnm
      have hx1 : IntKind.i64.wrap ((n : Int) * (m : Int)) = (NM : Int) := by rw [IntKind.wrap_i64, ← Int.natCast_mul, hNM]; omega
      obtain ⟨N8, hN8⟩ : ∃ N8 : Nat, NM + 8 = N8 := ⟨_, rfl⟩
      obtain ⟨N7, hN7⟩ : ∃ N7 : Nat, NM + 7 = N7 := ⟨_, rfl⟩
      obtain ⟨V, hV⟩ : ∃ V : Nat, N7 / 8 = V := ⟨_, rfl⟩
      have hx2 : IntKind.i64.wrap ((NM : Int) + 8) = (N8 : Int) := by rw [IntKind.wrap_i64]; omega
      have hx3 : IntKind.i64.wrap ((N8 : Int) - 1) = (N7 : Int) := by rw [IntKind.wrap_i64]; omega
      have hx4 : Int.tdiv (N7 : Int) 8 = (V : Int) := by rw [Int.tdiv_eq_ediv_of_nonneg (by omega), ← hV]; rfl
      have hx5 : IntKind.i64.wrap (V : Int) = (V : Int) := by rw [IntKind.wrap_i64]; omega
      have hQ2 : Q ≤ 8000000000 := by have h8 := HQ.out; have h7 := HL8.out; have h6 := HUL.out; rw [← h8]; exact Nat.le_trans (Nat.div_le_self _ _) (by omega)
      obtain ⟨ta, hta⟩ : ∃ t : Bool, decide ((n : Int) ≤ (Q : Int)) = t := ⟨_, rfl⟩
      have hta2 : decide (n ≤ Q) = ta := by rw [← hta]; by_cases h9 : n ≤ Q <;> simp [h9]
      obtain ⟨D, hD⟩ : ∃ D : Int, (Q : Int) - (n : Int) = D := ⟨_, rfl⟩
      have hd1 : IntKind.i64.wrap ((Q : Int) - (n : Int)) = D := by rw [IntKind.wrap_i64, ← hD]; have := HF.out; omega
      obtain ⟨tb, htb⟩ : ∃ t : Bool, decide (D < 8) = t := ⟨_, rfl⟩
      rw [show wrap64 (Q : Int) = (Q : Int) by unfold wrap64; omega]
      have HVV : Aside0 ((n * m + 7) / 8 = V) := ⟨by rw [hNM, hN7, hV]⟩
      have HFIT : Aside0 ((ta && tb && ((V : Int) == (u.length : Int))) = fits n (m : Int).toNat u.length) := ⟨by
        unfold fits
        rw [Int.toNat_natCast, if_neg hm, HL8.out, HQ.out, HVV.out, ← hta2]
        have h7 : ((V : Int) == (u.length : Int)) = (V == u.length) := by
          by_cases h6 : V = u.length
          · rw [h6]; simp
          · rw [beq_eq_false_iff_ne.mpr h6, beq_eq_false_iff_ne.mpr (show (V : Int) ≠ (u.length : Int) by omega)]
        rw [h7]
        by_cases h6 : n ≤ Q
        · have h5 : tb = decide (Q - n < 8) := by
            rw [← htb, ← hD]
            by_cases h4 : Q - n < 8
            · rw [decide_eq_true h4]; exact decide_eq_true (by omega)
            · rw [decide_eq_false h4]; exact decide_eq_false (by omega)
          rw [h5]
        · rw [decide_eq_false h6]; rfl⟩
      clear hNM hN8 hN7 hV hD hQ2 hnm
      cases ta with
      | true =>
        cases tb with
        | true =>
          go_quiet (fail)
          go_wp2_with fail
          go_ret2
          exact ⟨pw_below_drewN HB10.out _, G, A8, c8, congrArg (fun t => Ending.returned (.tuple #[.pointer (some ⟨G, 0, none⟩), .bool t])) HFIT.out, blk_drewN HK10.out _, HGE.out.1, HCC.out, Kd.C_drewN HC10.out _, HNE.out⟩
        | false =>
          go_quiet (fail)
          go_wp2_with fail
          go_ret2
          exact ⟨pw_below_drewN HB10.out _, G, A8, c8, congrArg (fun t => Ending.returned (.tuple #[.pointer (some ⟨G, 0, none⟩), .bool t])) HFIT.out, blk_drewN HK10.out _, HGE.out.1, HCC.out, Kd.C_drewN HC10.out _, HNE.out⟩
      | false =>
        go_quiet (fail)
        go_wp2_with fail
        go_ret2
        exact ⟨pw_below_drewN HB10.out _, G, A8, c8, congrArg (fun t => Ending.returned (.tuple #[.pointer (some ⟨G, 0, none⟩), .bool t])) HFIT.out, blk_drewN HK10.out _, HGE.out.1, HCC.out, Kd.C_drewN HC10.out _, HNE.out⟩
end Go.Proofs.Ytbbffnlefmogbaa.X
-- Printed for this claim by a program of this session (wip/xprint.py) over the kit's printer; Lean checks it.
namespace Go.Proofs.Ytbbffnlefmogbaa.X
open Go.RowKit Go.Proofs.YtbbffnlefmogbaaW.PrintWords Go.Proofs.YtbbffnlefmogbaaW.PrintLast Go.Proofs.YtbbffnlefmogbaaW.PrintMore
attribute [local go_sem] max2_int min2_int max_two min_two max_three min_three max_four min_four   -- for this text's walks alone
set_option linter.unusedVariables false
set_option linter.unusedSimpArgs false

-- NOT PRINTED: function 48 (tight_packed_next)

/-! ### bytes_Equal: function 49 -/
def bytes_Equal.f (l0 : List Int) (l1 : List Int) : Option (Bool) := some ((strOfNums l0).toList == (strOfNums l1).toList)
set_option maxHeartbeats 8000000 in
set_option maxRecDepth 100000 in
theorem bytes_Equal.calls (A0 : Option Addr) (c0 : Nat) (l0 : List Int) (A1 : Option Addr) (c1 : Nat) (l1 : List Int) (r : Bool) (w : World) (hr0 : Kd.C (Kd.int .u8) w A0 l0.length l0) (hc0 : l0.length ≤ c0) (hr1 : Kd.C (Kd.int .u8) w A1 l1.length l1) (hc1 : l1.length ≤ c1) (h : bytes_Equal.f l0 l1 = some r) :
    Calls Try.prog 49 #[.slice A0 l0.length c0, .slice A1 l1.length c1] w fun e w' => e = .returned (.bool r) ∧ Drawn0 w w' := by
  have HR0 := Aside0.mk hr0
  have HC0 := Aside0.mk hc0
  clear hr0 hc0
  have HR1 := Aside0.mk hr1
  have HC1 := Aside0.mk hc1
  clear hr1 hc1
  have H : (some ((strOfNums l0).toList == (strOfNums l1).toList)) = some r := h
  clear h
  obtain rfl := Option.some.inj H
  have hcv3 := Kd.C_string (P := Try.prog) (A := A0) (c := c0) Try.underlying24 Try.underlying5 Try.underlying9 HR0.out
  have hcv4 := Kd.C_string (P := Try.prog) (A := A1) (c := c1) Try.underlying24 Try.underlying5 Try.underlying9 HR1.out
  go_enter Try.func49, Try.ntmps49
  go_wp2
  go_ret
  exact ⟨by first | rfl | (simp; done) | (simp [*]; done), by repeat (first | exact Drawn0.refl _ | apply Drawn0.step)⟩

end Go.Proofs.Ytbbffnlefmogbaa.X
