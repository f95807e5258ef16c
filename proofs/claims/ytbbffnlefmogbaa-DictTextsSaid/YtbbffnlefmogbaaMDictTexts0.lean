/- DictTexts: for every input the call returns true, and each argument reads behind the call as it read before it. No condition. (Part 1 of 5: this session's texts, laid together by wip/merge.py.) -/
import Derived.Test.YtbbffnlefmogbaaX0
import Derived.Test.YtbbffnlefmogbaaLen64c
import Derived.Test.YtbbffnlefmogbaaMem2
import Derived.Test.YtbbffnlefmogbaaBuf
import Derived.Lib.SliceRun
import Derived.Deep.LoopGhost
import Derived.Laws.Externs
import Derived.Lib.Hide
import Derived.Lib.ConvBytes
import Derived.Deep.RegionHeld3
import Derived.StillTailTactics
import Derived.Test.YtbbffnlefmogbaaIter
import Derived.Test.YtbbffnlefmogbaaDictWords
import Derived.Maps.Own
import Derived.Maps.OwnOps
import Derived.Test.YtbbffnlefmogbaaMem
import Derived.Test.YtbbffnlefmogbaaDec
import Derived.Laws.BitsAllLaws
-- Printed for this claim by a program of this session (wip/xprint.py) over the kit's printer; Lean checks it.
namespace Go.Proofs.Ytbbffnlefmogbaa.X
open Go.RowKit Go.Proofs.YtbbffnlefmogbaaW.PrintWords Go.Proofs.YtbbffnlefmogbaaW.PrintLast Go.Proofs.YtbbffnlefmogbaaW.PrintMore
attribute [local go_sem] max2_int min2_int max_two min_two max_three min_three max_four min_four   -- for this text's walks alone
set_option linter.unusedVariables false
set_option linter.unusedSimpArgs false

/-! ### firkinref01_Same: function 13 -/
def firkinref01_Same.f (l0 : List Int) (l1 : List Int) : Option (Bool) := some ((strOfNums l0).toList == (strOfNums l1).toList)
set_option maxHeartbeats 8000000 in
set_option maxRecDepth 100000 in
theorem firkinref01_Same.calls (A0 : Option Addr) (c0 : Nat) (l0 : List Int) (A1 : Option Addr) (c1 : Nat) (l1 : List Int) (r : Bool) (w : World) (hr0 : Kd.C (Kd.int .u8) w A0 l0.length l0) (hc0 : l0.length ≤ c0) (hr1 : Kd.C (Kd.int .u8) w A1 l1.length l1) (hc1 : l1.length ≤ c1) (h : firkinref01_Same.f l0 l1 = some r) :
    Calls Try.prog 13 #[.slice A0 l0.length c0, .slice A1 l1.length c1] w fun e w' => e = .returned (.bool r) ∧ Drawn0 w w' := by
  have HR0 := Aside0.mk hr0
  have HC0 := Aside0.mk hc0
  clear hr0 hc0
  have HR1 := Aside0.mk hr1
  have HC1 := Aside0.mk hc1
  clear hr1 hc1
  have H : (some ((strOfNums l0).toList == (strOfNums l1).toList)) = some r := h
  clear h
  obtain rfl := Option.some.inj H
  have hcv3 := Kd.C_string (P := Try.prog) (A := A0) (c := c0) Try.underlying24 Try.underlying5 Try.underlying9 HR0.out
  have hcv4 := Kd.C_string (P := Try.prog) (A := A1) (c := c1) Try.underlying24 Try.underlying5 Try.underlying9 HR1.out
  go_enter Try.func13, Try.ntmps13
  go_wp2
  go_ret
  exact ⟨by first | rfl | (simp; done) | (simp [*]; done), by repeat (first | exact Drawn0.refl _ | apply Drawn0.step)⟩

/-! ### slices_Min_int64_int64: function 41 -/
def slices_Min_int64_int64.l0 : Nat → List Int → Int → Int → Option (Int)
  | 0, _, _, _ => none
  | k + 1, x0, x3, x4 => if x4 < (x0.length : Int) then (if 0 ≤ x4 then (slices_Min_int64_int64.l0 k x0 (mn x3 (rd x0 x4)) (wrap64 (x4 + 1))) else (none)) else (some x3)
def slices_Min_int64_int64.f (k : Nat) (l0 : List Int) : Option (Int) := if (l0.length : Int) < 1 then (none) else (if 0 < (l0.length : Int) then (slices_Min_int64_int64.l0 k l0 (rd l0 0) 1) else (none))
theorem slices_Min_int64_int64.mono_l : ∀ k, (∀ y0 y1 y2, LeO (slices_Min_int64_int64.l0 k y0 y1 y2) (slices_Min_int64_int64.l0 (k + 1) y0 y1 y2))
  | 0 => fun _ _ _ r h => by simp [slices_Min_int64_int64.l0] at h
  | k + 1 => by
    have ih0 := slices_Min_int64_int64.mono_l k
    · intro y0 y1 y2
      unfold slices_Min_int64_int64.l0
      repeat' first
      | (with_reducible exact ih0 _ _ _)
      | (with_reducible exact LeO.refl _)
      | (with_reducible exact LeO.none _)
      | (with_reducible refine LeO.ite ?_ ?_)
      | (with_reducible refine LeO.bind ?_ (fun _ => ?_))
      | exact ih0 _ _ _
      | exact LeO.none _
      | refine LeO.ite ?_ ?_
      | refine LeO.bind ?_ (fun _ => ?_)
theorem slices_Min_int64_int64.mono : ∀ a0 k, LeO (slices_Min_int64_int64.f k a0) (slices_Min_int64_int64.f (k + 1) a0) := by
  intro a0 k
  have ih0 := slices_Min_int64_int64.mono_l k
  unfold slices_Min_int64_int64.f
  repeat' first
      | (with_reducible exact ih0 _ _ _)
      | (with_reducible exact LeO.refl _)
      | (with_reducible exact LeO.none _)
      | (with_reducible refine LeO.ite ?_ ?_)
      | (with_reducible refine LeO.bind ?_ (fun _ => ?_))
      | exact ih0 _ _ _
      | exact LeO.none _
      | refine LeO.ite ?_ ?_
      | refine LeO.bind ?_ (fun _ => ?_)
set_option maxHeartbeats 8000000 in
set_option maxRecDepth 100000 in
theorem slices_Min_int64_int64.calls (k : Nat) (A0 : Option Addr) (c0 : Nat) (l0 : List Int) (r : Int) (w : World) (hr0 : Kd.C (Kd.int .i64) w A0 l0.length l0) (hc0 : l0.length ≤ c0) (h : slices_Min_int64_int64.f k l0 = some r) :
    Calls Try.prog 41 #[.slice A0 l0.length c0] w fun e w' => e = .returned (.int .i64 r) ∧ Below w.heap.size w w' := by
  have HR0 := Aside0.mk hr0
  have HC0 := Aside0.mk hc0
  clear hr0 hc0
  have HB := Aside0.mk (Below.refl w.heap.size w)
  have H : (if (l0.length : Int) < 1 then (none) else (if 0 < (l0.length : Int) then (slices_Min_int64_int64.l0 k l0 (rd l0 0) 1) else (none))) = some r := h
  clear h
  by_cases c2 : (l0.length : Int) < 1
  · rw [if_pos c2] at H
    exact absurd H (by simp)
  · rw [if_neg c2] at H
    have c2b0 : decide ((l0.length : Int) < 1) = false := decide_eq_false c2
    have c2b1 : decide (l0.length < 1) = false := decide_eq_false (by omega)
    clear c2
    by_cases c3 : 0 < (l0.length : Int)
    · rw [if_pos c3] at H
      have c3b0 : decide (0 < (l0.length : Int)) = true := decide_eq_true c3
      have c3b1 : decide (0 < l0.length) = true := decide_eq_true (by omega)
      clear c3
      have H' := Aside0.mk H
      clear H
      have p101 : 0 ≤ (0 : Int) := (by omega)
      have q101 : 0 < (l0.length : Int) := of_decide_eq_true (by first | (with_reducible assumption) | assumption)
      obtain ⟨ad101, e101, hx101_0⟩ := Kd.at_int HR0.out 0 p101 q101
      cases e101
      have qi101 : (0 < l0.length) = True := eq_true (by omega)
      (try rw [show ((0 : Int)).toNat = 0 from rfl] at hx101_0)
      (try rw [Addr.add_zero'] at hx101_0)
      replace p101 := eq_true p101
      replace q101 := eq_true q101
      go_enter Try.func41, Try.ntmps41
      go_wp2
      go_loopg [3, 4] k (fun kq v3 v4 w' => ∃ (x3_1 : Int) (x4_1 : Int), v3 = .int .i64 x3_1 ∧ v4 = .int .i64 x4_1 ∧ Aside0 (slices_Min_int64_int64.l0 kq l0 x3_1 x4_1 = some r) ∧ Aside0 (kq ≤ k) ∧ Aside0 (Below w.heap.size w w'))
      case atStart => exact ⟨(rd l0 0), (1), (by first | rfl | (simp; done) | (simp [*]; done)), (by first | rfl | (simp; done) | (simp [*]; done)), H', ⟨Nat.le_refl _⟩, ⟨by repeat (first | (with_reducible first | exact HB.out | apply below_alloc | apply pw_below_drewN | apply below_drew1) | exact HB.out)⟩⟩
      case round =>
        clear H'
        try clear p1
        try clear q1
        try clear hx1
        try clear qi1
        try clear c2
        try clear c2b0
        try clear c2b1
        try clear p2
        try clear c3
        try clear c3b0
        try clear c3b1
        try clear hx101_0
        try clear p101
        try clear q101
        obtain ⟨x3_1, x4_1, rfl, rfl, HA, HK1, HB⟩ := hrel
        cases gk with
        | zero => exact absurd HA.out (by simp [slices_Min_int64_int64.l0])
        | succ k1 =>
          have H := HA.out
          clear HA
          simp only [slices_Min_int64_int64.l0] at H
          by_cases c4 : x4_1 < (l0.length : Int)
          · rw [if_pos c4] at H
            have c4b0 : decide (x4_1 < (l0.length : Int)) = true := decide_eq_true c4
            clear c4
            by_cases c5 : 0 ≤ x4_1
            · rw [if_pos c5] at H
              have c5b0 : decide (0 ≤ x4_1) = true := decide_eq_true c5
              clear c5
              obtain ⟨ji6, hji6⟩ : ∃ j_ : Int, (mn x3_1 (rd l0 x4_1)) = j_ := ⟨_, rfl⟩
              replace H : (slices_Min_int64_int64.l0 k1 l0 ji6 (wrap64 (x4_1 + 1))) = some r := by first | (rw [hji6] at H; exact H) | (simp only [hji6] at H ⊢; exact H)
              have hji6_ : (if (rd l0 x4_1) < x3_1 then (rd l0 x4_1) else x3_1) = ji6 := hji6
              have H' := Aside0.mk H
              clear H
              have p102 : 0 ≤ (x4_1 : Int) := of_decide_eq_true (by first | (with_reducible assumption) | assumption)
              have q102 : x4_1 < (l0.length : Int) := of_decide_eq_true (by first | (with_reducible assumption) | assumption)
              obtain ⟨ad102, e102, hx102_0⟩ := Kd.at_int HR0.out x4_1 p102 q102
              obtain rfl : ad101 = ad102 := (by injection e102)
              replace hx102_0 := (HB.out.cell (World.block_lt_of_cell? w _ hx102_0)).trans hx102_0
              replace p102 := eq_true p102
              replace q102 := eq_true q102
              go_wp2
              go_roundg k1
              case measure => have := HK1.out; omega
              case rel => exact ⟨(ji6), (wrap64 (x4_1 + 1)), (by first | rfl | (simp; done) | (simp only [← hji6] <;> (first | rfl | simp)) | (simp [*]; done)), (by first | rfl | (simp; done) | (simp [*]; done)), H', ⟨by have := HK1.out; omega⟩, ⟨by repeat (first | (with_reducible first | exact HB.out | apply below_alloc | apply pw_below_drewN | apply below_drew1) | exact HB.out)⟩⟩
            · rw [if_neg c5] at H
              exact absurd H (by simp)
          · rw [if_neg c4] at H
            have c4b0 : decide (x4_1 < (l0.length : Int)) = false := decide_eq_false c4
            clear c4
            obtain rfl := Option.some.inj H
            go_wp2
            go_ret
            exact ⟨by first | rfl | (simp [errW_none, errW_some] <;> rfl) | (simp [*, errW_none, errW_some] <;> rfl), by repeat (first | (with_reducible first | exact HB.out | apply below_alloc | apply pw_below_drewN | apply below_drew1) | exact HB.out)⟩
    · rw [if_neg c3] at H
      exact absurd H (by simp)

/-! ### slices_Max_int64_int64: function 42 -/
def slices_Max_int64_int64.l0 : Nat → List Int → Int → Int → Option (Int)
  | 0, _, _, _ => none
  | k + 1, x0, x3, x4 => if x4 < (x0.length : Int) then (if 0 ≤ x4 then (slices_Max_int64_int64.l0 k x0 (mx x3 (rd x0 x4)) (wrap64 (x4 + 1))) else (none)) else (some x3)
def slices_Max_int64_int64.f (k : Nat) (l0 : List Int) : Option (Int) := if (l0.length : Int) < 1 then (none) else (if 0 < (l0.length : Int) then (slices_Max_int64_int64.l0 k l0 (rd l0 0) 1) else (none))
theorem slices_Max_int64_int64.mono_l : ∀ k, (∀ y0 y1 y2, LeO (slices_Max_int64_int64.l0 k y0 y1 y2) (slices_Max_int64_int64.l0 (k + 1) y0 y1 y2))
  | 0 => fun _ _ _ r h => by simp [slices_Max_int64_int64.l0] at h
  | k + 1 => by
    have ih0 := slices_Max_int64_int64.mono_l k
    · intro y0 y1 y2
      unfold slices_Max_int64_int64.l0
      repeat' first
      | (with_reducible exact ih0 _ _ _)
      | (with_reducible exact LeO.refl _)
      | (with_reducible exact LeO.none _)
      | (with_reducible refine LeO.ite ?_ ?_)
      | (with_reducible refine LeO.bind ?_ (fun _ => ?_))
      | exact ih0 _ _ _
      | exact LeO.none _
      | refine LeO.ite ?_ ?_
      | refine LeO.bind ?_ (fun _ => ?_)
theorem slices_Max_int64_int64.mono : ∀ a0 k, LeO (slices_Max_int64_int64.f k a0) (slices_Max_int64_int64.f (k + 1) a0) := by
  intro a0 k
  have ih0 := slices_Max_int64_int64.mono_l k
  unfold slices_Max_int64_int64.f
  repeat' first
      | (with_reducible exact ih0 _ _ _)
      | (with_reducible exact LeO.refl _)
      | (with_reducible exact LeO.none _)
      | (with_reducible refine LeO.ite ?_ ?_)
      | (with_reducible refine LeO.bind ?_ (fun _ => ?_))
      | exact ih0 _ _ _
      | exact LeO.none _
      | refine LeO.ite ?_ ?_
      | refine LeO.bind ?_ (fun _ => ?_)
set_option maxHeartbeats 8000000 in
set_option maxRecDepth 100000 in
theorem slices_Max_int64_int64.calls (k : Nat) (A0 : Option Addr) (c0 : Nat) (l0 : List Int) (r : Int) (w : World) (hr0 : Kd.C (Kd.int .i64) w A0 l0.length l0) (hc0 : l0.length ≤ c0) (h : slices_Max_int64_int64.f k l0 = some r) :
    Calls Try.prog 42 #[.slice A0 l0.length c0] w fun e w' => e = .returned (.int .i64 r) ∧ Below w.heap.size w w' := by
  have HR0 := Aside0.mk hr0
  have HC0 := Aside0.mk hc0
  clear hr0 hc0
  have HB := Aside0.mk (Below.refl w.heap.size w)
  have H : (if (l0.length : Int) < 1 then (none) else (if 0 < (l0.length : Int) then (slices_Max_int64_int64.l0 k l0 (rd l0 0) 1) else (none))) = some r := h
  clear h
  by_cases c2 : (l0.length : Int) < 1
  · rw [if_pos c2] at H
    exact absurd H (by simp)
  · rw [if_neg c2] at H
    have c2b0 : decide ((l0.length : Int) < 1) = false := decide_eq_false c2
    have c2b1 : decide (l0.length < 1) = false := decide_eq_false (by omega)
    clear c2
    by_cases c3 : 0 < (l0.length : Int)
    · rw [if_pos c3] at H
      have c3b0 : decide (0 < (l0.length : Int)) = true := decide_eq_true c3
      have c3b1 : decide (0 < l0.length) = true := decide_eq_true (by omega)
      clear c3
      have H' := Aside0.mk H
      clear H
      have p103 : 0 ≤ (0 : Int) := (by omega)
      have q103 : 0 < (l0.length : Int) := of_decide_eq_true (by first | (with_reducible assumption) | assumption)
      obtain ⟨ad103, e103, hx103_0⟩ := Kd.at_int HR0.out 0 p103 q103
      cases e103
      have qi103 : (0 < l0.length) = True := eq_true (by omega)
      (try rw [show ((0 : Int)).toNat = 0 from rfl] at hx103_0)
      (try rw [Addr.add_zero'] at hx103_0)
      replace p103 := eq_true p103
      replace q103 := eq_true q103
      go_enter Try.func42, Try.ntmps42
      go_wp2
      go_loopg [3, 4] k (fun kq v3 v4 w' => ∃ (x3_1 : Int) (x4_1 : Int), v3 = .int .i64 x3_1 ∧ v4 = .int .i64 x4_1 ∧ Aside0 (slices_Max_int64_int64.l0 kq l0 x3_1 x4_1 = some r) ∧ Aside0 (kq ≤ k) ∧ Aside0 (Below w.heap.size w w'))
      case atStart => exact ⟨(rd l0 0), (1), (by first | rfl | (simp; done) | (simp [*]; done)), (by first | rfl | (simp; done) | (simp [*]; done)), H', ⟨Nat.le_refl _⟩, ⟨by repeat (first | (with_reducible first | exact HB.out | apply below_alloc | apply pw_below_drewN | apply below_drew1) | exact HB.out)⟩⟩
      case round =>
        clear H'
        try clear p1
        try clear q1
        try clear hx1
        try clear qi1
        try clear c2
        try clear c2b0
        try clear c2b1
        try clear p2
        try clear c3
        try clear c3b0
        try clear c3b1
        try clear hx103_0
        try clear p103
        try clear q103
        obtain ⟨x3_1, x4_1, rfl, rfl, HA, HK1, HB⟩ := hrel
        cases gk with
        | zero => exact absurd HA.out (by simp [slices_Max_int64_int64.l0])
        | succ k1 =>
          have H := HA.out
          clear HA
          simp only [slices_Max_int64_int64.l0] at H
          by_cases c4 : x4_1 < (l0.length : Int)
          · rw [if_pos c4] at H
            have c4b0 : decide (x4_1 < (l0.length : Int)) = true := decide_eq_true c4
            clear c4
            by_cases c5 : 0 ≤ x4_1
            · rw [if_pos c5] at H
              have c5b0 : decide (0 ≤ x4_1) = true := decide_eq_true c5
              clear c5
              obtain ⟨ji6, hji6⟩ : ∃ j_ : Int, (mx x3_1 (rd l0 x4_1)) = j_ := ⟨_, rfl⟩
              replace H : (slices_Max_int64_int64.l0 k1 l0 ji6 (wrap64 (x4_1 + 1))) = some r := by first | (rw [hji6] at H; exact H) | (simp only [hji6] at H ⊢; exact H)
              have hji6_ : (if x3_1 < (rd l0 x4_1) then (rd l0 x4_1) else x3_1) = ji6 := hji6
              have H' := Aside0.mk H
              clear H
              have p104 : 0 ≤ (x4_1 : Int) := of_decide_eq_true (by first | (with_reducible assumption) | assumption)
              have q104 : x4_1 < (l0.length : Int) := of_decide_eq_true (by first | (with_reducible assumption) | assumption)
              obtain ⟨ad104, e104, hx104_0⟩ := Kd.at_int HR0.out x4_1 p104 q104
              obtain rfl : ad103 = ad104 := (by injection e104)
              replace hx104_0 := (HB.out.cell (World.block_lt_of_cell? w _ hx104_0)).trans hx104_0
              replace p104 := eq_true p104
              replace q104 := eq_true q104
              go_wp2
              go_roundg k1
              case measure => have := HK1.out; omega
              case rel => exact ⟨(ji6), (wrap64 (x4_1 + 1)), (by first | rfl | (simp; done) | (simp only [← hji6] <;> (first | rfl | simp)) | (simp [*]; done)), (by first | rfl | (simp; done) | (simp [*]; done)), H', ⟨by have := HK1.out; omega⟩, ⟨by repeat (first | (with_reducible first | exact HB.out | apply below_alloc | apply pw_below_drewN | apply below_drew1) | exact HB.out)⟩⟩
            · rw [if_neg c5] at H
              exact absurd H (by simp)
          · rw [if_neg c4] at H
            have c4b0 : decide (x4_1 < (l0.length : Int)) = false := decide_eq_false c4
            clear c4
            obtain rfl := Option.some.inj H
            go_wp2
            go_ret
            exact ⟨by first | rfl | (simp [errW_none, errW_some] <;> rfl) | (simp [*, errW_none, errW_some] <;> rfl), by repeat (first | (with_reducible first | exact HB.out | apply below_alloc | apply pw_below_drewN | apply below_drew1) | exact HB.out)⟩
    · rw [if_neg c3] at H
      exact absurd H (by simp)

end Go.Proofs.Ytbbffnlefmogbaa.X
/- The contract of math/bits.Len64 for this program, after the shelf's template, in the form that printed callers ask for. -/
namespace Go.Proofs.Ytbbffnlefmogbaa.X
open Go.RowKit Go.Proofs.YtbbffnlefmogbaaW.PrintWords Go.Proofs.YtbbffnlefmogbaaW.PrintLast Go.Proofs.YtbbffnlefmogbaaW.PrintMore
set_option linter.unusedVariables false
set_option linter.unusedSimpArgs false
def bits_Len64.f (a0 : Int) : Option Int := if 0 ≤ a0 ∧ a0 ≤ 18446744073709551615 then some ((Lib.bitLen a0.toNat : Nat) : Int) else none
theorem bits_Len64.calls (a0 : Int) (r : Int) (w : World) (h : bits_Len64.f a0 = some r) :
    Calls Try.prog 43 #[.int .u64 a0] w fun e w' => e = .returned (.int .i64 r) ∧ Drawn0 w w' := by
  unfold bits_Len64.f at h
  by_cases hb : 0 ≤ a0 ∧ a0 ≤ 18446744073709551615
  · rw [if_pos hb] at h
    obtain rfl := Option.some.inj h
    exact (Len64c.core a0 w hb.1 hb.2).mono fun e w' ⟨he, hw⟩ => ⟨he, by subst hw; exact Drawn0.refl _⟩
  · rw [if_neg hb] at h
    cases h
end Go.Proofs.Ytbbffnlefmogbaa.X
-- Printed for this claim by a program of this session (wip/xprint.py) over the kit's printer; Lean checks it.
namespace Go.Proofs.Ytbbffnlefmogbaa.X
open Go.RowKit Go.Proofs.YtbbffnlefmogbaaW.PrintWords Go.Proofs.YtbbffnlefmogbaaW.PrintLast Go.Proofs.YtbbffnlefmogbaaW.PrintMore
attribute [local go_sem] max2_int min2_int max_two min_two max_three min_three max_four min_four   -- for this text's walks alone
set_option linter.unusedVariables false
set_option linter.unusedSimpArgs false

/-! ### vint_Num: function 64 -/
def vint_Num.l0 : Nat → Int → Int → List Int → Int → Int → Option (List Int)
  | 0, _, _, _, _, _ => none
  | k + 1, x0, x3, x4, x15, x16 => if x16 < x15 then (if 0 ≤ (wrap64 (7 * x16)) then (if 0 ≤ x16 then (if x16 < (x4.length : Int) then (vint_Num.l0 k x0 x3 (x4.set (x16 : Int).toNat (Go.bits .or .u8 (Go.bits .andNot .u8 ((shr .u64 x0 (wrap64 (7 * x16))) % 256) 128) 128)) x15 (wrap64 (x16 + 1))) else (none)) else (none)) else (none)) else (if 0 ≤ (wrap64 (x3 - 1)) then (if (wrap64 (x3 - 1)) < (x4.length : Int) then (some (x4.set ((wrap64 (x3 - 1)) : Int).toNat (Go.bits .andNot .u8 (rd x4 (wrap64 (x3 - 1))) 128))) else (none)) else (none))
def vint_Num.f (k : Nat) (a0 : Int) : Option (List Int) := (bits_Len64.f a0).bind fun t105 => (if 0 ≤ (mx 1 (wrap64 (Int.tdiv (wrap64 ((wrap64 (t105 + 7)) - 1)) 7))) then (if (mx 1 (wrap64 (Int.tdiv (wrap64 ((wrap64 (t105 + 7)) - 1)) 7)) : Int).toNat ≤ 281474976710656 then ((some (List.replicate (mx 1 (wrap64 (Int.tdiv (wrap64 ((wrap64 (t105 + 7)) - 1)) 7)) : Int).toNat 0 : List Int)).bind fun y106 => (vint_Num.l0 k a0 (mx 1 (wrap64 (Int.tdiv (wrap64 ((wrap64 (t105 + 7)) - 1)) 7))) y106 (y106.length : Int) 0)) else (none)) else (none))
theorem vint_Num.mono_l : ∀ k, (∀ y0 y1 y2 y3 y4, LeO (vint_Num.l0 k y0 y1 y2 y3 y4) (vint_Num.l0 (k + 1) y0 y1 y2 y3 y4))
  | 0 => fun _ _ _ _ _ r h => by simp [vint_Num.l0] at h
  | k + 1 => by
    have ih0 := vint_Num.mono_l k
    · intro y0 y1 y2 y3 y4
      unfold vint_Num.l0
      repeat' first
      | (with_reducible exact ih0 _ _ _ _ _)
      | (with_reducible exact LeO.refl _)
      | (with_reducible exact LeO.none _)
      | (with_reducible refine LeO.ite ?_ ?_)
      | (with_reducible refine LeO.bind ?_ (fun _ => ?_))
      | exact ih0 _ _ _ _ _
      | exact LeO.none _
      | refine LeO.ite ?_ ?_
      | refine LeO.bind ?_ (fun _ => ?_)
theorem vint_Num.mono : ∀ a0 k, LeO (vint_Num.f k a0) (vint_Num.f (k + 1) a0) := by
  intro a0 k
  have ih0 := vint_Num.mono_l k
  unfold vint_Num.f
  repeat' first
      | (with_reducible exact ih0 _ _ _ _ _)
      | (with_reducible exact LeO.refl _)
      | (with_reducible exact LeO.none _)
      | (with_reducible refine LeO.ite ?_ ?_)
      | (with_reducible refine LeO.bind ?_ (fun _ => ?_))
      | exact ih0 _ _ _ _ _
      | exact LeO.none _
      | refine LeO.ite ?_ ?_
      | refine LeO.bind ?_ (fun _ => ?_)
set_option maxHeartbeats 8000000 in
set_option maxRecDepth 100000 in
theorem vint_Num.calls (k : Nat) (a0 : Int) (r : List Int) (w : World) (h : vint_Num.f k a0 = some r) :
    Calls Try.prog 64 #[.int .u64 a0] w fun e w' => ∃ v0_ : Value, e = .returned (v0_) ∧ Kd.R (Kd.int .u8) 5 w' w.heap.size (fun _ => True) v0_ r ∧ Below w.heap.size w w' := by
  have HB := Aside0.mk (Below.refl w.heap.size w)
  have H : ((bits_Len64.f a0).bind fun t105 => (if 0 ≤ (mx 1 (wrap64 (Int.tdiv (wrap64 ((wrap64 (t105 + 7)) - 1)) 7))) then (if (mx 1 (wrap64 (Int.tdiv (wrap64 ((wrap64 (t105 + 7)) - 1)) 7)) : Int).toNat ≤ 281474976710656 then ((some (List.replicate (mx 1 (wrap64 (Int.tdiv (wrap64 ((wrap64 (t105 + 7)) - 1)) 7)) : Int).toNat 0 : List Int)).bind fun y106 => (vint_Num.l0 k a0 (mx 1 (wrap64 (Int.tdiv (wrap64 ((wrap64 (t105 + 7)) - 1)) 7))) y106 (y106.length : Int) 0)) else (none)) else (none))) = some r := h
  clear h
  replace H := Option.bind_eq_some_iff.mp H
  obtain ⟨t105, A20, H⟩ := H
  replace H : (if 0 ≤ (mx 1 (wrap64 (Int.tdiv (wrap64 ((wrap64 (t105 + 7)) - 1)) 7))) then (if (mx 1 (wrap64 (Int.tdiv (wrap64 ((wrap64 (t105 + 7)) - 1)) 7)) : Int).toNat ≤ 281474976710656 then ((some (List.replicate (mx 1 (wrap64 (Int.tdiv (wrap64 ((wrap64 (t105 + 7)) - 1)) 7)) : Int).toNat 0 : List Int)).bind fun y106 => (vint_Num.l0 k a0 (mx 1 (wrap64 (Int.tdiv (wrap64 ((wrap64 (t105 + 7)) - 1)) 7))) y106 (y106.length : Int) 0)) else (none)) else (none)) = some r := H
  have A2 := Aside0.mk A20
  clear A20
  obtain ⟨ji3, hji3⟩ : ∃ j_ : Int, (mx 1 (wrap64 (Int.tdiv (wrap64 ((wrap64 (t105 + 7)) - 1)) 7))) = j_ := ⟨_, rfl⟩
  replace H : (if 0 ≤ (ji3) then (if (ji3 : Int).toNat ≤ 281474976710656 then ((some (List.replicate (ji3 : Int).toNat 0 : List Int)).bind fun y106 => (vint_Num.l0 k a0 ji3 y106 (y106.length : Int) 0)) else (none)) else (none)) = some r := by first | (rw [hji3] at H; exact H) | (simp only [hji3] at H ⊢; exact H)
  (try rw [hji3] at A2)
  (try (have hji3l : 1 ≤ ji3 := by (rw [← hji3]; unfold mx; (repeat' split) <;> omega)))
  (try (have hji3m : 0 ≤ ji3 := by omega))
  have hji3_ : (if 1 < (wrap64 (Int.tdiv (wrap64 ((wrap64 (t105 + 7)) - 1)) 7)) then (wrap64 (Int.tdiv (wrap64 ((wrap64 (t105 + 7)) - 1)) 7)) else 1) = ji3 := hji3
  by_cases c4 : 0 ≤ (ji3)
  · rw [if_pos c4] at H
    have c4b0 := eq_true c4
    have c4b1 : decide (0 ≤ (ji3)) = true := decide_eq_true c4
    clear c4
    by_cases c5 : (ji3 : Int).toNat ≤ 281474976710656
    · rw [if_pos c5] at H
      have c5b0 := eq_true c5
      have c5b1 : decide ((ji3 : Int).toNat ≤ 281474976710656) = true := decide_eq_true c5
      clear c5
      obtain ⟨y106, hy106⟩ : ∃ y_ : List Int, y_ = (List.replicate (ji3 : Int).toNat 0) := ⟨_, rfl⟩
      replace H : (vint_Num.l0 k a0 ji3 y106 (y106.length : Int) 0) = some r := by first | (rw [hy106]; with_reducible exact H) | (have H2_ := (Option.bind_some _ _).symm.trans H; rw [hy106]; with_reducible exact H2_) | (have H2_ := (Option.bind_some _ _).symm.trans H; with_reducible exact H2_) | with_reducible exact H | (rw [hy106]; exact H) | exact H
      have Ny106 := Aside0.mk hy106
      clear hy106
      have H' := Aside0.mk H
      clear H
      go_enter Try.func64, Try.ntmps64
      go_wp2_with (first | ((with_reducible refine gate_callee (f := 43) rfl ?_); refine goesL_ (some 7) rfl rfl Try.func43 (by kernel_rfl) rfl #[.int .u64 a0] rfl (by (try simp only [List.map_toArray, List.map_cons, List.map_nil]); first | done | rfl | (simp only [List.length_drop, List.length_take]; rfl)) ?_; (with_reducible refine (bits_Len64.calls a0 t105 _ A2.out).mono ?_); rintro e w' ⟨rfl, ⟨nd, rfl⟩⟩; refine ⟨_, rfl, ?_⟩) | ((with_reducible refine gate_dst (N := 13) rfl ?_); refine Kd.R_make (Kd.int .u8) _ 5 rfl (N := 13) rfl 24 _ _ rfl ji3 rfl rfl Try.underlying24 (.int .u8 0) 1 info5 rfl (by decide) (by omega) 0 (ok := fun _ => True) (okp := fun _ => True) rfl (fun _ hk => hk) trivial (of_decide_eq_true (by first | (with_reducible assumption) | assumption)) (Nat.le_trans (Nat.mul_le_mul_right _ (of_decide_eq_true (by first | (with_reducible assumption) | assumption) : ji3.toNat ≤ 281474976710656)) (by omega)) (Below.refl _ _) (Nat.le_refl _) ?_; intro v107 w6 ho7 hb hg_ hnew_; clear hg_ hnew_; (first | rw [← Ny106.out] at ho7 | (simp only [Int.reduceToNat] at ho7; rw [← Ny106.out] at ho7)); have n0_ := Aside0.mk (Kd.R_lower ho7 (below_size (by repeat (first | (with_reducible first | exact HB.out | apply below_alloc | apply pw_below_drewN | apply below_drew1) | exact HB.out)))); have n1_ := Aside0.mk (below_step (by repeat (first | (with_reducible first | exact HB.out | apply below_alloc | apply pw_below_drewN | apply below_drew1) | exact HB.out)) hb); clear HB; have HO108 := n0_; have HB := n1_; clear n0_ n1_; clear hb ho7; obtain ⟨Ao8, co8, eo8⟩ := Kd.R_slice HO108.out; subst eo8))
      go_loopg [16] k (fun kq v16 w' => ∃ (x4_1 : List Int) (x16_1 : Int), v16 = .int .i64 x16_1 ∧ Aside0 (vint_Num.l0 kq a0 ji3 x4_1 (y106.length : Int) x16_1 = some r) ∧ Aside0 (kq ≤ k) ∧ Aside0 (Kd.R (Kd.int .u8) 5 w' w.heap.size (fun _ => True) (.slice Ao8 y106.length co8) x4_1) ∧ Aside0 (Below w.heap.size w w'))
      case atStart => exact ⟨(y106), (0), (by first | rfl | (simp; done) | (simp [*]; done)), H', ⟨Nat.le_refl _⟩, ⟨by (with_reducible repeat (first | apply Kd.R_alloc | apply Kd.R_drewN | apply Kd.R_drew)); exact HO108.out⟩, ⟨by repeat (first | (with_reducible first | exact HB.out | apply below_alloc | apply pw_below_drewN | apply below_drew1) | exact HB.out)⟩⟩
      case round =>
        clear H'
        try clear p2
        try clear c4
        try clear c4b0
        try clear c4b1
        try clear c5
        try clear c5b0
        try clear c5b1
        try clear c6
        try clear p6
        obtain ⟨x4_1, x16_1, rfl, HA, HK1, HO_4, HB⟩ := hrel
        have hl4_1 := (Kd.R_reads' HO_4.out).1
        rw [hl4_1] at HO_4
        (try simp only [hl4_1])
        cases gk with
        | zero => exact absurd HA.out (by simp [vint_Num.l0])
        | succ k1 =>
          have H := HA.out
          clear HA
          simp only [vint_Num.l0] at H
          by_cases c9 : x16_1 < (y106.length : Int)
          · rw [if_pos c9] at H
            have c9b0 : decide (x16_1 < (y106.length : Int)) = true := decide_eq_true c9
            have c9b0l := c9b0
            (try simp only [hl4_1] at c9b0l)
            clear c9
            obtain ⟨ji10, hji10⟩ : ∃ j_ : Int, (wrap64 (7 * x16_1)) = j_ := ⟨_, rfl⟩
            replace H : (if 0 ≤ (ji10) then (if 0 ≤ x16_1 then (if x16_1 < (x4_1.length : Int) then (vint_Num.l0 k1 a0 ji3 (x4_1.set (x16_1 : Int).toNat (Go.bits .or .u8 (Go.bits .andNot .u8 ((shr .u64 a0 (ji10)) % 256) 128) 128)) (y106.length : Int) (wrap64 (x16_1 + 1))) else (none)) else (none)) else (none)) = some r := by first | (rw [hji10] at H; exact H) | (simp only [hji10] at H ⊢; exact H)
            have hji10w : (IntKind.i64.wrap (7 * x16_1)) = ji10 := (i64_w _).trans hji10
            by_cases c11 : 0 ≤ (ji10)
            · rw [if_pos c11] at H
              have c11b0 := eq_true c11
              have c11b1 : decide (0 ≤ (ji10)) = true := decide_eq_true c11
              clear c11
              obtain ⟨ji12, hji12⟩ : ∃ j_ : Int, (shr .u64 a0 (ji10)) = j_ := ⟨_, rfl⟩
              replace H : (if 0 ≤ x16_1 then (if x16_1 < (x4_1.length : Int) then (vint_Num.l0 k1 a0 ji3 (x4_1.set (x16_1 : Int).toNat (Go.bits .or .u8 (Go.bits .andNot .u8 ((ji12) % 256) 128) 128)) (y106.length : Int) (wrap64 (x16_1 + 1))) else (none)) else (none)) = some r := by first | (rw [hji12] at H; exact H) | (simp only [hji12] at H ⊢; exact H)
              have hji12_ : (a0 / 2 ^ min (ji10).toNat 64) = ji12 := hji12
              have hji12z : (ji10) ≤ 64 → (a0 / 2 ^ (ji10).toNat) = ji12 := shr_small hji12
              by_cases c13 : 0 ≤ x16_1
              · rw [if_pos c13] at H
                have c13b0 : decide (0 ≤ x16_1) = true := decide_eq_true c13
                clear c13
                by_cases c14 : x16_1 < (x4_1.length : Int)
                · rw [if_pos c14] at H
                  have c14b0 : decide (x16_1 < (x4_1.length : Int)) = true := decide_eq_true c14
                  have c14b0l := c14b0
                  (try simp only [hl4_1] at c14b0l)
                  clear c14
                  obtain ⟨y109, hy109⟩ : ∃ y_ : List Int, y_ = (x4_1.set (x16_1 : Int).toNat (Go.bits .or .u8 (Go.bits .andNot .u8 ((ji12) % 256) 128) 128)) := ⟨_, rfl⟩
                  replace H : (vint_Num.l0 k1 a0 ji3 y109 (y106.length : Int) (wrap64 (x16_1 + 1))) = some r := by first | (rw [hy109]; with_reducible exact H) | (have H2_ := (Option.bind_some _ _).symm.trans H; rw [hy109]; with_reducible exact H2_) | (have H2_ := (Option.bind_some _ _).symm.trans H; with_reducible exact H2_) | with_reducible exact H | (rw [hy109]; exact H) | exact H
                  have Ny109 := Aside0.mk hy109
                  clear hy109
                  have H' := Aside0.mk H
                  clear H
                  have p15 : 0 ≤ (x16_1 : Int) := of_decide_eq_true (by first | (with_reducible assumption) | assumption)
                  have q15 : (x16_1 : Int) < ((x4_1.length : Int) : Int) := of_decide_eq_true (by first | (with_reducible assumption) | assumption)
                  obtain ⟨go15, co15, eo15, gb15, gl15, cl15, HG15⟩ := Kd.R_form HO_4.out (by omega)
                  (first | cases eo15 | (injection eo15 with ea_ en_ ec_; (first | subst ea_ | (injection ea_ with ea_; subst ea_)); subst ec_; clear en_))
                  have GB15 := Aside0.mk gb15
                  have GG15 := Aside0.mk HG15
                  clear gb15 gl15 HG15
                  obtain ⟨hx15_0, hf15_0⟩ := Kd.R_celln 0 HO_4.out (x16_1 : Int) p15 q15
                  replace p15 := eq_true p15
                  replace q15 := eq_true q15
                  have HP16 := Kd.R_putg HO_4.out (x16_1 : Int) (Go.bits .or .u8 (Go.bits .andNot .u8 ((ji12) % 256) 128) 128)
                  go_wp2_with (first | ((with_reducible refine gate_store (t := 5) (p := 28) rfl ?_); refine store_event (t := 5) (p := 28) (v := ?vo_w17) (w1 := (wr.setCell ⟨go15, (x16_1 : Int).toNat, none⟩ (.int .u8 (Go.bits .or .u8 (Go.bits .andNot .u8 ((ji12) % 256) 128) 128)))) ?hg ?ho ?hn ?hr ?_; (case ho => rfl); (case hg => rfl); (case hn => rfl); (case hr => first | (go_simp; done) | (go_simp; rfl)); intro w17 hw; have hg : wr.grownBy w17 (some go15) := (by rw [hw]; exact HP16.2); have hp_ : Kd.R (Kd.int .u8) 5 w17 w.heap.size (fun _ => True) (.slice (some ⟨go15, 0, none⟩) x4_1.length co8) y109 := (by rw [hw, Ny109.out]; exact HP16.1); clear HP16; have n0_ := Aside0.mk (hp_); have n1_ := Aside0.mk ((by rw [hw]; exact below_set (HB.out) GB15.out : Below w.heap.size w w17)); clear HO_4; clear HB; have HO_4 := n0_; have HB := n1_; clear n0_ n1_; clear hg hw hp_))
                  (try simp only [← hl4_1])
                  go_roundg k1
                  case measure => have := HK1.out; omega
                  case rel => exact ⟨(y109), (wrap64 (x16_1 + 1)), (by first | rfl | (simp; done) | (simp [*]; done)), H', ⟨by have := HK1.out; omega⟩, ⟨by (try simp only [hl4_1]); (with_reducible repeat (first | apply Kd.R_alloc | apply Kd.R_drewN | apply Kd.R_drew)); exact HO_4.out⟩, ⟨by repeat (first | (with_reducible first | exact HB.out | apply below_alloc | apply pw_below_drewN | apply below_drew1) | exact HB.out)⟩⟩
                · rw [if_neg c14] at H
                  exact absurd H (by simp)
              · rw [if_neg c13] at H
                exact absurd H (by simp)
            · rw [if_neg c11] at H
              exact absurd H (by simp)
          · rw [if_neg c9] at H
            have c9b0 : decide (x16_1 < (y106.length : Int)) = false := decide_eq_false c9
            have c9b0l := c9b0
            (try simp only [hl4_1] at c9b0l)
            clear c9
            obtain ⟨ji18, hji18⟩ : ∃ j_ : Int, (wrap64 (ji3 - 1)) = j_ := ⟨_, rfl⟩
            replace H : (if 0 ≤ (ji18) then (if (ji18) < (x4_1.length : Int) then (some (x4_1.set ((ji18) : Int).toNat (Go.bits .andNot .u8 (rd x4_1 (ji18)) 128))) else (none)) else (none)) = some r := by first | (rw [hji18] at H; exact H) | (simp only [hji18] at H ⊢; exact H)
            have hji18w : (IntKind.i64.wrap (ji3 - 1)) = ji18 := (i64_w _).trans hji18
            by_cases c19 : 0 ≤ (ji18)
            · rw [if_pos c19] at H
              have c19b0 : decide (0 ≤ (ji18)) = true := decide_eq_true c19
              clear c19
              by_cases c20 : (ji18) < (x4_1.length : Int)
              · rw [if_pos c20] at H
                have c20b0 : decide ((ji18) < (x4_1.length : Int)) = true := decide_eq_true c20
                have c20b0l := c20b0
                (try simp only [hl4_1] at c20b0l)
                clear c20
                obtain ⟨y111, hy111⟩ : ∃ y_ : List Int, y_ = (x4_1.set ((ji18) : Int).toNat (Go.bits .andNot .u8 (rd x4_1 (ji18)) 128)) := ⟨_, rfl⟩
                replace H : (some y111) = some r := by first | (rw [hy111]; with_reducible exact H) | (have H2_ := (Option.bind_some _ _).symm.trans H; rw [hy111]; with_reducible exact H2_) | (have H2_ := (Option.bind_some _ _).symm.trans H; with_reducible exact H2_) | with_reducible exact H | (rw [hy111]; exact H) | exact H
                have Ny111 := Aside0.mk hy111
                clear hy111
                obtain rfl := Option.some.inj H
                have p110 : 0 ≤ ((ji18) : Int) := of_decide_eq_true (by first | (with_reducible assumption) | assumption)
                have q110 : (ji18) < (x4_1.length : Int) := of_decide_eq_true (by first | (with_reducible assumption) | assumption)
                obtain ⟨ad110, e110, hx110_0⟩ := Kd.at_int (Kd.R_reads' HO_4.out).2.2 (ji18) p110 q110
                cases e110
                replace p110 := eq_true p110
                replace q110 := eq_true q110
                have p21 : 0 ≤ ((ji18) : Int) := of_decide_eq_true (by first | (with_reducible assumption) | assumption)
                have q21 : ((ji18) : Int) < ((x4_1.length : Int) : Int) := of_decide_eq_true (by first | (with_reducible assumption) | assumption)
                obtain ⟨go21, co21, eo21, gb21, gl21, cl21, HG21⟩ := Kd.R_form HO_4.out (by omega)
                (first | cases eo21 | (injection eo21 with ea_ en_ ec_; (first | subst ea_ | (injection ea_ with ea_; subst ea_)); subst ec_; clear en_))
                have GB21 := Aside0.mk gb21
                have GG21 := Aside0.mk HG21
                clear gb21 gl21 HG21
                (first | simp only [add_plain] at hx110_0 | skip)
                obtain ⟨hx21_0, hf21_0⟩ := Kd.R_celln 0 HO_4.out ((ji18) : Int) p21 q21
                replace p21 := eq_true p21
                replace q21 := eq_true q21
                have HP22 := Kd.R_putg HO_4.out ((ji18) : Int) (Go.bits .andNot .u8 (rd x4_1 (ji18)) 128)
                go_wp2_with (first | ((with_reducible refine gate_store (t := 5) (p := 36) rfl ?_); refine store_event (t := 5) (p := 36) (v := ?vo_w23) (w1 := (wr.setCell ⟨go21, ((ji18) : Int).toNat, none⟩ (.int .u8 (Go.bits .andNot .u8 (rd x4_1 (ji18)) 128)))) ?hg ?ho ?hn ?hr ?_; (case ho => rfl); (case hg => rfl); (case hn => rfl); (case hr => first | (go_simp; done) | (go_simp; rfl)); intro w23 hw; have hg : wr.grownBy w23 (some go21) := (by rw [hw]; exact HP22.2); have hp_ : Kd.R (Kd.int .u8) 5 w23 w.heap.size (fun _ => True) (.slice (some ⟨go21, 0, none⟩) x4_1.length co8) y111 := (by rw [hw, Ny111.out]; exact HP22.1); clear HP22; have n0_ := Aside0.mk (hp_); have n1_ := Aside0.mk ((by rw [hw]; exact below_set (HB.out) GB21.out : Below w.heap.size w w23)); clear HO_4; clear HB; have HO_4 := n0_; have HB := n1_; clear n0_ n1_; clear hg hw hp_))
                go_ret
                exact ⟨_, by first | rfl | (simp [errW_none, errW_some] <;> rfl) | (simp only [← hji3, ← hji18]; first | rfl | (simp [errW_none, errW_some] <;> rfl)) | (simp [*, errW_none, errW_some] <;> rfl), by (with_reducible repeat (first | apply Kd.R_alloc | apply Kd.R_drewN | apply Kd.R_drew)); exact HO_4.out, by repeat (first | (with_reducible first | exact HB.out | apply below_alloc | apply pw_below_drewN | apply below_drew1) | exact HB.out)⟩
              · rw [if_neg c20] at H
                exact absurd H (by simp)
            · rw [if_neg c19] at H
              exact absurd H (by simp)
    · rw [if_neg c5] at H
      exact absurd H (by simp)
  · rw [if_neg c4] at H
    exact absurd H (by simp)

/-! ### vint_Int: function 46 -/
def vint_Int.f (k : Nat) (a0 : Int) : Option (List Int) := (vint_Num.f k (Go.bits .xor .u64 (IntKind.u64.wrap ((IntKind.u64.wrap (a0)) * 2)) (IntKind.u64.wrap (a0 / 9223372036854775808)))).bind fun t112 => (some t112)
theorem vint_Int.mono : ∀ a0 k, LeO (vint_Int.f k a0) (vint_Int.f (k + 1) a0) := by
  intro a0 k
  unfold vint_Int.f
  repeat' first
      | (with_reducible exact vint_Num.mono _ _)
      | (with_reducible exact LeO.refl _)
      | (with_reducible exact LeO.none _)
      | (with_reducible refine LeO.ite ?_ ?_)
      | (with_reducible refine LeO.bind ?_ (fun _ => ?_))
      | exact vint_Num.mono _ _
      | exact LeO.none _
      | refine LeO.ite ?_ ?_
      | refine LeO.bind ?_ (fun _ => ?_)
set_option maxHeartbeats 8000000 in
set_option maxRecDepth 100000 in
theorem vint_Int.calls (k : Nat) (a0 : Int) (r : List Int) (w : World) (h : vint_Int.f k a0 = some r) :
    Calls Try.prog 46 #[.int .i64 a0] w fun e w' => ∃ v0_ : Value, e = .returned (v0_) ∧ Kd.R (Kd.int .u8) 5 w' w.heap.size (fun _ => True) v0_ r ∧ Below w.heap.size w w' := by
  have HB := Aside0.mk (Below.refl w.heap.size w)
  have H : ((vint_Num.f k (Go.bits .xor .u64 (IntKind.u64.wrap ((IntKind.u64.wrap (a0)) * 2)) (IntKind.u64.wrap (a0 / 9223372036854775808)))).bind fun t112 => (some t112)) = some r := h
  clear h
  replace H := Option.bind_eq_some_iff.mp H
  obtain ⟨t112, A20, H⟩ := H
  replace H : (some t112) = some r := H
  have A2 := Aside0.mk A20
  clear A20
  obtain rfl := Option.some.inj H
  go_enter Try.func46, Try.ntmps46
  go_wp2_with (first | ((with_reducible refine gate_callee (f := 64) rfl ?_); refine goesL_ (some 10) rfl rfl Try.func64 (by kernel_rfl) rfl #[.int .u64 (Go.bits .xor .u64 (IntKind.u64.wrap ((IntKind.u64.wrap (a0)) * 2)) (IntKind.u64.wrap (a0 / 9223372036854775808)))] rfl (by (try simp only [List.map_toArray, List.map_cons, List.map_nil]); first | done | rfl | (simp only [List.length_drop, List.length_take]; rfl)) ?_; (with_reducible refine (vint_Num.calls k (Go.bits .xor .u64 (IntKind.u64.wrap ((IntKind.u64.wrap (a0)) * 2)) (IntKind.u64.wrap (a0 / 9223372036854775808))) t112 _ A2.out).mono ?_); rintro e w3 ⟨v113, rfl, ho0, hb⟩; refine ⟨_, rfl, ?_⟩; have n0_ := Aside0.mk (Kd.R_lower ho0 (below_size (by repeat (first | (with_reducible first | exact HB.out | apply below_alloc | apply pw_below_drewN | apply below_drew1) | exact HB.out)))); have n1_ := Aside0.mk (below_step (by repeat (first | (with_reducible first | exact HB.out | apply below_alloc | apply pw_below_drewN | apply below_drew1) | exact HB.out)) hb); clear HB; have HO114 := n0_; have HB := n1_; clear n0_ n1_; (try clear hb); (try clear hb2); (try clear hk); (try clear hi); (try clear ho0)))
  go_ret
  exact ⟨_, by first | rfl | (simp [errW_none, errW_some] <;> rfl) | (simp [*, errW_none, errW_some] <;> rfl), by (with_reducible repeat (first | apply Kd.R_alloc | apply Kd.R_drewN | apply Kd.R_drew)); exact HO114.out, by repeat (first | (with_reducible first | exact HB.out | apply below_alloc | apply pw_below_drewN | apply below_drew1) | exact HB.out)⟩

end Go.Proofs.Ytbbffnlefmogbaa.X
/- The contract of bytes.Join without a separator: the parts' bytes, one behind the other; they lie in memory that this call has made. -/
namespace Go.Proofs.Ytbbffnlefmogbaa.X
open Go.RowKit Go.Proofs.YtbbffnlefmogbaaW.PrintWords Go.Proofs.YtbbffnlefmogbaaW.PrintLast Go.Proofs.YtbbffnlefmogbaaW.PrintMore
set_option linter.unusedVariables false
set_option linter.unusedSimpArgs false
open Go.Proofs.Ytbbffnlefmogbaa.Buf
def bytes_Join.f (l0 : List (List Int)) (l1 : List Int) : Option (List Int) := if l1 = [] ∧ 2 ≤ l0.length ∧ l0.flatten.length < 140737488355328 then some l0.flatten else none
theorem join_take (l0 : List (List Int)) (i : Nat) (h : i < l0.length) : (l0.take (i + 1)).flatten = (l0.take i).flatten ++ l0[i] := by
  rw [List.take_succ_eq_append_getElem h, List.flatten_append, List.flatten_singleton]
theorem join_le (l0 : List (List Int)) (i : Nat) : (l0.take i).flatten.length ≤ l0.flatten.length := by
  conv => rhs; rw [← List.take_append_drop i l0, List.flatten_append, List.length_append]
  omega
set_option maxHeartbeats 8000000 in
set_option maxRecDepth 1000000 in
theorem bytes_Join.calls (A0 : Option Addr) (c0 : Nat) (l0 : List (List Int)) (A1 : Option Addr) (c1 : Nat) (l1 : List Int) (r : List Int) (w : World) (hr0 : Kd.C (Kd.slice 5 (Kd.int .u8)) w A0 l0.length l0) (hc0 : l0.length ≤ c0) (hr1 : Kd.C (Kd.int .u8) w A1 l1.length l1) (hc1 : l1.length ≤ c1) (h : bytes_Join.f l0 l1 = some r) :
    Calls Try.prog 92 #[.slice A0 l0.length c0, .slice A1 l1.length c1] w fun e w' => ∃ v0_ : Value, e = .returned v0_ ∧ Kd.V (Kd.int .u8) 5 w' w.heap.size (fun k_ => w.heap.size ≤ k_) v0_ r ∧ Below w.heap.size w w' := by
  unfold bytes_Join.f at h
  by_cases hf : l1 = [] ∧ 2 ≤ l0.length ∧ l0.flatten.length < 140737488355328
  case neg => rw [if_neg hf] at h; cases h
  rw [if_pos hf] at h
  obtain rfl := Option.some.inj h
  clear h
  obtain ⟨rfl, h2, hlen⟩ := hf
  have hmax := Kd.C_max hr0
  have HR0 := Aside0.mk hr0
  have HLEN := Aside0.mk hlen
  have f0 : ((l0.length : Int) == 0) = false := beq_eq_false_iff_ne.2 (by omega)
  have f1 : ((l0.length : Int) == 1) = false := beq_eq_false_iff_ne.2 (by omega)
  clear hr0 hr1 hc1 hlen
  obtain ⟨⟨b, o, sp⟩, _, _, rfl, hcx, _⟩ := Mem.at_row HR0.out 0 (by omega)
  have hsp : sp = none := by
    cases sp with
    | none => rfl
    | some z => simp [Addr.add, World.cell?] at hcx; split at hcx <;> simp at hcx
  subst hsp
  clear hcx
  have u5 := Try.underlying24
  have z5 : ∀ w, (Go.sizeOf 5).run Try.prog w = .ok 1 w := fun w => by kernel_rfl
  have hs5 : (Try.prog.info? 5).map (·.size) = some 1 := by kernel_rfl
  have hcells : ∀ i : Nat, (hi : i < l0.length) → ∃ Ai ci, w.cell? ⟨b, o + i, none⟩ = some (.slice Ai (l0[i]).length ci) ∧ (Kd.int .u8).C w Ai (l0[i]).length (l0[i]) := fun i hi => by
    obtain ⟨ad', Ai, ci, e, hc, _, hC⟩ := Mem.at_row HR0.out i hi
    cases e
    rw [Mem.add_plain2] at hc
    exact ⟨Ai, ci, hc, hC⟩
  have HC := Aside0.mk hcells
  clear hcells
  obtain ⟨A00, c00, hcell0, hC00⟩ := HC.out 0 (by omega)
  have HC00 := Aside0.mk hC00
  clear hC00
  go_enter Try.func92, Try.ntmps92
  go_wp2_with fail
  go_loopg [5, 44] l0.length (fun g s5 s44 wr => w = wr ∧ ∃ i : Nat, i ≤ l0.length ∧ g = l0.length - i ∧ s44 = .int .i64 i ∧ s5 = .int .i64 (((l0.take i).flatten.length : Nat) : Int))
  case atStart => exact ⟨rfl, 0, Nat.zero_le _, rfl, rfl, rfl⟩
  case round =>
    obtain ⟨rfl, i, hi, rfl, rfl, rfl⟩ := hrel
    by_cases hlt : i < l0.length
    · obtain ⟨Ai, ci, hcell, _⟩ := HC.out i hlt
      have hs1 : (l0.take (i + 1)).flatten.length = (l0.take i).flatten.length + (l0[i]).length := by rw [join_take l0 i hlt, List.length_append]
      have hs2 := join_le l0 (i + 1)
      have hL := HLEN.out
      generalize (l0.take i).flatten.length = acc at hs1 ⊢
      generalize (l0[i]).length = m at hs1 hcell
      have hb : ¬ (9223372036854775807 - ((acc : Nat) : Int) < (m : Int)) := by omega
      go_wp2_with fail
      go_roundg (l0.length - (i + 1))
      case measure => omega
      case rel => exact ⟨rfl, i + 1, by omega, rfl, by go_num, by rw [hs1]; go_num⟩
    · obtain rfl : i = l0.length := by omega
      rw [List.take_length]
      have hL := HLEN.out
      obtain ⟨T, hT⟩ : ∃ T, l0.flatten.length = T := ⟨_, rfl⟩
      rw [hT] at hL ⊢
      obtain ⟨cs, hrunM, hle, _⟩ := Lib.run_makeNoZero (P := Try.prog) w #[3] 24 5 u5 T (by omega)
      have hcall : (callFunc 96 #[.int .i64 (T : Int)]).run Try.prog w = .ok (.value (.slice (some ⟨w.heap.size, 0, none⟩) T cs.size)) ((w.alloc (.cells cs 5)).drewN 2) := by
        rw [run_callFunc_extern Try.func96 (by kernel_rfl) (by kernel_rfl) (by kernel_rfl) (e := Extern.BytealgMakeNoZero.makeNoZero #[3] #[24]) (by kernel_rfl), hrunM]
        rfl
      clear hrunM
      have i0 : (0 : Int) ≤ (T : Int) := by omega
      have i1 : (T : Int) ≤ (cs.size : Int) := by omega
      have B0 := Buf.start w cs 5 T 2 hle
      have hc0' : ((w.alloc (.cells cs 5)).drewN 2).cell? ⟨b, o, none⟩ = some (.slice A00 (l0[0]).length c00) := Lib.Below.cellOf B0.below hcell0 (Nat.le_refl _)
      have h1 := join_take l0 0 (by omega)
      have hle0 := join_le l0 (0 + 1)
      rw [h1, hT] at hle0
      rw [List.take_zero, List.flatten_nil, List.nil_append] at h1 hle0
      obtain ⟨w1, hr1, B1⟩ := copy_part (P := Try.prog) w _ w.heap.size T [] (l0[0]) A00 c00 24 3 5 u5 hs5 (Nat.le_refl _) B0 HC00.out (by simpa using hle0)
      rw [List.length_nil, Lib.tailV_zero] at hr1
      rw [List.nil_append] at B1
      go_wp2_with (at_builtin; refine Lib.wpList_copy_run _ rfl _ _ 24 24 rfl _ _ rfl rfl hr1 ?_)
      have HB1 : Aside0 (Buf w w1 w.heap.size T (l0.take 1).flatten) := ⟨by rw [h1]; exact B1⟩
      have HL1 := congrArg List.length h1
      clear B1 B0 hr1 hcall hc0' hcell0 h1
      go_loopg [9, 72] (l0.length - 1) (fun g2 s9 s72 wr => ∃ (j : Nat), j ≤ l0.length - 1 ∧ l0.length - 1 - j ≤ g2 ∧ s72 = .int .i64 j ∧ s9 = .int .i64 ((l0.take (1 + j)).flatten.length : Nat) ∧ Aside0 (Buf w wr w.heap.size T (l0.take (1 + j)).flatten))
      case atStart => exact ⟨0, Nat.zero_le _, by omega, rfl, by rw [HL1], HB1⟩
      case round =>
        obtain ⟨j, hj, hg2, rfl, rfl, HB⟩ := hrel
        by_cases hjn : j < l0.length - 1
        · have hjz : (j : Int) < ((l0.length - 1 : Nat) : Int) := by omega
          obtain ⟨A2, c2, hcell, hC2⟩ := HC.out (1 + j) (by omega)
          have hs1 := join_take l0 (1 + j) (by omega)
          have hs2 := join_le l0 (1 + j + 1)
          rw [hs1, hT, List.length_append] at hs2
          have hL2 := congrArg List.length hs1
          rw [List.length_append] at hL2
          have HS1 := Aside0.mk hs1
          have HL2 := Aside0.mk hL2
          clear hs1 hL2
          have hcw : wr.cell? ⟨b, o + 1 + j, none⟩ = some (.slice A2 (l0[1 + j]).length c2) := by
            have := Lib.Below.cellOf HB.out.below hcell (Nat.le_refl _)
            rwa [show o + (1 + j) = o + 1 + j by omega] at this
          have hfit := HB.out.fits
          have hsl1 : ∀ W, (Instr.slice 24 (.slice (some ⟨w.heap.size, 0, none⟩) T T) (some (.int .i64 ((l0.take (1 + j)).flatten.length : Int))) none none).run Try.prog W = .ok (Lib.tailV w.heap.size T (l0.take (1 + j)).flatten.length) W := fun W => Lib.run_slice_tailV W 24 5 u5 z5 _ T (l0.take (1 + j)).flatten.length hfit
          obtain ⟨w2, hr2, B2⟩ := copy_part (P := Try.prog) w wr w.heap.size T (l0.take (1 + j)).flatten [] A1 c1 24 3 5 u5 hs5 (Nat.le_refl _) HB.out ⟨rfl, by simp, fun hh => absurd hh (by simp)⟩ (by simpa using hfit)
          rw [List.append_nil] at B2
          rw [List.length_nil, show ((0 : Nat) : Int) = 0 from rfl] at hr2
          obtain ⟨w3, hr3, B3⟩ := copy_part (P := Try.prog) w w2 w.heap.size T (l0.take (1 + j)).flatten (l0[1 + j]) A2 c2 24 3 5 u5 hs5 (Nat.le_refl _) B2 hC2 hs2
          have HB3 : Aside0 (Buf w w3 w.heap.size T (l0.take (1 + j + 1)).flatten) := ⟨by rw [HS1.out]; exact B3⟩
          clear B2 B3 hcell hC2 HB
          generalize (l0.take (1 + j)).flatten.length = bp at hs2 HL2 hfit hsl1 hr2 hr3 ⊢
          generalize (l0[1 + j]).length = m at hs2 HL2 hcw hr3
          go_wp2_with (at_builtin; first | refine Lib.wpList_copy_run _ rfl _ _ 24 24 rfl _ _ rfl rfl hr2 ?_ | refine Lib.wpList_copy_run _ rfl _ _ 24 24 rfl _ _ rfl rfl hr3 ?_)
          go_roundg (l0.length - 1 - (j + 1))
          case measure => omega
          case rel => exact ⟨j + 1, by omega, Nat.le_refl _, by go_num, by rw [show 1 + (j + 1) = 1 + j + 1 by omega, HL2.out]; go_num, by rw [show 1 + (j + 1) = 1 + j + 1 by omega]; exact HB3⟩
        · obtain rfl : j = l0.length - 1 := by omega
          have hjz : ¬ (((l0.length - 1 : Nat) : Int) < ((l0.length - 1 : Nat) : Int)) := by omega
          have HB2 := HB.out
          rw [show 1 + (l0.length - 1) = l0.length by omega, List.take_length] at HB2
          clear HB
          go_wp2_with fail
          go_ret
          exact ⟨_, rfl, Buf.V HB2 hT (by omega), HB2.below⟩
end Go.Proofs.Ytbbffnlefmogbaa.X
-- Printed for this claim by a program of this session (wip/xprint.py) over the kit's printer; Lean checks it.
namespace Go.Proofs.Ytbbffnlefmogbaa.X
open Go.RowKit Go.Proofs.YtbbffnlefmogbaaW.PrintWords Go.Proofs.YtbbffnlefmogbaaW.PrintLast Go.Proofs.YtbbffnlefmogbaaW.PrintMore
attribute [local go_sem] max2_int min2_int max_two min_two max_three min_three max_four min_four   -- for this text's walks alone
set_option linter.unusedVariables false
set_option linter.unusedSimpArgs false

/-! ### vint_joined: function 85 -/
def vint_joined.f (l0 : List (List Int)) : Option (List Int) := (bytes_Join.f l0 ([] : List Int)).bind fun t115 => (some t115)
set_option maxHeartbeats 8000000 in
set_option maxRecDepth 100000 in
theorem vint_joined.calls (A0 : Option Addr) (c0 : Nat) (l0 : List (List Int)) (r : List Int) (w : World) (hr0 : Kd.C (Kd.slice 5 (Kd.int .u8)) w A0 l0.length l0) (hc0 : l0.length ≤ c0) (h : vint_joined.f l0 = some r) :
    Calls Try.prog 85 #[.slice A0 l0.length c0] w fun e w' => ∃ v0_ : Value, e = .returned (v0_) ∧ Kd.V (Kd.int .u8) 5 w' w.heap.size (fun k_ => (w.heap.size ≤ k_)) v0_ r ∧ Below w.heap.size w w' := by
  have HR0 := Aside0.mk hr0
  have HC0 := Aside0.mk hc0
  clear hr0 hc0
  have HB := Aside0.mk (Below.refl w.heap.size w)
  have H : ((bytes_Join.f l0 ([] : List Int)).bind fun t115 => (some t115)) = some r := h
  clear h
  replace H := Option.bind_eq_some_iff.mp H
  obtain ⟨t115, A20, H⟩ := H
  replace H : (some t115) = some r := H
  have A2 := Aside0.mk A20
  clear A20
  obtain rfl := Option.some.inj H
  go_enter Try.func85, Try.ntmps85
  go_wp2_with (first | ((with_reducible refine gate_callee (f := 92) rfl ?_); refine goesL_ (some 4) rfl rfl Try.func92 (by kernel_rfl) rfl #[.slice A0 l0.length c0, .slice none 0 0] rfl (by (try simp only [List.map_toArray, List.map_cons, List.map_nil]); first | done | rfl | (simp only [List.length_drop, List.length_take]; rfl)) ?_; (refine (bytes_Join.calls _ _ l0 _ _ ([] : List Int) t115 _ ?side1 ?side2 ?side3 ?side4 A2.out).mono ?_); (case side1 => repeat (first | exact HR0.out | (with_reducible refine Kd.C_alloc ?_ _) | (with_reducible refine Kd.C_drewN ?_ _) | (with_reducible refine Kd.C_drew ?_))); (case side2 => exact HC0.out); (case side3 => exact Kd.C_nil _ _); (case side4 => exact Nat.le_refl _); rintro e w3 ⟨v116, rfl, ho0, hb⟩; refine ⟨_, rfl, ?_⟩; have n0_ := Aside0.mk (Kd.V_lower (Kd.V_mono (ok' := fun k_ => (w.heap.size ≤ k_)) ho0 (fun k_ hk_ => (Nat.le_trans (below_size (by repeat (first | (with_reducible first | exact HB.out | apply below_alloc | apply pw_below_drewN | apply below_drew1) | exact HB.out))) hk_))) (below_size (by repeat (first | (with_reducible first | exact HB.out | apply below_alloc | apply pw_below_drewN | apply below_drew1) | exact HB.out)))); have n1_ := Aside0.mk (below_step (by repeat (first | (with_reducible first | exact HB.out | apply below_alloc | apply pw_below_drewN | apply below_drew1) | exact HB.out)) hb); clear HB; have HO117 := n0_; have HB := n1_; clear n0_ n1_; (try clear hb); (try clear hb2); (try clear hk); (try clear hi); (try clear ho0)))
  go_ret
  exact ⟨_, by first | rfl | (simp [errW_none, errW_some] <;> rfl) | (simp [*, errW_none, errW_some] <;> rfl), by (with_reducible repeat (first | apply Kd.V_alloc | apply Kd.V_drewN | apply Kd.V_drew)); exact HO117.out, by repeat (first | (with_reducible first | exact HB.out | apply below_alloc | apply pw_below_drewN | apply below_drew1) | exact HB.out)⟩

end Go.Proofs.Ytbbffnlefmogbaa.X
/- The contract of vint.Text: a text's bytes, behind how many there are; they lie in memory that this call has made. -/
namespace Go.Proofs.Ytbbffnlefmogbaa.X
open Go.RowKit Go.Proofs.YtbbffnlefmogbaaW.PrintWords Go.Proofs.YtbbffnlefmogbaaW.PrintLast Go.Proofs.YtbbffnlefmogbaaW.PrintMore
set_option linter.unusedVariables false
set_option linter.unusedSimpArgs false
def vint_Text.f (k : Nat) (a0 : ByteArray) : Option (List Int) := (vint_Num.f k (a0.size : Int)).bind fun b => if a0.size ≤ 9223372036854775807 then vint_joined.f [b, bytesOf a0] else none
theorem vint_Text.mono : ∀ a0 k, LeO (vint_Text.f k a0) (vint_Text.f (k + 1) a0) := by
  intro a0 k r h
  unfold vint_Text.f at h ⊢
  obtain ⟨b, hb, h⟩ := Option.bind_eq_some_iff.mp h
  rw [vint_Num.mono _ _ _ hb]
  exact h
set_option maxHeartbeats 8000000 in
set_option maxRecDepth 1000000 in
theorem vint_Text.calls (k : Nat) (a0 : ByteArray) (r : List Int) (w : World) (h : vint_Text.f k a0 = some r) :
    Calls Try.prog 65 #[.string a0] w fun e w' => ∃ v0_ : Value, e = .returned v0_ ∧ Kd.V (Kd.int .u8) 5 w' w.heap.size (fun k_ => w.heap.size ≤ k_) v0_ r ∧ Below w.heap.size w w' := by
  unfold vint_Text.f at h
  obtain ⟨b, hb, h⟩ := Option.bind_eq_some_iff.mp h
  by_cases hm : a0.size ≤ 9223372036854775807
  case neg => rw [if_neg hm] at h; cases h
  rw [if_pos hm] at h
  have HN := Aside0.mk hb
  have HJ := Aside0.mk h
  clear hb h
  have hw : IntKind.u64.wrap (a0.size : Int) = (a0.size : Int) := by rw [IntKind.wrap_u64]; omega
  have kc := fun (W : World) => Lib.run_convert_string_bytes (P := Try.prog) W 9 24 5 a0 Try.underlying9 Try.underlying24 Try.underlying5
  go_enter Try.func65, Try.ntmps65
  go_wp2_with fail
  refine (vint_Num.calls k (a0.size : Int) b _ HN.out).mono ?_
  rintro e w1 ⟨v1, rfl, R1, b1⟩
  obtain ⟨A1, c1, rfl, hc1, C1⟩ := Kd.R_reads R1
  have HC1 := Aside0.mk C1
  clear R1 C1
  go_wp2_with fail
  have bW : Below w1.heap.size w1 (Lib.bytesWorld w1 5 a0) := Mem.below_bytes w1 5 a0
  have C2 : Kd.C (Kd.int .u8) (Lib.bytesWorld w1 5 a0) (some ⟨w1.heap.size, 0, none⟩) (bytesOf a0).length (bytesOf a0) := by
    rw [bytesOf_length]; exact Kd.C_of_reads (d := (0 : Int)) (readsInt_of.mp (bytes_reads w1 5 a0 hm))
  have hcap : a0.size ≤ grownCap w1 a0.size 0 5 := by simpa using grownCap_ge w1 a0.size 0 5
  have C1 := Kd.C_below HC1.out bW
  generalize Lib.bytesWorld w1 5 a0 = w2 at bW C2 C1 ⊢
  generalize grownCap w1 a0.size 0 5 = c2 at hcap ⊢
  have bl := bytesOf_length a0
  rw [← bl] at hcap
  have C3 : Kd.C (Kd.slice 5 (Kd.int .u8)) (w2.alloc (.cells #[.slice A1 b.length c1, .slice (some ⟨w1.heap.size, 0, none⟩) a0.size c2] 24)) (some ⟨w2.heap.size, 0, none⟩) 2 [b, bytesOf a0] := by
    refine Mem.C_rows (xs := [b, bytesOf a0]) (Mem.alloc_new _ _) (by simp) (fun i hi => ?_)
    match i, hi with
    | 0, _ => exact ⟨A1, c1, rfl, hc1, Kd.C_alloc C1 _⟩
    | 1, _ => exact ⟨some ⟨w1.heap.size, 0, none⟩, c2, by rw [← bl]; rfl, hcap, Kd.C_alloc C2 _⟩
  refine (vint_joined.calls _ 2 [b, bytesOf a0] r _ C3 (Nat.le_refl _) HJ.out).mono ?_
  rintro e w3 ⟨v3, rfl, V3, b3⟩
  have B := below_step (below_alloc (below_step b1 bW) _) b3
  have HV := Aside0.mk (Kd.V_mono V3 (fun k hk => Nat.le_trans (below_size (below_alloc (below_step b1 bW) _)) hk))
  go_wp2_with fail
  go_ret
  exact ⟨_, rfl, HV.out, B⟩
end Go.Proofs.Ytbbffnlefmogbaa.X
-- Printed for this claim by a program of this session (wip/xprint.py) over the kit's printer; Lean checks it.
namespace Go.Proofs.Ytbbffnlefmogbaa.X
open Go.RowKit Go.Proofs.YtbbffnlefmogbaaW.PrintWords Go.Proofs.YtbbffnlefmogbaaW.PrintLast Go.Proofs.YtbbffnlefmogbaaW.PrintMore
attribute [local go_sem] max2_int min2_int max_two min_two max_three min_three max_four min_four   -- for this text's walks alone
set_option linter.unusedVariables false
set_option linter.unusedSimpArgs false

/-! ### dict_Plain: function 34 -/
def dict_Plain.l0 : Nat → List Int → List ByteArray → Int → Int → Option (List Int)
  | 0, _, _, _, _ => none
  | k + 1, x3, x6, x7, x8 => if x8 < x7 then (if 0 ≤ x8 then (if x8 < (x6.length : Int) then ((vint_Text.f k (rdOf ByteArray.empty x6 x8)).bind fun t119 => (if x3.length + t119.length < 140737488355328 then (dict_Plain.l0 k (x3 ++ t119) x6 x7 (wrap64 (x8 + 1))) else (none))) else (none)) else (none)) else (some x3)
def dict_Plain.f (k : Nat) (l0 : List ByteArray) : Option (List Int) := dict_Plain.l0 k ([] : List Int) l0 (l0.length : Int) 0
theorem dict_Plain.mono_l : ∀ k, (∀ y0 y1 y2 y3, LeO (dict_Plain.l0 k y0 y1 y2 y3) (dict_Plain.l0 (k + 1) y0 y1 y2 y3))
  | 0 => fun _ _ _ _ r h => by simp [dict_Plain.l0] at h
  | k + 1 => by
    have ih0 := dict_Plain.mono_l k
    · intro y0 y1 y2 y3
      unfold dict_Plain.l0
      repeat' first
      | (with_reducible exact ih0 _ _ _ _)
      | (with_reducible exact vint_Text.mono _ _)
      | (with_reducible exact LeO.refl _)
      | (with_reducible exact LeO.none _)
      | (with_reducible refine LeO.ite ?_ ?_)
      | (with_reducible refine LeO.bind ?_ (fun _ => ?_))
      | exact ih0 _ _ _ _
      | exact vint_Text.mono _ _
      | exact LeO.none _
      | refine LeO.ite ?_ ?_
      | refine LeO.bind ?_ (fun _ => ?_)
theorem dict_Plain.mono : ∀ a0 k, LeO (dict_Plain.f k a0) (dict_Plain.f (k + 1) a0) := by
  intro a0 k
  have ih0 := dict_Plain.mono_l k
  unfold dict_Plain.f
  repeat' first
      | (with_reducible exact ih0 _ _ _ _)
      | (with_reducible exact vint_Text.mono _ _)
      | (with_reducible exact LeO.refl _)
      | (with_reducible exact LeO.none _)
      | (with_reducible refine LeO.ite ?_ ?_)
      | (with_reducible refine LeO.bind ?_ (fun _ => ?_))
      | exact ih0 _ _ _ _
      | exact vint_Text.mono _ _
      | exact LeO.none _
      | refine LeO.ite ?_ ?_
      | refine LeO.bind ?_ (fun _ => ?_)
set_option maxHeartbeats 8000000 in
set_option maxRecDepth 100000 in
theorem dict_Plain.calls (k : Nat) (A0 : Option Addr) (c0 : Nat) (l0 : List ByteArray) (r : List Int) (w : World) (hr0 : Kd.C Kd.string w A0 l0.length l0) (hc0 : l0.length ≤ c0) (h : dict_Plain.f k l0 = some r) :
    Calls Try.prog 34 #[.slice A0 l0.length c0] w fun e w' => ∃ v0_ : Value, e = .returned (v0_) ∧ Kd.R (Kd.int .u8) 5 w' w.heap.size (fun _ => True) v0_ r ∧ Below w.heap.size w w' := by
  have HR0 := Aside0.mk hr0
  have HC0 := Aside0.mk hc0
  clear hr0 hc0
  have HB := Aside0.mk (Below.refl w.heap.size w)
  have H : (dict_Plain.l0 k ([] : List Int) l0 (l0.length : Int) 0) = some r := h
  clear h
  have H' := Aside0.mk H
  clear H
  go_enter Try.func34, Try.ntmps34
  go_wp2
  go_loopg [3, 8] k (fun kq v3 v8 w' => ∃ (x3_1 : List Int) (x8_1 : Int), v8 = .int .i64 x8_1 ∧ Aside0 (dict_Plain.l0 kq x3_1 l0 (l0.length : Int) x8_1 = some r) ∧ Aside0 (kq ≤ k) ∧ Aside0 (Kd.R (Kd.int .u8) 5 w' w.heap.size (fun _ => True) v3 x3_1) ∧ Aside0 (Below w.heap.size w w'))
  case atStart => exact ⟨(([] : List Int)), (0), (by first | rfl | (simp; done) | (simp [*]; done)), H', ⟨Nat.le_refl _⟩, ⟨by first | exact Kd.R_nil _ _ _ _ _ | exact Kd.N_nil _ _ _ _ _ | exact Kd.V_nil _ _ _ _ _ | exact Kd.Q_nil _ _ _ _ _ | exact Kd.S_nil _ _ _ _ _⟩, ⟨by repeat (first | (with_reducible first | exact HB.out | apply below_alloc | apply pw_below_drewN | apply below_drew1) | exact HB.out)⟩⟩
  case round =>
    clear H'
    obtain ⟨x3_1, x8_1, rfl, HA, HK1, HO_3, HB⟩ := hrel
    cases gk with
    | zero => exact absurd HA.out (by simp [dict_Plain.l0])
    | succ k1 =>
      have H := HA.out
      clear HA
      simp only [dict_Plain.l0] at H
      by_cases c2 : x8_1 < (l0.length : Int)
      · rw [if_pos c2] at H
        have c2b0 : decide (x8_1 < (l0.length : Int)) = true := decide_eq_true c2
        clear c2
        by_cases c3 : 0 ≤ x8_1
        · rw [if_pos c3] at H
          have c3b0 : decide (0 ≤ x8_1) = true := decide_eq_true c3
          clear c3
          by_cases c4 : x8_1 < (l0.length : Int)
          · rw [if_pos c4] at H
            have c4b0 : decide (x8_1 < (l0.length : Int)) = true := decide_eq_true c4
            clear c4
            replace H := Option.bind_eq_some_iff.mp H
            obtain ⟨t119, A50, H⟩ := H
            replace H : (if x3_1.length + t119.length < 140737488355328 then (dict_Plain.l0 k1 (x3_1 ++ t119) l0 (l0.length : Int) (wrap64 (x8_1 + 1))) else (none)) = some r := H
            have A5 := Aside0.mk A50
            clear A50
            by_cases c6 : x3_1.length + t119.length < 140737488355328
            · rw [if_pos c6] at H
              have LMc6 := Aside0.mk c6
              clear c6
              obtain ⟨y122, hy122⟩ : ∃ y_ : List Int, y_ = (x3_1 ++ t119) := ⟨_, rfl⟩
              replace H : (dict_Plain.l0 k1 y122 l0 (l0.length : Int) (wrap64 (x8_1 + 1))) = some r := by first | (rw [hy122]; with_reducible exact H) | (have H2_ := (Option.bind_some _ _).symm.trans H; rw [hy122]; with_reducible exact H2_) | (have H2_ := (Option.bind_some _ _).symm.trans H; with_reducible exact H2_) | with_reducible exact H | (rw [hy122]; exact H) | exact H
              have Ny122 := Aside0.mk hy122
              clear hy122
              have H' := Aside0.mk H
              clear H
              have p118 : 0 ≤ (x8_1 : Int) := of_decide_eq_true (by first | (with_reducible assumption) | assumption)
              have q118 : x8_1 < (l0.length : Int) := of_decide_eq_true (by first | (with_reducible assumption) | assumption)
              obtain ⟨ad118, e118, hx118_0⟩ := Kd.at_string HR0.out x8_1 p118 q118
              cases e118
              replace hx118_0 := (HB.out.cell (World.block_lt_of_cell? w _ hx118_0)).trans hx118_0
              replace p118 := eq_true p118
              replace q118 := eq_true q118
              go_wp2_with (first | ((with_reducible refine gate_callee (f := 65) rfl ?_); refine goesL_ (some 14) rfl rfl Try.func65 (by kernel_rfl) rfl #[.string (rdOf ByteArray.empty l0 x8_1)] rfl (by (try simp only [List.map_toArray, List.map_cons, List.map_nil]); first | done | rfl | (simp only [List.length_drop, List.length_take]; rfl)) ?_; (with_reducible refine (vint_Text.calls k1 (rdOf ByteArray.empty l0 x8_1) t119 _ A5.out).mono ?_); rintro e w7 ⟨v120, rfl, ho0, hb⟩; refine ⟨_, rfl, ?_⟩; have n0_ := Aside0.mk (Kd.R_below (by (with_reducible repeat (first | apply Kd.R_alloc | apply Kd.R_drewN | apply Kd.R_drew)); exact HO_3.out) hb); have n1_ := Aside0.mk (Kd.V_lower (Kd.V_mono (ok' := fun k_ => some k_ ≠ (u3 : Value).ownBlock) ho0 (fun k_ hk_ => (Kd.fresh' (Kd.R_lt (by (with_reducible repeat (first | apply Kd.R_alloc | apply Kd.R_drewN | apply Kd.R_drew)); exact HO_3.out)) k_ hk_))) (below_size (by repeat (first | (with_reducible first | exact HB.out | apply below_alloc | apply pw_below_drewN | apply below_drew1) | exact HB.out)))); have n2_ := Aside0.mk (below_step (by repeat (first | (with_reducible first | exact HB.out | apply below_alloc | apply pw_below_drewN | apply below_drew1) | exact HB.out)) hb); clear HO_3; clear HB; have HO_3 := n0_; have HO121 := n1_; have HB := n2_; clear n0_ n1_ n2_; (try clear hb); (try clear hb2); (try clear hk); (try clear hi); (try clear ho0); obtain ⟨Ao9, co9, eo9⟩ := Kd.V_slice HO121.out; subst eo9) | ((with_reducible refine gate_builtin (b := .append) (xs := #[.tmp 12, .tmp 14]) rfl ?_); at_builtin; refine Kd.R_append_rows (Kd.int .u8) (w0 := w) w.heap.size rfl (.tmp 12) (.tmp 14) 24 5 (.int .u8 0) 1 rfl Try.underlying24 info5 rfl (by decide) (by omega) u3 x3_1 t119 _ _ _ (fun _ => True) (fun _ => False) rfl rfl ?aO ?aR (fun _ _ h => h) (fun _ h => h.elim) ?aF ?aB ?aS ?aL ?_; (case aR => repeat (first | exact (Kd.V_reads' HO121.out).2.2 | (with_reducible refine Kd.C_alloc ?_ _) | (with_reducible refine Kd.C_drewN ?_ _) | (with_reducible refine Kd.C_drew ?_))); (case aB => exact (by repeat (first | (with_reducible first | exact HB.out | apply below_alloc | apply pw_below_drewN | apply below_drew1) | exact HB.out))); (case aF => exact (fun _ _ => trivial)); (case aO => exact (by (with_reducible repeat (first | apply Kd.R_alloc | apply Kd.R_drewN | apply Kd.R_drew)); exact HO_3.out)); (case aS => exact (below_size (by repeat (first | (with_reducible first | exact HB.out | apply below_alloc | apply pw_below_drewN | apply below_drew1) | exact HB.out)))); (case aL => have := LMc6.out; omega); intro v123 w8 ho hb hg hat; rw [← Ny122.out] at ho; have n0_ := Aside0.mk (Kd.V_afterv (ok := (fun _ => True)) (by (with_reducible repeat (first | apply Kd.V_alloc | apply Kd.V_drewN | apply Kd.V_drew)); exact Kd.V_mono HO121.out (fun _ hk => ⟨trivial, hk⟩)) hg hat); have n1_ := Aside0.mk (hb); have n2_ := Aside0.mk (ho); clear HO121; clear HB; clear HO_3; have HO121 := n0_; have HB := n1_; have HO124 := n2_; clear n0_ n1_ n2_; clear ho hb hg hat))
              go_roundg k1
              case measure => have := HK1.out; omega
              case rel => exact ⟨(y122), (wrap64 (x8_1 + 1)), (by first | rfl | (simp; done) | (simp [*]; done)), H', ⟨by have := HK1.out; omega⟩, ⟨by (with_reducible repeat (first | apply Kd.R_alloc | apply Kd.R_drewN | apply Kd.R_drew)); exact HO124.out⟩, ⟨by repeat (first | (with_reducible first | exact HB.out | apply below_alloc | apply pw_below_drewN | apply below_drew1) | exact HB.out)⟩⟩
            · rw [if_neg c6] at H
              exact absurd H (by simp)
          · rw [if_neg c4] at H
            exact absurd H (by simp)
        · rw [if_neg c3] at H
          exact absurd H (by simp)
      · rw [if_neg c2] at H
        have c2b0 : decide (x8_1 < (l0.length : Int)) = false := decide_eq_false c2
        clear c2
        obtain rfl := Option.some.inj H
        go_wp2
        go_ret
        exact ⟨_, by first | rfl | (simp [errW_none, errW_some] <;> rfl) | (simp [*, errW_none, errW_some] <;> rfl), by (with_reducible repeat (first | apply Kd.R_alloc | apply Kd.R_drewN | apply Kd.R_drew)); exact HO_3.out, by repeat (first | (with_reducible first | exact HB.out | apply below_alloc | apply pw_below_drewN | apply below_drew1) | exact HB.out)⟩

-- NOT PRINTED: function 93 (slices_AppendSeq_string_string)

-- NOT PRINTED: function 87 (slices_Collect_string)

/-! ### cmp_isNaN_string: function 112 -/
def cmp_isNaN_string.f (a0 : ByteArray) : Option (Bool) := some (a0.toList != a0.toList)
set_option maxHeartbeats 8000000 in
set_option maxRecDepth 100000 in
theorem cmp_isNaN_string.calls (a0 : ByteArray) (r : Bool) (w : World) (h : cmp_isNaN_string.f a0 = some r) :
    Calls Try.prog 112 #[.string a0] w fun e w' => e = .returned (.bool r) ∧ Drawn0 w w' := by
  have H : (some (a0.toList != a0.toList)) = some r := h
  clear h
  obtain rfl := Option.some.inj H
  go_enter Try.func112, Try.ntmps112
  go_wp2
  go_ret
  exact ⟨by first | rfl | (simp; done) | (simp [*]; done), by repeat (first | exact Drawn0.refl _ | apply Drawn0.step)⟩

/-! ### cmp_Less_string: function 103 -/
def cmp_Less_string.f (a0 : ByteArray) (a1 : ByteArray) : Option (Bool) := (cmp_isNaN_string.f a0).bind fun t125 => (if t125 = true then ((cmp_isNaN_string.f a1).bind fun t126 => (if t126 = true then (some (Op.bytesLess a0.toList a1.toList)) else (some true))) else (some (Op.bytesLess a0.toList a1.toList)))
set_option maxHeartbeats 8000000 in
set_option maxRecDepth 100000 in
theorem cmp_Less_string.calls (a0 : ByteArray) (a1 : ByteArray) (r : Bool) (w : World) (h : cmp_Less_string.f a0 a1 = some r) :
    Calls Try.prog 103 #[.string a0, .string a1] w fun e w' => e = .returned (.bool r) ∧ Drawn0 w w' := by
  have H : ((cmp_isNaN_string.f a0).bind fun t125 => (if t125 = true then ((cmp_isNaN_string.f a1).bind fun t126 => (if t126 = true then (some (Op.bytesLess a0.toList a1.toList)) else (some true))) else (some (Op.bytesLess a0.toList a1.toList)))) = some r := h
  clear h
  replace H := Option.bind_eq_some_iff.mp H
  obtain ⟨t125, A30, H⟩ := H
  replace H : (if t125 = true then ((cmp_isNaN_string.f a1).bind fun t126 => (if t126 = true then (some (Op.bytesLess a0.toList a1.toList)) else (some true))) else (some (Op.bytesLess a0.toList a1.toList))) = some r := H
  have A3 := Aside0.mk A30
  clear A30
  by_cases c4 : t125 = true
  · subst c4
    have H1 : ((cmp_isNaN_string.f a1).bind fun t126 => (if t126 = true then (some (Op.bytesLess a0.toList a1.toList)) else (some true))) = some r := by rw [if_pos rfl] at H; exact H
    clear H
    have H := H1
    clear H1
    replace H := Option.bind_eq_some_iff.mp H
    obtain ⟨t126, A50, H⟩ := H
    replace H : (if t126 = true then (some (Op.bytesLess a0.toList a1.toList)) else (some true)) = some r := H
    have A5 := Aside0.mk A50
    clear A50
    by_cases c6 : t126 = true
    · subst c6
      have H1 : (some (Op.bytesLess a0.toList a1.toList)) = some r := by rw [if_pos rfl] at H; exact H
      clear H
      have H := H1
      clear H1
      obtain rfl := Option.some.inj H
      go_enter Try.func103, Try.ntmps103
      go_wp2_with (first | ((with_reducible refine gate_callee (f := 112) rfl ?_); refine goesL_ (some 6) rfl rfl Try.func112 (by kernel_rfl) rfl #[.string a0] rfl (by (try simp only [List.map_toArray, List.map_cons, List.map_nil]); first | done | rfl | (simp only [List.length_drop, List.length_take]; rfl)) ?_; (with_reducible refine (cmp_isNaN_string.calls a0 true _ A3.out).mono ?_); rintro e w' ⟨rfl, ⟨nd, rfl⟩⟩; refine ⟨_, rfl, ?_⟩) | (go_at_call 112; (with_reducible refine (cmp_isNaN_string.calls a1 true _ A5.out).mono ?_); rintro e w' ⟨rfl, ⟨nd, rfl⟩⟩; (try clear A5)))
      go_ret
      exact ⟨by first | rfl | (simp; done) | (simp [*]; done), by repeat (first | exact Drawn0.refl _ | apply Drawn0.step)⟩
    · replace c6 := Bool.eq_false_iff.mpr c6
      subst c6
      have H1 : (some true) = some r := by rw [if_neg (show ¬ (false = true) by decide)] at H; exact H
      clear H
      have H := H1
      clear H1
      obtain rfl := Option.some.inj H
      go_enter Try.func103, Try.ntmps103
      go_wp2_with (first | ((with_reducible refine gate_callee (f := 112) rfl ?_); refine goesL_ (some 6) rfl rfl Try.func112 (by kernel_rfl) rfl #[.string a0] rfl (by (try simp only [List.map_toArray, List.map_cons, List.map_nil]); first | done | rfl | (simp only [List.length_drop, List.length_take]; rfl)) ?_; (with_reducible refine (cmp_isNaN_string.calls a0 true _ A3.out).mono ?_); rintro e w' ⟨rfl, ⟨nd, rfl⟩⟩; refine ⟨_, rfl, ?_⟩) | (go_at_call 112; (with_reducible refine (cmp_isNaN_string.calls a1 false _ A5.out).mono ?_); rintro e w' ⟨rfl, ⟨nd, rfl⟩⟩; (try clear A5)))
      go_ret
      exact ⟨by first | rfl | (simp; done) | (simp [*]; done), by repeat (first | exact Drawn0.refl _ | apply Drawn0.step)⟩
  · replace c4 := Bool.eq_false_iff.mpr c4
    subst c4
    have H1 : (some (Op.bytesLess a0.toList a1.toList)) = some r := by rw [if_neg (show ¬ (false = true) by decide)] at H; exact H
    clear H
    have H := H1
    clear H1
    obtain rfl := Option.some.inj H
    go_enter Try.func103, Try.ntmps103
    go_wp2_with (first | ((with_reducible refine gate_callee (f := 112) rfl ?_); refine goesL_ (some 6) rfl rfl Try.func112 (by kernel_rfl) rfl #[.string a0] rfl (by (try simp only [List.map_toArray, List.map_cons, List.map_nil]); first | done | rfl | (simp only [List.length_drop, List.length_take]; rfl)) ?_; (with_reducible refine (cmp_isNaN_string.calls a0 false _ A3.out).mono ?_); rintro e w' ⟨rfl, ⟨nd, rfl⟩⟩; refine ⟨_, rfl, ?_⟩))
    go_ret
    exact ⟨by first | rfl | (simp; done) | (simp [*]; done), by repeat (first | exact Drawn0.refl _ | apply Drawn0.step)⟩

-- NOT PRINTED: function 97 (slices_insertionSortOrdered_string)

-- NOT PRINTED: function 107 (slices_siftDownOrdered_string)

-- NOT PRINTED: function 98 (slices_heapSortOrdered_string)

-- NOT PRINTED: function 106 (bits_Len32)

-- NOT PRINTED: function 95 (bits_Len)

-- NOT PRINTED: function 108 (slices_nextPowerOfTwo)

-- NOT PRINTED: function 109 (slices_xorshift_Next)

-- NOT PRINTED: function 99 (slices_breakPatternsOrdered_string)

-- NOT PRINTED: function 113 (slices_order2Ordered_string)

-- NOT PRINTED: function 111 (slices_medianOrdered_string)

-- NOT PRINTED: function 110 (slices_medianAdjacentOrdered_string)

-- NOT PRINTED: function 100 (slices_choosePivotOrdered_string)

-- NOT PRINTED: function 101 (slices_reverseRangeOrdered_string)

-- NOT PRINTED: function 102 (slices_partialInsertionSortOrdered_string)

-- NOT PRINTED: function 104 (slices_partitionEqualOrdered_string)

-- NOT PRINTED: function 105 (slices_partitionOrdered_string)

-- NOT PRINTED: function 94 (slices_pdqsortOrdered_string)

-- NOT PRINTED: function 88 (slices_Sort_string_string)

-- NOT PRINTED: function 72 (slices_Sorted_string)

-- NOT PRINTED: function 73 (maps_Keys_map_string_int64_string_int64)

end Go.Proofs.Ytbbffnlefmogbaa.X
/- The contract of (*tight.row).write: a number's lowest bits behind the others. -/
namespace Go.Proofs.Ytbbffnlefmogbaa.X
open Go.RowKit Go.Proofs.YtbbffnlefmogbaaW.PrintWords Go.Proofs.YtbbffnlefmogbaaW.PrintLast Go.Proofs.YtbbffnlefmogbaaW.PrintMore
set_option linter.unusedVariables false
set_option linter.unusedSimpArgs false
/-- A packed row in memory: its bytes in a row of its own, at which bit it stands, the least number, how wide. -/
def IsP (w0 W : World) (g : Nat) (b : List Int) (at_ : Nat) (low wide : Int) : Prop :=
  ∃ A c, W.heap[g]? = some (.cells #[.slice A b.length c, .int .i64 (at_ : Int), .int .i64 low, .int .i64 wide] 60 (0, 0)) ∧ w0.heap.size ≤ g ∧ Kd.R (Kd.int .u8) 5 W w0.heap.size (fun k => k ≠ g) (.slice A b.length c) b
/-- One bit more. -/
def bitStep (u : Int) (b : List Int) (at_ k : Nat) : List Int :=
  let b1 := if at_ % 8 = 0 then b ++ [0] else b
  b1.set (b1.length - 1) (Go.bits .or .u8 (rd b1 ((b1.length - 1 : Nat) : Int)) (Go.bits .and .u64 (u / 2 ^ min k 64) 1 % 256 * 2 ^ (at_ % 8) % 256))
def bitsGo (u : Int) : Nat → Nat → List Int → Nat → List Int
  | 0, _, b, _ => b
  | d + 1, k, b, at_ => bitsGo u d (k + 1) (bitStep u b at_ k) (at_ + 1)
def tight_row_write.f (b : List Int) (at_ : Nat) (u : Int) (n : Nat) : Option (List Int) :=
  if b.length = (at_ + 7) / 8 ∧ at_ < 1000000000 ∧ n ≤ 64 then some (bitsGo u n 0 b at_) else none
theorem bitStep_len (u : Int) (b : List Int) (at_ k : Nat) (h : b.length = (at_ + 7) / 8) : (bitStep u b at_ k).length = (at_ + 1 + 7) / 8 := by
  unfold bitStep
  simp only [List.length_set]
  split
  · rw [List.length_append, List.length_singleton]; omega
  · omega
theorem lit_u8 (V : World) (base g : Nat) (x : Int) (hg : g = V.heap.size) (hb : base ≤ V.heap.size) : Kd.R (Kd.int .u8) 5 (V.alloc (.cells #[.int .u8 x] 5)) base (fun _ => True) (.slice (some ⟨g, 0, none⟩) 1 1) [x] := by
  subst hg
  refine ⟨fun _ _ => trivial, [.int .u8 x], ?_, ?_⟩
  · have h2 := World.ownsRow_lit (base := base) (e := 5) (size := (Kd.int .u8).sz) V #[.int .u8 x] 1 hb (by decide) rfl
    simpa using h2
  · exact Reps.one (show Kd.M (Kd.int .u8) _ _ _ x [.int .u8 x] from rfl) (Reps.none _ _)
/-- The bytes, with one nought more where the last is full. -/
def opened (b : List Int) (a : Nat) : List Int := if a % 8 = 0 then b ++ [0] else b
set_option maxHeartbeats 8000000 in
set_option maxRecDepth 100000 in
theorem tight_row_write.calls (g : Nat) (b : List Int) (at_ : Nat) (low wide u : Int) (n : Nat) (r : List Int) (w0 w : World) (hI : IsP w0 w g b at_ low wide) (hB : Below w0.heap.size w0 w) (h : tight_row_write.f b at_ u n = some r) :
    Calls Try.prog 75 #[.pointer (some ⟨g, 0, none⟩), .int .u64 u, .int .i64 (n : Int)] w fun e w' => e = .returned (.tuple #[]) ∧ IsP w0 w' g r (at_ + n) low wide ∧ Below w0.heap.size w0 w' := by
  unfold tight_row_write.f at h
  by_cases hf : b.length = (at_ + 7) / 8 ∧ at_ < 1000000000 ∧ n ≤ 64
  case neg => rw [if_neg hf] at h; cases h
  rw [if_pos hf] at h
  obtain rfl := Option.some.inj h
  clear h
  obtain ⟨hl, hat, hn⟩ := hf
  have HL := Aside0.mk hl
  have HAT := Aside0.mk hat
  have HN := Aside0.mk hn
  have HI := Aside0.mk hI
  have HB := Aside0.mk hB
  have hu := Try.underlying58
  clear hl hat hn hI hB
  go_enter Try.func75, Try.ntmps75
  go_wp2_with fail
  go_loopg [8] (n + 1) (fun kq v8 w' => ∃ (j : Nat) (b' : List Int), v8 = .int .i64 (j : Int) ∧ Aside0 (kq + j = n + 1) ∧ Aside0 (j ≤ n) ∧ Aside0 (b'.length = (at_ + j + 7) / 8) ∧ Aside0 (bitsGo u (n - j) j b' (at_ + j) = bitsGo u n 0 b at_) ∧ Aside0 (IsP w0 w' g b' (at_ + j) low wide) ∧ Aside0 (Below w0.heap.size w0 w'))
  case atStart => exact ⟨0, b, rfl, ⟨by omega⟩, ⟨by omega⟩, HL, ⟨rfl⟩, HI, HB⟩
  case round =>
    clear HI HB HL
    obtain ⟨j, b', rfl, HK, HJ, HL, HG, HI, HB⟩ := hrel
    cases gk with
    | zero => have h1 := HK.out; have h2 := HJ.out; omega
    | succ k2 =>
    by_cases hj : j < n
    · have c1 : decide ((j : Int) < (n : Int)) = true := decide_eq_true (by omega)
      have c1b : decide (j < n) = true := decide_eq_true hj
      obtain ⟨a, ha⟩ : ∃ a, at_ + j = a := ⟨_, rfl⟩
      rw [ha] at HL HG HI
      have HA := Aside0.mk ha
      have HAL : Aside0 (a < 1000000064) := ⟨by have h1 := HAT.out; have h2 := HN.out; omega⟩
      have HJN := Aside0.mk hj
      obtain ⟨A, c, hb, hg, hR⟩ := HI.out
      have h0 : wr.cell? ⟨g, 0, none⟩ = some (.slice A b'.length c) := (blk_cell hb 0).trans rfl
      have h1 : wr.cell? ⟨g, 1, none⟩ = some (.int .i64 (a : Int)) := (blk_cell hb 1).trans rfl
      have f0 := blk_frozen hb 0
      have f1 := blk_frozen hb 1
      have HBK := Aside0.mk hb
      have HG0 := Aside0.mk hg
      have HR := Aside0.mk hR
      clear ha hj hb hg hR
      obtain ⟨t8, ht8⟩ : ∃ t : Bool, (Int.tmod (a : Int) 8 == 0) = t := ⟨_, rfl⟩
      have HT8 : Aside0 (a % 8 = 0 ↔ t8 = true) := ⟨by rw [← ht8, beq_iff_eq, Int.tmod_eq_emod_of_nonneg (by omega)]; omega⟩
      go_upto_if 16 with (fail)
      go_cut [] (fun wx => Aside0 (IsP w0 wx g (opened b' a) a low wide) ∧ Aside0 (Below w0.heap.size w0 wx))
      case first =>
        by_cases h8 : a % 8 = 0
        · have e8 : Int.tmod (a : Int) 8 = 0 := by rw [Int.tmod_eq_emod_of_nonneg (by omega)]; omega
          have hgl : g < wr.heap.size := blk_lt HBK.out
          have HGL := Aside0.mk hgl
          clear hgl
          go_wp2_with ((with_reducible refine gate_builtin (b := .append) (xs := #[.tmp 21, .tmp 22]) rfl ?_); at_builtin; refine Kd.R_append_rows (Kd.int .u8) (w0 := w0) w0.heap.size rfl (.tmp 21) (.tmp 22) 24 5 (.int .u8 0) 1 rfl Try.underlying24 info5 rfl (by decide) (by omega) (.slice A b'.length c) b' [0] _ _ _ (fun k => k ≠ g) (fun _ => False) rfl rfl (Kd.R_alloc HR.out _) (Kd.R_reads' (lit_u8 wr 0 wr.heap.size 0 rfl (Nat.zero_le _))).2.2 (fun _ _ h => h) (fun _ h => h.elim) (fun k hk => by have := HGL.out; have h9 : wr.heap.size ≤ k := Nat.le_trans (below_size (below_alloc (Below.refl _ _) _)) hk; omega) (HB.out.alloc (below_size HB.out) _) (Nat.le_trans (below_size HB.out) (below_size (below_alloc (Below.refl _ _) _))) (by have h9 := HL.out; have h8 := HAL.out; omega) ?_; intro v23 w5 ho hb hg hat; obtain ⟨A5, c5, e5⟩ := Kd.R_slice ho; subst e5; have HO5 := Aside0.mk ho; have HB5 := Aside0.mk hb; have HK5 := Aside0.mk (blk_grown (blk_alloc HBK.out _) hg (fun he => HR.out.1 g he.symm rfl)); have h0 : w5.cell? ⟨g, 0, none⟩ = some (.slice A b'.length c) := (blk_cell HK5.out 0).trans rfl; have f0 := blk_frozen HK5.out 0; clear ho hb hg hat)
          go_meet
          case rel =>
            have ho : opened b' a = b' ++ [0] := by unfold opened; rw [if_pos h8]
            have hl9 : (b' ++ [0]).length = b'.length + 1 := by simp
            have h2 := blk_set HK5.out 0 (.slice A5 (b'.length + 1) c5)
            refine ⟨⟨⟨A5, c5, ?_, HG0.out, ?_⟩⟩, ⟨below_set HB5.out HG0.out⟩⟩
            · rw [ho, hl9]; simpa using h2
            · rw [ho]; exact Kd.R_far HO5.out (fun k hk => hk) _
        · have e8 : ¬ Int.tmod (a : Int) 8 = 0 := by rw [Int.tmod_eq_emod_of_nonneg (by omega)]; omega
          have ht : t8 = false := by
            cases t8 with
            | false => rfl
            | true => exact absurd (HT8.out.mpr rfl) h8
          subst ht
          go_wp2_with fail
          go_meet
          case rel =>
            have ho : opened b' a = b' := by unfold opened; rw [if_neg h8]
            exact ⟨⟨by rw [ho]; exact ⟨A, c, HBK.out, HG0.out, HR.out⟩⟩, HB⟩
      case rest =>
        obtain ⟨HI1, HB1⟩ := hcut
        clear HR HBK h0 h1 f0 f1 HG0 HI HB ht8 HT8
        obtain ⟨b1, hb1⟩ : ∃ b1, opened b' a = b1 := ⟨_, rfl⟩
        rw [hb1] at HI1
        have HLB : Aside0 (b1.length = a / 8 + 1) := ⟨by
          have h1 := HL.out
          rw [← hb1]; unfold opened
          split
          · rw [List.length_append, List.length_singleton]; omega
          · omega⟩
        have HB1E := Aside0.mk hb1
        clear hb1
        obtain ⟨A, c, hb, hg, hR⟩ := HI1.out
        have hlp : 0 < b1.length := by have := HLB.out; omega
        obtain ⟨gb, cp, ev, hgb1, hgb2, cells, hcl⟩ := Kd.R_form hR hlp
        injection ev with ev1 _ ev3
        subst ev1 ev3
        obtain ⟨ad, ea, hy0⟩ := Kd.at_int (Kd.R_reads' hR).2.2 ((b1.length - 1 : Nat) : Int) (by omega) (by omega)
        injection ea with ea
        subst ea
        rw [Int.toNat_natCast] at hy0
        have eadd : (⟨gb, 0, none⟩ : Addr).add (b1.length - 1) = ⟨gb, b1.length - 1, none⟩ := by unfold Addr.add; split <;> simp_all
        rw [eadd] at hy0
        obtain ⟨y, hy⟩ : ∃ y, rd b1 ((b1.length - 1 : Nat) : Int) = y := ⟨_, rfl⟩
        rw [hy] at hy0
        have hne : gb ≠ g := hR.1 gb rfl
        have HNE := Aside0.mk hne
        have h0 : wc.cell? ⟨g, 0, none⟩ = some (.slice (some ⟨gb, 0, none⟩) b1.length c) := (blk_cell hb 0).trans rfl
        have h1 : wc.cell? ⟨g, 1, none⟩ = some (.int .i64 (a : Int)) := (blk_cell hb 1).trans rfl
        have f0 := blk_frozen hb 0
        have f1 := blk_frozen hb 1
        have fy := blk_frozen hcl (b1.length - 1)
        have HBK := Aside0.mk hb
        have HG0 := Aside0.mk hg
        have HR := Aside0.mk hR
        have HY := Aside0.mk hy
        clear hb hg hR hy hcl eadd
        have hlp1 : (1 : Int) ≤ (b1.length : Int) := by omega
        have hlb : (b1.length : Int) ≤ 1000000000 := by have h2 := HLB.out; have h3 := HAL.out; omega
        go_wp2_with fail
        go_region
        go_wp2_with fail
        obtain ⟨v, hv⟩ : ∃ v, Go.bits .or .u8 y (Go.bits .and .u64 (u / 2 ^ min j 64) 1 % 256 * 2 ^ (a % 8) % 256) = v := ⟨_, rfl⟩
        rw [hv]
        have hw1 : wrap64 ((a : Int) + 1) = ((a + 1 : Nat) : Int) := by have h2 := HAL.out; unfold wrap64; omega
        have hw2 : wrap64 ((j : Int) + 1) = ((j + 1 : Nat) : Int) := by have h2 := HN.out; have h3 := HJN.out; unfold wrap64; omega
        rw [hw1, hw2]
        have hstep : b1.set (b1.length - 1) v = bitStep u b' a j := by
          have h2 := HB1E.out
          unfold opened at h2
          unfold bitStep
          simp only [h2]
          rw [HY.out, hv]
        have hb2 : ((wc.setCell ⟨gb, b1.length - 1, none⟩ (.int .u8 v)).setCell ⟨g, 1, none⟩ (.int .i64 ((a + 1 : Nat) : Int))).heap[g]? = some (.cells #[.slice (some ⟨gb, 0, none⟩) b1.length c, .int .i64 ((a + 1 : Nat) : Int), .int .i64 low, .int .i64 wide] 60 (0, 0)) := by
          have h2 := blk_set ((Below.heap_setCell wc ⟨gb, b1.length - 1, none⟩ (.int .u8 v) g (Ne.symm HNE.out)).trans HBK.out) 1 (.int .i64 ((a + 1 : Nat) : Int))
          simpa using h2
        have hr2 : Kd.R (Kd.int .u8) 5 ((wc.setCell ⟨gb, b1.length - 1, none⟩ (.int .u8 v)).setCell ⟨g, 1, none⟩ (.int .i64 ((a + 1 : Nat) : Int))) w0.heap.size (fun k => k ≠ g) (.slice (some ⟨gb, 0, none⟩) b1.length c) (b1.set (b1.length - 1) v) := by
          have h2 := (Kd.R_putg HR.out ((b1.length - 1 : Nat) : Int) v).1
          rw [Int.toNat_natCast] at h2
          exact Kd.R_far h2 (fun k hk => hk) _
        have hI2 : IsP w0 ((wc.setCell ⟨gb, b1.length - 1, none⟩ (.int .u8 v)).setCell ⟨g, 1, none⟩ (.int .i64 ((a + 1 : Nat) : Int))).drew g (bitStep u b' a j) (a + 1) low wide := by
          rw [← hstep]
          refine ⟨some ⟨gb, 0, none⟩, c, ?_, HG0.out, ?_⟩
          · rw [List.length_set]; exact blk_drew hb2
          · rw [List.length_set]; exact Kd.R_drew hr2
        have hB2 := below_drew (below_set (below_set HB1.out (g := gb) (j := b1.length - 1) (v := .int .u8 v) hgb1) (g := g) (j := 1) (v := .int .i64 ((a + 1 : Nat) : Int)) HG0.out)
        have HI2 := Aside0.mk hI2
        have HB2 := Aside0.mk hB2
        have HST := Aside0.mk (bitStep_len u b' a j HL.out)
        have HGO : Aside0 (bitsGo u (n - (j + 1)) (j + 1) (bitStep u b' a j) (at_ + (j + 1)) = bitsGo u n 0 b at_) := ⟨by
          have h2 := HG.out
          have h3 : n - j = (n - (j + 1)) + 1 := by have := HJN.out; omega
          rw [h3, bitsGo] at h2
          rw [show at_ + (j + 1) = a + 1 by have := HA.out; omega]
          exact h2⟩
        clear hv hstep hb2 hr2 hI2 hB2 hw1 hw2 hy0 fy h0 h1 f0 f1 hne
        go_roundg k2
        case measure => omega
        case rel => exact ⟨j + 1, bitStep u b' a j, rfl, ⟨by have := HK.out; omega⟩, ⟨by have := HJN.out; omega⟩, ⟨by have h2 := HST.out; have h3 := HA.out; omega⟩, HGO, ⟨by have h2 := HI2.out; rw [show at_ + (j + 1) = a + 1 by have := HA.out; omega]; exact h2⟩, HB2⟩
    · have hje : j = n := by have := HJ.out; omega
      have c1 : decide ((j : Int) < (n : Int)) = false := decide_eq_false (by omega)
      have c1b : decide (j < n) = false := decide_eq_false hj
      have HR : Aside0 (IsP w0 wr g (bitsGo u n 0 b at_) (at_ + n) low wide) := ⟨by
        have h1 := HG.out
        rw [hje, Nat.sub_self, bitsGo] at h1
        rw [← h1, ← hje]; exact HI.out⟩
      clear hj hje
      go_wp2_with fail
      go_end0
      exact ⟨rfl, HR.out, HB.out⟩
end Go.Proofs.Ytbbffnlefmogbaa.X
/- The contract of (*tight.packed).add: a number behind the others. -/
namespace Go.Proofs.Ytbbffnlefmogbaa.X
open Go.RowKit Go.Proofs.YtbbffnlefmogbaaW.PrintWords Go.Proofs.YtbbffnlefmogbaaW.PrintLast Go.Proofs.YtbbffnlefmogbaaW.PrintMore
set_option linter.unusedVariables false
set_option linter.unusedSimpArgs false
/-- A number above a least one, in 64 bits. -/
def above (x low : Int) : Int := IntKind.u64.wrap (IntKind.u64.wrap x - IntKind.u64.wrap low)
theorem IsP.drew {w0 W : World} {g : Nat} {b : List Int} {at_ : Nat} {low wide : Int} (h : IsP w0 W g b at_ low wide) : IsP w0 W.drew g b at_ low wide := by
  obtain ⟨A, c, h1, h2, h3⟩ := h
  exact ⟨A, c, blk_drew h1, h2, Kd.R_drew h3⟩
set_option maxHeartbeats 8000000 in
set_option maxRecDepth 100000 in
theorem tight_packed_add.calls (g : Nat) (b : List Int) (at_ : Nat) (low : Int) (n : Nat) (x : Int) (r : List Int) (w0 w : World) (hI : IsP w0 w g b at_ low (n : Int)) (hB : Below w0.heap.size w0 w) (h : tight_row_write.f b at_ (above x low) n = some r) :
    Calls Try.prog 44 #[.pointer (some ⟨g, 0, none⟩), .int .i64 x] w fun e w' => e = .returned (.tuple #[]) ∧ IsP w0 w' g r (at_ + n) low (n : Int) ∧ Below w0.heap.size w0 w' := by
  have HI := Aside0.mk hI
  have HB := Aside0.mk hB
  have HH := Aside0.mk h
  obtain ⟨A, c, hb, hg, hR⟩ := hI
  have h2 : w.cell? ⟨g, 2, none⟩ = some (.int .i64 low) := (blk_cell hb 2).trans rfl
  have h3 : w.cell? ⟨g, 3, none⟩ = some (.int .i64 (n : Int)) := (blk_cell hb 3).trans rfl
  have hu := Try.underlying60
  clear hb hg hR hB h
  go_enter Try.func44, Try.ntmps44
  go_still_tail 15, (by kernel_rfl)
  change wpList _ _ _ _ _ w.drew
  have HI2 := Aside0.mk (IsP.drew HI.out)
  have HB2 := Aside0.mk (below_drew HB.out)
  clear HI HB h2 h3
  generalize w.drew = w5 at HI2 HB2 ⊢
  go_wp2_with fail
  refine (tight_row_write.calls g b at_ low (n : Int) (above x low) n r w0 _ HI2.out HB2.out HH.out).mono ?_
  rintro e w6 ⟨rfl, i6, b6⟩
  go_wp2_with fail
  go_end0
  exact ⟨rfl, i6, b6⟩
end Go.Proofs.Ytbbffnlefmogbaa.X
/- The contract of slices.Concat at []byte: the parts' bytes, one behind the other, in memory of their own. -/
namespace Go.Proofs.Ytbbffnlefmogbaa.X
open Go.RowKit Go.Proofs.YtbbffnlefmogbaaW.PrintWords Go.Proofs.YtbbffnlefmogbaaW.PrintLast Go.Proofs.YtbbffnlefmogbaaW.PrintMore
set_option linter.unusedVariables false
set_option linter.unusedSimpArgs false
def slices_Concat_byte.f (l0 : List (List Int)) : Option (List Int) := if l0.flatten.length < 140737488355328 then some l0.flatten else none
theorem concat_take (l0 : List (List Int)) (i : Nat) (h : i < l0.length) : (l0.take (i + 1)).flatten = (l0.take i).flatten ++ l0[i] := by
  rw [List.take_succ_eq_append_getElem h, List.flatten_append, List.flatten_singleton]
theorem concat_le (l0 : List (List Int)) (i : Nat) : (l0.take i).flatten.length ≤ l0.flatten.length := by
  conv => rhs; rw [← List.take_append_drop i l0, List.flatten_append, List.length_append]
  omega
set_option maxHeartbeats 8000000 in
set_option maxRecDepth 1000000 in
theorem slices_Grow_nil (n : Nat) (hn : n < 140737488355328) (w : World) :
    Calls Try.prog 76 #[.slice none 0 0, .int .i64 (n : Int)] w fun e w' => ∃ v0_ : Value, e = .returned v0_ ∧ Kd.R (Kd.int .u8) 5 w' w.heap.size (fun _ => True) v0_ ([] : List Int) ∧ Below w.heap.size w w' := by
  have hb0 : decide ((n : Int) < 0) = false := decide_eq_false (by omega)
  by_cases h0 : 0 < n
  · have hb1 : decide ((0 : Int) < (n : Int)) = true := decide_eq_true (by omega)
    have hb2 : decide (0 < n) = true := decide_eq_true h0
    go_enter Try.func76, Try.ntmps76
    obtain ⟨i5, hi5, hsz5⟩ : ∃ i, Try.prog.info? 5 = some i ∧ i.size = (Kd.int .u8).sz := by
      obtain ⟨i, hi, hz⟩ := Option.map_eq_some_iff.1 info5
      simp only [Prod.mk.injEq] at hz
      exact ⟨i, hi, hz.2.1⟩
    go_wp2_with ((with_reducible refine gate_builtin (b := .append) (xs := #[.tmp 20, .tmp 21]) rfl ?_); at_builtin; refine Kd.R_append_zeros (Kd.int .u8) (w0 := w) w.heap.size rfl (.tmp 20) (.tmp 21) 24 3 5 (.int .u8 0) 1 rfl Try.underlying24 Try.underlying3 info5 rfl (by decide) (by omega) (.slice none 0 0) [] (0 : Int) (n : Int) (fun _ => True) rfl rfl rfl (fun _ _ => trivial) (Kd.R_nil _ _ _ _ _) (by omega) (Below.refl _ _) (Nat.le_refl _) (by simp; omega) ?_; intro v1 w1 ho hb hg hat; obtain ⟨A1, c1, rfl⟩ := Kd.R_slice ho; have HO := Aside0.mk ho; have HB := Aside0.mk hb; have hcut := cut_to (P := Try.prog) 24 5 .i64 Try.underlying24 hi5 A1 ([] ++ List.replicate (n : Int).toNat (0 : Int)).length c1 0 (by omega) (by omega) (Kd.R_reads' ho).2.1; clear ho hb hg hat)
    go_ret
    exact ⟨_, rfl, by have := Kd.R_take (m := 0) HO.out (Nat.zero_le _); rwa [List.take_zero] at this, HB.out⟩
  · obtain rfl : n = 0 := by omega
    go_enter Try.func76, Try.ntmps76
    go_wp2_with fail
    go_ret
    exact ⟨_, rfl, Kd.R_nil _ _ _ _ _, Below.refl _ _⟩
set_option maxHeartbeats 8000000 in
set_option maxRecDepth 1000000 in
theorem slices_Concat_byte.calls (A0 : Option Addr) (c0 : Nat) (l0 : List (List Int)) (r : List Int) (w : World) (hr0 : Kd.C (Kd.slice 5 (Kd.int .u8)) w A0 l0.length l0) (hc0 : l0.length ≤ c0) (h : slices_Concat_byte.f l0 = some r) :
    Calls Try.prog 45 #[.slice A0 l0.length c0] w fun e w' => ∃ v0_ : Value, e = .returned v0_ ∧ Kd.R (Kd.int .u8) 5 w' w.heap.size (fun _ => True) v0_ r ∧ Below w.heap.size w w' := by
  unfold slices_Concat_byte.f at h
  by_cases hf : l0.flatten.length < 140737488355328
  case neg => rw [if_neg hf] at h; cases h
  rw [if_pos hf] at h
  obtain rfl := Option.some.inj h
  clear h
  have hmax := Kd.C_max hr0
  have HR0 := Aside0.mk hr0
  have HLEN := Aside0.mk hf
  clear hr0 hf
  have HC : Aside0 (∀ i : Nat, (hi : i < l0.length) → ∃ (ad : Addr) (Ai : Option Addr) (ci : Nat), A0 = some ad ∧ w.cell? (ad.add i) = some (.slice Ai (l0[i]).length ci) ∧ (Kd.int .u8).C w Ai (l0[i]).length (l0[i])) := ⟨fun i hi => by
    obtain ⟨ad', Ai, ci, e, hc, _, hC⟩ := Mem.at_row HR0.out i hi
    exact ⟨ad', Ai, ci, e, hc, hC⟩⟩
  go_enter Try.func45, Try.ntmps45
  go_wp2_with fail
  go_loopg [3, 11] l0.length (fun g s3 s11 wr => w = wr ∧ ∃ i : Nat, i ≤ l0.length ∧ g = l0.length - i ∧ s11 = .int .i64 i ∧ s3 = .int .i64 (((l0.take i).flatten.length : Nat) : Int))
  case atStart => exact ⟨rfl, 0, Nat.zero_le _, rfl, rfl, rfl⟩
  case round =>
    obtain ⟨rfl, i, hi, rfl, rfl, rfl⟩ := hrel
    by_cases hlt : i < l0.length
    · obtain ⟨ad, Ai, ci, rfl, hcell, _⟩ := HC.out i hlt
      have hs1 : (l0.take (i + 1)).flatten.length = (l0.take i).flatten.length + (l0[i]).length := by rw [concat_take l0 i hlt, List.length_append]
      have hs2 := concat_le l0 (i + 1)
      have hL := HLEN.out
      generalize (l0.take i).flatten.length = acc at hs1 ⊢
      generalize (l0[i]).length = m at hs1 hcell
      have hb : decide (((acc : Nat) : Int) + (m : Int) < 0) = false := decide_eq_false (by omega)
      go_wp2_with fail
      go_roundg (l0.length - (i + 1))
      case measure => omega
      case rel => exact ⟨rfl, i + 1, by omega, rfl, by go_num, by rw [hs1]; go_num⟩
    · obtain rfl : i = l0.length := by omega
      rw [List.take_length]
      have hL := HLEN.out
      generalize l0.flatten.length = T at hL ⊢
      go_wp2_with fail
      refine (slices_Grow_nil T hL _).mono ?_
      rintro e w1 ⟨v1, rfl, R1, b1⟩
      have HR1 := Aside0.mk R1
      have HB1 := Aside0.mk b1
      clear R1 b1
      go_wp2_with fail
      go_loopg [6, 27] l0.length (fun g s6 s27 wr => ∃ i : Nat, i ≤ l0.length ∧ g = l0.length - i ∧ s27 = .int .i64 i ∧ Aside0 (Kd.R (Kd.int .u8) 5 wr w.heap.size (fun _ => True) s6 (l0.take i).flatten) ∧ Aside0 (Below w.heap.size w wr))
      case atStart => exact ⟨0, Nat.zero_le _, rfl, rfl, HR1, HB1⟩
      case round =>
        clear HR1 HB1
        obtain ⟨i, hi2, rfl, rfl, HO, HB⟩ := hrel
        by_cases hlt2 : i < l0.length
        · obtain ⟨ad, Ai, ci, rfl, hcell, hC⟩ := HC.out i hlt2
          have hcell2 := (HB.out.cell (World.block_lt_of_cell? w _ hcell)).trans hcell
          have HCi := Aside0.mk (Kd.C_below hC HB.out)
          have hs1 := concat_take l0 i hlt2
          have hs2 := concat_le l0 (i + 1)
          rw [hs1, List.length_append] at hs2
          have HS1 := Aside0.mk hs1
          have HS2 := Aside0.mk hs2
          clear hcell hC hs1 hs2
          go_wp2_with ((with_reducible refine gate_builtin (b := .append) (xs := #[.tmp 31, .tmp 32]) rfl ?_); at_builtin; refine Kd.R_append_rows (Kd.int .u8) (w0 := w) w.heap.size rfl (.tmp 31) (.tmp 32) 24 5 (.int .u8 0) 1 rfl Try.underlying24 info5 rfl (by decide) (by omega) u6 (l0.take i).flatten (l0[i]) _ _ _ (fun _ => True) (fun _ => False) rfl rfl HO.out HCi.out (fun _ _ h => h) (fun _ h => h.elim) (fun _ _ => trivial) HB.out (below_size HB.out) (by have := HS2.out; have := HLEN.out; omega) ?_; intro v4 w4 ho hb hg hat; have HO4 := Aside0.mk ho; have HB4 := Aside0.mk hb; clear HO HB ho hb hg hat)
          go_roundg (l0.length - (i + 1))
          case measure => omega
          case rel => exact ⟨i + 1, by omega, rfl, by go_num, ⟨by rw [HS1.out]; exact HO4.out⟩, HB4⟩
        · obtain rfl : i = l0.length := by omega
          have hO := HO.out
          rw [List.take_length] at hO
          have HO2 := Aside0.mk hO
          clear hO HO
          go_wp2_with fail
          go_ret
          exact ⟨_, rfl, HO2.out, HB.out⟩
end Go.Proofs.Ytbbffnlefmogbaa.X
/- The contract of tight.Put: numbers in as few bits as can be. -/
namespace Go.Proofs.Ytbbffnlefmogbaa.X
open Go.RowKit Go.Proofs.YtbbffnlefmogbaaW.PrintWords Go.Proofs.YtbbffnlefmogbaaW.PrintLast Go.Proofs.YtbbffnlefmogbaaW.PrintMore
set_option linter.unusedVariables false
set_option linter.unusedSimpArgs false
/-- All numbers, one behind the other. -/
def putGo (low : Int) (n : Nat) : List Int → List Int → Nat → List Int
  | [], b, _ => b
  | x :: l, b, at_ => putGo low n l (bitsGo (above x low) n 0 b at_) (at_ + n)
theorem bitsGo_len (u : Int) : ∀ (d k : Nat) (b : List Int) (a : Nat), b.length = (a + 7) / 8 → (bitsGo u d k b a).length = (a + d + 7) / 8
  | 0, _, b, a, h => by rw [bitsGo, h, Nat.add_zero]
  | d + 1, k, b, a, h => by rw [bitsGo, bitsGo_len u d (k + 1) _ (a + 1) (bitStep_len u b a k h), show a + 1 + d = a + (d + 1) by omega]
def tight_Put.f (k : Nat) (l0 : List Int) : Option (List Int) :=
  if l0 = [] then some [] else (slices_Min_int64_int64.f k l0).bind fun lo => (slices_Max_int64_int64.f k l0).bind fun hi => (bits_Len64.f (above hi lo)).bind fun n => (vint_Int.f k lo).bind fun v =>
    if l0.length < 1000000 ∧ 0 ≤ n ∧ n ≤ 64 then slices_Concat_byte.f [v, [IntKind.u8.wrap n], putGo lo n.toNat l0 [] 0] else none
theorem tight_Put.mono : ∀ a0 k, LeO (tight_Put.f k a0) (tight_Put.f (k + 1) a0) := by
  intro a0 k
  unfold tight_Put.f
  repeat' first
      | (with_reducible exact slices_Min_int64_int64.mono _ _)
      | (with_reducible exact slices_Max_int64_int64.mono _ _)
      | (with_reducible exact vint_Int.mono _ _)
      | (with_reducible exact LeO.refl _)
      | (with_reducible exact LeO.none _)
      | (with_reducible refine LeO.ite ?_ ?_)
      | (with_reducible refine LeO.bind ?_ (fun _ => ?_))
theorem IsP.new (w0 w : World) (low wide : Int) (hB : Below w0.heap.size w0 w) : IsP w0 (w.alloc (.cells #[.slice none 0 0, .int .i64 0, .int .i64 low, .int .i64 wide] 60)) w.heap.size [] 0 low wide :=
  ⟨none, 0, Mem.alloc_new _ _, below_size hB, Kd.R_nil _ _ _ _ _⟩
theorem IsP.low {w0 w1 W : World} {g : Nat} {b : List Int} {at_ : Nat} {low wide : Int} (h : IsP w1 W g b at_ low wide) (hs : w0.heap.size ≤ w1.heap.size) : IsP w0 W g b at_ low wide := by
  obtain ⟨A, c, h1, h2, h3⟩ := h
  exact ⟨A, c, h1, Nat.le_trans hs h2, Kd.R_lower h3 hs⟩
theorem three_rows {W : World} {A0 A1 A2 : Option Addr} {c0 c1 c2 G : Nat} {x z : List Int} {q : Int} (hG : G = W.heap.size) (h0 : x.length ≤ c0) (C0 : Kd.C (Kd.int .u8) W A0 x.length x) (h1 : 1 ≤ c1) (C1 : Kd.C (Kd.int .u8) W A1 1 [q]) (h2 : z.length ≤ c2) (C2 : Kd.C (Kd.int .u8) W A2 z.length z) :
    Kd.C (Kd.slice 5 (Kd.int .u8)) (W.alloc (.cells #[.slice A0 x.length c0, .slice A1 1 c1, .slice A2 z.length c2] 24)) (some ⟨G, 0, none⟩) 3 [x, [q], z] := by
  subst hG
  refine Mem.C_rows (xs := [x, [q], z]) (Mem.alloc_new _ _) (by simp) (fun i hi => ?_)
  match i, hi with
  | 0, _ => exact ⟨A0, c0, rfl, h0, Kd.C_alloc C0 _⟩
  | 1, _ => exact ⟨A1, c1, rfl, h1, Kd.C_alloc C1 _⟩
  | 2, _ => exact ⟨A2, c2, rfl, h2, Kd.C_alloc C2 _⟩
set_option maxHeartbeats 8000000 in
set_option maxRecDepth 1000000 in
theorem tight_Put.calls (k : Nat) (A0 : Option Addr) (c0 : Nat) (l0 : List Int) (r : List Int) (w : World) (hr0 : Kd.C (Kd.int .i64) w A0 l0.length l0) (hc0 : l0.length ≤ c0) (h : tight_Put.f k l0 = some r) :
    Calls Try.prog 11 #[.slice A0 l0.length c0] w fun e w' => ∃ v0_ : Value, e = .returned v0_ ∧ Kd.R (Kd.int .u8) 5 w' w.heap.size (fun _ => True) v0_ r ∧ Below w.heap.size w w' := by
  unfold tight_Put.f at h
  have HR0 := Aside0.mk hr0
  clear hr0
  by_cases hz : l0 = []
  · rw [if_pos hz] at h
    obtain rfl := Option.some.inj h
    subst hz
    go_enter Try.func11, Try.ntmps11
    go_wp2_with fail
    go_ret
    exact ⟨_, rfl, Kd.R_nil _ _ _ _ _, Below.refl _ _⟩
  rw [if_neg hz] at h
  obtain ⟨lo, e1, h⟩ := Option.bind_eq_some_iff.mp h
  obtain ⟨hi, e2, h⟩ := Option.bind_eq_some_iff.mp h
  obtain ⟨n0, e3, h⟩ := Option.bind_eq_some_iff.mp h
  obtain ⟨v, e4, h⟩ := Option.bind_eq_some_iff.mp h
  by_cases hg : l0.length < 1000000 ∧ 0 ≤ n0 ∧ n0 ≤ 64
  case neg => rw [if_neg hg] at h; cases h
  rw [if_pos hg] at h
  obtain ⟨n, rfl⟩ : ∃ n : Nat, n0 = (n : Int) := ⟨n0.toNat, by omega⟩
  rw [Int.toNat_natCast] at h
  have HH := Aside0.mk h
  have E1 := Aside0.mk e1
  have E2 := Aside0.mk e2
  have E3 := Aside0.mk e3
  have E4 := Aside0.mk e4
  have HG := Aside0.mk hg
  have hlz : 0 < l0.length := List.length_pos_iff.mpr hz
  have c1 : ((l0.length : Int) == 0) = false := beq_eq_false_iff_ne.mpr (by omega)
  have c1b : (l0.length == 0) = false := beq_eq_false_iff_ne.mpr (by omega)
  have c1c : decide (l0 = []) = false := decide_eq_false hz
  have HLZ := Aside0.mk hlz
  clear hz h e1 e2 e3 e4 hg hlz
  go_enter Try.func11, Try.ntmps11
  go_wp2_with fail
  refine (slices_Min_int64_int64.calls k A0 c0 l0 lo w HR0.out hc0 E1.out).mono ?_
  rintro e w1 ⟨rfl, B1⟩
  have HB1 := Aside0.mk B1
  have HR1 := Aside0.mk (Kd.C_below HR0.out B1)
  clear B1
  go_wp2_with fail
  refine (slices_Max_int64_int64.calls k A0 c0 l0 hi w1 HR1.out hc0 E2.out).mono ?_
  rintro e w2 ⟨rfl, B2⟩
  have HB2 := Aside0.mk (below_step HB1.out B2)
  have HR2 := Aside0.mk (Kd.C_below HR1.out B2)
  clear B2 HR1 HB1
  go_wp2_with fail
  refine (bits_Len64.calls (above hi lo) (n : Int) w2 E3.out).mono ?_
  rintro e w3 ⟨rfl, D3⟩
  obtain ⟨nd, rfl⟩ := D3
  have HB3 := Aside0.mk (pw_below_drewN HB2.out nd)
  have HR3 := Aside0.mk (Kd.C_drewN HR2.out nd)
  clear HB2 HR2
  generalize w2.drewN nd = w3 at HB3 HR3 ⊢
  have HI3 := Aside0.mk (IsP.new w w3 lo (n : Int) HB3.out)
  have HB4 := Aside0.mk (below_alloc HB3.out (.cells #[.slice none 0 0, .int .i64 0, .int .i64 lo, .int .i64 (n : Int)] 60))
  have HR4 := Aside0.mk (Kd.C_alloc HR3.out (.cells #[.slice none 0 0, .int .i64 0, .int .i64 lo, .int .i64 (n : Int)] 60))
  go_wp2_with fail
  obtain ⟨g, hg⟩ : ∃ g, w3.heap.size = g := ⟨_, rfl⟩
  rw [hg] at HI3 ⊢
  have HGE : Aside0 (w.heap.size ≤ g) := ⟨by rw [← hg]; exact below_size HB3.out⟩
  clear HB3 HR3 HR4 hg
  generalize w3.alloc (.cells #[.slice none 0 0, .int .i64 0, .int .i64 lo, .int .i64 (n : Int)] 60) = w4 at HI3 HB4 ⊢
  go_loopg [26] (l0.length + 1) (fun kq v26 w' => ∃ (i : Nat) (b : List Int), v26 = .int .i64 (i : Int) ∧ Aside0 (kq + i = l0.length + 1) ∧ Aside0 (i ≤ l0.length) ∧ Aside0 (b.length = (i * n + 7) / 8) ∧ Aside0 (putGo lo n (l0.drop i) b (i * n) = putGo lo n l0 [] 0) ∧ Aside0 (IsP w w' g b (i * n) lo (n : Int)) ∧ Aside0 (Below w.heap.size w w'))
  case atStart => exact ⟨0, [], rfl, ⟨by omega⟩, ⟨by omega⟩, ⟨by simp⟩, ⟨by simp⟩, ⟨by rw [Nat.zero_mul]; exact HI3.out⟩, HB4⟩
  case round =>
    clear HI3 HB4
    obtain ⟨i, b, rfl, HK, HI, HL, HP, HIS, HB⟩ := hrel
    cases gk with
    | zero => have h1 := HK.out; have h2 := HI.out; omega
    | succ k2 =>
    by_cases hi' : i < l0.length
    · have d1 : decide ((i : Int) < (l0.length : Int)) = true := decide_eq_true (by omega)
      have d1b : decide (i < l0.length) = true := decide_eq_true hi'
      have hi0 : (0 : Int) ≤ (i : Int) := Int.natCast_nonneg _
      have hi1 : (i : Int) < (l0.length : Int) := by omega
      obtain ⟨ad, ea, hx0⟩ := Kd.at_int (Kd.C_below HR0.out HB.out) (i : Int) hi0 hi1
      subst ea
      rw [Int.toNat_natCast] at hx0
      obtain ⟨x, hx⟩ : ∃ x, rd l0 (i : Int) = x := ⟨_, rfl⟩
      rw [hx] at hx0
      have hex : l0.drop i = x :: l0.drop (i + 1) := by
        rw [List.drop_eq_getElem_cons hi', ← hx]; unfold rd; simp [hi']
      have HX := Aside0.mk hex
      have HIL := Aside0.mk hi'
      have HBN : Aside0 (i * n ≤ 64000000) := ⟨by have h1 := HG.out; exact Nat.le_trans (Nat.mul_le_mul (show i ≤ 1000000 by omega) (show n ≤ 64 by omega)) (by decide)⟩
      clear hi' hx hex
      go_wp2_with fail
      refine (tight_packed_add.calls g b (i * n) lo n x (bitsGo (above x lo) n 0 b (i * n)) w _ HIS.out HB.out (by unfold tight_row_write.f; rw [if_pos ⟨HL.out, by have := HBN.out; omega, by have := HG.out; omega⟩])).mono ?_
      rintro e w6 ⟨rfl, i6, b6⟩
      have HI6 := Aside0.mk i6
      have HB6 := Aside0.mk b6
      have HW : Aside0 (wrap64 ((i : Int) + 1) = ((i + 1 : Nat) : Int)) := ⟨by have h1 := HG.out; have h2 := HIL.out; unfold wrap64; omega⟩
      have HL6 : Aside0 ((bitsGo (above x lo) n 0 b (i * n)).length = ((i + 1) * n + 7) / 8) := ⟨by rw [bitsGo_len _ _ _ _ _ HL.out, Nat.succ_mul]⟩
      have HP6 : Aside0 (putGo lo n (l0.drop (i + 1)) (bitsGo (above x lo) n 0 b (i * n)) ((i + 1) * n) = putGo lo n l0 [] 0) := ⟨by
        have h1 := HP.out
        rw [HX.out, putGo] at h1
        rw [Nat.succ_mul]; exact h1⟩
      clear i6 b6 HIS HB HL HP hx0
      go_wp2_with fail
      rw [HW.out]
      go_roundg k2
      case measure => omega
      case rel => exact ⟨i + 1, _, rfl, ⟨by have := HK.out; omega⟩, ⟨by have := HIL.out; omega⟩, HL6, HP6, ⟨by rw [Nat.succ_mul]; exact HI6.out⟩, HB6⟩
    · have hie : i = l0.length := by have := HI.out; omega
      have d1 : decide ((i : Int) < (l0.length : Int)) = false := decide_eq_false (by omega)
      have d1b : decide (i < l0.length) = false := decide_eq_false hi'
      have hbe : b = putGo lo n l0 [] 0 := by
        have h1 := HP.out
        rw [hie, List.drop_length, putGo] at h1
        exact h1
      obtain ⟨A, c, hb, hg, hR⟩ := HIS.out
      have h0 : wr.cell? ⟨g, 0, none⟩ = some (.slice A b.length c) := (blk_cell hb 0).trans rfl
      have h3 : wr.cell? ⟨g, 3, none⟩ = some (.int .i64 (n : Int)) := (blk_cell hb 3).trans rfl
      have HBE := Aside0.mk hbe
      have HBK := Aside0.mk hb
      have HRB := Aside0.mk hR
      clear hi' hie hbe hb hg hR
      go_wp2_with fail
      have HHB : Aside0 (slices_Concat_byte.f [v, [IntKind.u8.wrap (n : Int)], b] = some r) := ⟨by rw [HBE.out]; exact HH.out⟩
      have HB0 := Aside0.mk (Below.refl wr.heap.size wr)
      have HCB := Aside0.mk (Kd.R_reads' HRB.out).2.2
      have HCC := Aside0.mk (Kd.R_reads' HRB.out).2.1
      go_region_held3 (fun w' => w'.cell? ⟨g, 0, none⟩ = some (.slice A b.length c) ∧ w'.cell? ⟨g, 3, none⟩ = some (.int .i64 (n : Int))) (first | exact ⟨(blk_cell (blk_below HBK.out (by first | ((with_reducible repeat (first | exact HB0.out | apply below_alloc | apply below_drew1)); done) | fail)) 0).trans rfl, (blk_cell (blk_below HBK.out (by first | ((with_reducible repeat (first | exact HB0.out | apply below_alloc | apply below_drew1)); done) | fail)) 3).trans rfl⟩ | go_keep)
        (first
          | (go_at_call 46; refine (vint_Int.calls k lo v _ E4.out).mono ?_; rintro e w5 ⟨v5, rfl, R5, B5⟩; obtain ⟨A5, c5, rfl, hc5, C5⟩ := Kd.R_reads R5; have HC5 := Aside0.mk C5; have HCC5 := Aside0.mk hc5; (try (have HC41 := Aside0.mk (Kd.C_below (Kd.C_drew (Kd.R_reads' (lit_u8 wr 0 wr.heap.size (IntKind.u8.wrap (n : Int)) rfl (Nat.zero_le _))).2.2) B5))); have n0_ := Aside0.mk (below_step (show Below wr.heap.size wr _ from by first | ((with_reducible repeat (first | exact HB0.out | apply below_alloc | apply below_drew1)); done) | fail) B5); clear HB0; have HB0 := n0_; clear n0_ R5 C5 B5 hc5)
          | (go_at_call 45; refine (slices_Concat_byte.calls _ 3 [v, [IntKind.u8.wrap (n : Int)], b] r _ (three_rows (W := w5.alloc (.cells #[.int .u8 (IntKind.u8.wrap (n : Int))] 5)) (by first | (simp; done) | fail) HCC5.out (Kd.C_alloc HC5.out _) (Nat.le_refl _) (Kd.R_reads' (lit_u8 w5 0 w5.heap.size (IntKind.u8.wrap (n : Int)) rfl (Nat.zero_le _))).2.2 HCC.out (Kd.C_alloc (Kd.C_below HCB.out HB0.out) _)) (Nat.le_refl _) HHB.out).mono ?_; rintro e w8 ⟨v8, rfl, R8, B8⟩; have HB8 := Aside0.mk (below_step (below_step HB.out (show Below wr.heap.size wr _ from by first | ((with_reducible repeat (first | exact HB0.out | apply below_alloc | apply below_drew1)); done) | fail)) B8); have HR8 := Aside0.mk (Kd.R_lower R8 (below_size (below_step HB.out (show Below wr.heap.size wr _ from by first | ((with_reducible repeat (first | exact HB0.out | apply below_alloc | apply below_drew1)); done) | fail)))); have n0_ := Aside0.mk (below_step (show Below wr.heap.size wr _ from by first | ((with_reducible repeat (first | exact HB0.out | apply below_alloc | apply below_drew1)); done) | fail) B8); clear HB0; have HB0 := n0_; clear n0_ R8 B8)
          | (go_at_call 45; refine (slices_Concat_byte.calls _ 3 [v, [IntKind.u8.wrap (n : Int)], b] r _ (three_rows (W := w5) rfl HCC5.out HC5.out (Nat.le_refl _) HC41.out HCC.out (Kd.C_below HCB.out HB0.out)) (Nat.le_refl _) HHB.out).mono ?_; rintro e w8 ⟨v8, rfl, R8, B8⟩; have HB8 := Aside0.mk (below_step (below_step HB.out (show Below wr.heap.size wr _ from by first | ((with_reducible repeat (first | exact HB0.out | apply below_alloc | apply below_drew1)); done) | fail)) B8); have HR8 := Aside0.mk (Kd.R_lower R8 (below_size (below_step HB.out (show Below wr.heap.size wr _ from by first | ((with_reducible repeat (first | exact HB0.out | apply below_alloc | apply below_drew1)); done) | fail)))); have n0_ := Aside0.mk (below_step (show Below wr.heap.size wr _ from by first | ((with_reducible repeat (first | exact HB0.out | apply below_alloc | apply below_drew1)); done) | fail) B8); clear HB0; have HB0 := n0_; clear n0_ R8 B8)
          | fail)
      all_goals (go_wp2_with fail; go_ret; exact ⟨_, rfl, HR8.out, HB8.out⟩)
end Go.Proofs.Ytbbffnlefmogbaa.X
/- The contract of dict.Put: texts by a dictionary. -/
namespace Go.Proofs.Ytbbffnlefmogbaa.X
open Go.RowKit Go.Maps Go.WideMaps Go.Proofs.YtbbffnlefmogbaaW.PrintWords Go.Proofs.YtbbffnlefmogbaaW.PrintLast Go.Proofs.YtbbffnlefmogbaaW.PrintMore
set_option linter.unusedVariables false
set_option linter.unusedSimpArgs false
theorem dp_law : Keyed Try.prog 9 := string_keyed Try.underlying9
theorem dp_info : (Try.prog.info? 2).map (fun i => (i.zero, i.size, i.bytes)) = some (some (.int .i64 0), 1, 8) := by kernel_rfl
theorem dp_zero (w : World) : (zeroValue 2).run Try.prog w = .ok (.int .i64 0) w := by kernel_rfl
def dict_Put.f (k : Nat) (l0 : List ByteArray) : Option (List Int) :=
  if l0.length < 1000000 ∧ (l0.all fun s => decide (s.size ≤ 1000000)) = true then (vint_Num.f k ((dpL l0).length : Int)).bind fun a => (dict_Plain.f k (dpL l0)).bind fun p => (tight_Put.f k (l0.map fun s => (dpIx (dpL l0) s : Int))).bind fun t => slices_Concat_byte.f [a, p, t] else none
theorem dict_Put.mono : ∀ a0 k, LeO (dict_Put.f k a0) (dict_Put.f (k + 1) a0) := by
  intro a0 k
  unfold dict_Put.f
  repeat' first
      | (with_reducible exact vint_Num.mono _ _)
      | (with_reducible exact dict_Plain.mono _ _)
      | (with_reducible exact tight_Put.mono _ _)
      | (with_reducible exact LeO.refl _)
      | (with_reducible exact LeO.none _)
      | (with_reducible refine LeO.ite ?_ ?_)
      | (with_reducible refine LeO.bind ?_ (fun _ => ?_))
open Go.Sort in
theorem dp_reps (w : World) (base : Nat) (okp : Nat → Prop) : ∀ ss : List (List UInt8), Reps (Kd.M Kd.string w base okp) 1 (ss.map fun s => (⟨s.toArray⟩ : ByteArray)) (ss.map encStr)
  | [] => Reps.none _ _
  | s :: ss => by
    rw [List.map_cons, List.map_cons]
    exact Reps.one (show Kd.M Kd.string _ _ _ _ [_] from rfl) (dp_reps w base okp ss)
open Go.Sort in
theorem dp_row {w : World} {base : Nat} {v : Value} {ss : List (List UInt8)} (h : w.ownsRow base 9 1 v ss.length (ss.map encStr)) : Kd.R Kd.string 9 w base (fun _ => True) v (ss.map fun s => (⟨s.toArray⟩ : ByteArray)) := by
  refine ⟨fun _ _ => trivial, ss.map encStr, ?_, dp_reps _ _ _ ss⟩
  rw [List.length_map]; exact h
theorem dp_sorted {w wr w' : World} {v : Value} {ss : List (List UInt8)} {l0 : List ByteArray} {n : Nat} (HM : wr.ownsMap Try.prog 9 (plainElem (H := Unit) Try.prog 2) w.heap.size n (dpD1 l0)) (HB : Below w.heap.size w wr)
    (hperm : ss.Perm (strKeys (dpD1 l0))) (hrow : w'.ownsRow (wr.alloc (Obj.cells #[Value.map (some w.heap.size)] 81)).heap.size 9 1 v ss.length ((ss.mergeSort fun x y => decide (x ≤ y)).map Go.Proofs.encStr))
    (hbel : Below (wr.alloc (Obj.cells #[Value.map (some w.heap.size)] 81)).heap.size (wr.alloc (Obj.cells #[Value.map (some w.heap.size)] 81)) w') :
    ∃ (Ao : Option Addr) (co base : Nat), v = .slice Ao (dpL l0).length co ∧ Aside0 (w.heap.size < base) ∧ Aside0 (Kd.R Kd.string 9 w' base (fun _ => True) (.slice Ao (dpL l0).length co) (dpL l0)) ∧ Aside0 (w'.ownsMap Try.prog 9 (plainElem (H := Unit) Try.prog 2) w.heap.size n (dpD1 l0)) ∧ Aside0 (Below w.heap.size w w') := by
  have hsort : ss.mergeSort (fun x y => decide (x ≤ y)) = dpW l0 := mergeSort_of_perm hperm
  have hlen : ss.length = (dpW l0).length := by rw [← hsort, List.length_mergeSort]
  rw [hsort, hlen] at hrow
  have HR := dp_row hrow
  obtain ⟨Ao, co, eo⟩ := Kd.R_slice HR
  subst eo
  have hlt := HM.lt
  have hsz : (wr.alloc (Obj.cells #[Value.map (some w.heap.size)] 81)).heap.size = wr.heap.size + 1 := by simp
  refine ⟨Ao, co, _, rfl, ⟨by rw [hsz]; omega⟩, ⟨HR⟩, ⟨?_⟩, ⟨?_⟩⟩
  · obtain ⟨es, clock, hb, Ft, hs, hD⟩ := HM.alloc (Obj.cells #[Value.map (some w.heap.size)] 81)
    exact ⟨es, clock, (hbel.block _ (by omega)).trans hb, Ft, hs, hD⟩
  · exact (HB.alloc (below_size HB) _).trans (hbel.mono (by have := below_size HB; omega))
theorem dp_keep {w w' : World} {base b : Nat} {v : Value} {xs : List ByteArray} (h : Kd.R Kd.string 9 w base (fun _ => True) v xs) (hg : w.grownBy w' (some b)) (hb : b < base) : Kd.R Kd.string 9 w' base (fun _ => True) v xs := by
  obtain ⟨h1, cs, h2, h3⟩ := h
  refine ⟨h1, cs, h2.kept hg ?_, Reps.imp_ h3 (fun p c h => h)⟩
  rcases e : v.ownBlock with _ | k
  · exact .inl rfl
  · refine .inr (fun e2 => ?_)
    have h4 := (h2.lt k e).1
    cases e2
    omega
theorem dp_wf (i : Nat) (h : i < 1000000) : (Lit.int .i64 (i : Int)).wf = true := by
  have h1 : IntKind.min .i64 = -9223372036854775808 := by decide
  have h2 : IntKind.max .i64 = 9223372036854775807 := by decide
  show (decide (IntKind.min .i64 ≤ (i : Int)) && decide ((i : Int) ≤ IntKind.max .i64)) = true
  rw [h1, h2, Bool.and_eq_true, decide_eq_true_eq, decide_eq_true_eq]
  omega
theorem dp_rd (l : List ByteArray) (i : Nat) (hi : i < l.length) : rdOf ByteArray.empty l (i : Int) = l.getD i ByteArray.empty := by unfold rdOf; simp [hi]
theorem dp_rows {W : World} {A0 A1 A2 : Option Addr} {c0 c1 c2 G : Nat} {x y z : List Int} (hG : G = W.heap.size) (h0 : x.length ≤ c0) (C0 : Kd.C (Kd.int .u8) W A0 x.length x) (h1 : y.length ≤ c1) (C1 : Kd.C (Kd.int .u8) W A1 y.length y) (h2 : z.length ≤ c2) (C2 : Kd.C (Kd.int .u8) W A2 z.length z) :
    Kd.C (Kd.slice 5 (Kd.int .u8)) (W.alloc (.cells #[.slice A0 x.length c0, .slice A1 y.length c1, .slice A2 z.length c2] 24)) (some ⟨G, 0, none⟩) 3 [x, y, z] := by
  subst hG
  refine Mem.C_rows (xs := [x, y, z]) (Mem.alloc_new _ _) (by simp) (fun i hi => ?_)
  match i, hi with
  | 0, _ => exact ⟨A0, c0, rfl, h0, Kd.C_alloc C0 _⟩
  | 1, _ => exact ⟨A1, c1, rfl, h1, Kd.C_alloc C1 _⟩
  | 2, _ => exact ⟨A2, c2, rfl, h2, Kd.C_alloc C2 _⟩
set_option maxHeartbeats 8000000 in
set_option maxRecDepth 1000000 in
theorem dict_Put.calls (k : Nat) (A0 : Option Addr) (c0 : Nat) (l0 : List ByteArray) (r : List Int) (w : World) (hr0 : Kd.C Kd.string w A0 l0.length l0) (hc0 : l0.length ≤ c0) (h : dict_Put.f k l0 = some r) :
    Calls Try.prog 38 #[.slice A0 l0.length c0] w fun e w' => ∃ v0_ : Value, e = .returned v0_ ∧ Kd.R (Kd.int .u8) 5 w' w.heap.size (fun _ => True) v0_ r ∧ Below w.heap.size w w' := by
  unfold dict_Put.f at h
  by_cases hf : l0.length < 1000000 ∧ (l0.all fun s => decide (s.size ≤ 1000000)) = true
  case neg => rw [if_neg hf] at h; cases h
  have HR0 := Aside0.mk hr0
  have HF := Aside0.mk hf
  rw [if_pos hf] at h
  obtain ⟨ra, e1, h⟩ := Option.bind_eq_some_iff.mp h
  obtain ⟨rp, e2, h⟩ := Option.bind_eq_some_iff.mp h
  obtain ⟨rt, e3, h⟩ := Option.bind_eq_some_iff.mp h
  have E1 := Aside0.mk e1
  have E2 := Aside0.mk e2
  have E3 := Aside0.mk e3
  have HH := Aside0.mk h
  clear e1 e2 e3
  have hmm := @run_makeMap Try.prog
  clear hr0 h hf
  go_enter Try.func38, Try.ntmps38
  go_wp2_with fail
  go_loopg [15] (l0.length + 1) (fun kq v15 w' => ∃ (i : Nat), v15 = .int .i64 (i : Int) ∧ Aside0 (kq + i = l0.length + 1) ∧ Aside0 (i ≤ l0.length) ∧ Aside0 (w'.ownsMap Try.prog 9 (plainElem (H := Unit) Try.prog 2) w.heap.size i (dpD1 (l0.take i))) ∧ Aside0 (Below w.heap.size w w'))
  case atStart => exact ⟨0, rfl, ⟨by omega⟩, ⟨by omega⟩, ⟨World.ownsMap_made _ _ _ _⟩, ⟨(Below.refl _ _).alloc (Nat.le_refl _) _⟩⟩
  case round =>
    obtain ⟨i, rfl, HK, HI, HM, HB⟩ := hrel
    cases gk with
    | zero => have h1 := HK.out; have h2 := HI.out; omega
    | succ k2 =>
    by_cases hi : i < l0.length
    · have c1 : decide ((i : Int) < (l0.length : Int)) = true := decide_eq_true (by omega)
      have c1b : decide (i < l0.length) = true := decide_eq_true hi
      have hi0 : (0 : Int) ≤ (i : Int) := Int.natCast_nonneg _
      have hi1 : (i : Int) < (l0.length : Int) := by omega
      obtain ⟨ad, ea, hx0⟩ := Kd.at_string (Kd.C_below HR0.out HB.out) (i : Int) hi0 hi1
      subst ea
      rw [Int.toNat_natCast] at hx0
      obtain ⟨s, hs⟩ : ∃ s, rdOf ByteArray.empty l0 (i : Int) = s := ⟨_, rfl⟩
      rw [hs] at hx0
      have hes : l0[i] = s := by rw [← hs]; unfold rdOf; simp [hi]
      have hsz : s.size ≤ maxLen := by
        have h1 := List.all_eq_true.mp HF.out.2 s (by rw [← hes]; exact List.getElem_mem hi)
        have h2 := of_decide_eq_true h1
        unfold maxLen; omega
      have hkey : keyOf Try.prog 9 (.string s) = some (.string s.data.toList) := keyOf_string_mk Try.underlying9 hsz
      have HST : Aside0 ((dpD1 (l0.take i)).put (.string s.data.toList) (.lit (.int .i64 0)) = dpD1 (l0.take (i + 1))) := ⟨by
        unfold dpD1
        rw [List.take_succ_eq_append_getElem hi, List.foldl_append, hes]; rfl⟩
      have hn9 : i < maxLen := by have := HF.out.1; unfold maxLen; omega
      have HW := Aside0.mk (show wrap64 ((i : Int) + 1) = ((i + 1 : Nat) : Int) by have := HF.out.1; unfold wrap64; omega)
      have HIL := Aside0.mk hi
      clear hi hes hs
      go_wp2_with (first | (at_mapUpdate; refine wpList_mapUpdate_own _ rfl _ _ _ 81 rfl 9 2 dp_law Try.underlying81 _ w.heap.size i _ rfl HM.out hn9 _ _ _ rfl rfl hkey _ [] (plainElem_int Try.underlying2 (by decide)) ?_; intro w1 hown1 hgrow1; have HM1 := Aside0.mk hown1; have HB1 := Aside0.mk (HB.out.grown hgrow1 (below_size HB.out) (fun j hj => by cases hj; exact Nat.le_refl _)); clear hown1 hgrow1))
      rw [HW.out]
      go_roundg k2
      case measure => exact Nat.lt_succ_self _
      case rel => exact ⟨i + 1, rfl, ⟨by have := HK.out; omega⟩, ⟨by have := HIL.out; omega⟩, ⟨HST.out ▸ HM1.out⟩, HB1⟩
    · have c1 : decide ((i : Int) < (l0.length : Int)) = false := decide_eq_false (by omega)
      have c1b : decide (i < l0.length) = false := decide_eq_false hi
      have HIE := Aside0.mk (show i = l0.length by have := HI.out; omega)
      clear hi
      have hie := HIE.out
      subst hie
      rw [List.take_length] at HM
      go_wp2_with (first
        | (go_at_call 73; refine (callsIn_wide.1 (Try.maps_Keys_73 _ _)).mono ?_; rintro e w' ⟨rfl, rfl⟩)
        | (go_at_call 72; refine (callsIn_wide.1 (Try.slices_Sorted_keys_72_73 w.heap.size _ _ _ _ HM.out ?hsz1 ?hsz2)).mono ?_; (case hsz1 => have h1 := HF.out.1; have h2 := dpD1_size l0; unfold maxLen; omega); (case hsz2 => have h1 := HF.out.1; have h2 := dpD1_size l0; omega); rintro e w' ⟨v, ss, rfl, hperm, hrow, hnil, hbel⟩; (obtain ⟨Ao, co, base, rfl, HBS, HR, HM2, HB2⟩ := dp_sorted HM.out HB.out hperm hrow hbel); clear hrow hnil hperm hbel HM HB))
      have HLL := Aside0.mk (dpL_len l0)
      go_loopg [27] ((dpL l0).length + 1) (fun kq v27 w' => ∃ (i : Nat), v27 = .int .i64 (i : Int) ∧ Aside0 (kq + i = (dpL l0).length + 1) ∧ Aside0 (i ≤ (dpL l0).length) ∧ Aside0 (w'.ownsMap Try.prog 9 (plainElem (H := Unit) Try.prog 2) w.heap.size (l0.length + i) (dpD2 l0 i)) ∧ Aside0 (Kd.R Kd.string 9 w' base (fun _ => True) (.slice Ao (dpL l0).length co) (dpL l0)) ∧ Aside0 (Below w.heap.size w w'))
      case atStart => exact ⟨0, rfl, ⟨by omega⟩, ⟨by omega⟩, HM2, HR, HB2⟩
      case round =>
        clear HR HM2 HB2 HI HK c1 c1b HIE
        obtain ⟨i, rfl, HK, HI, HM, HR, HB⟩ := hrel
        cases gk with
        | zero => have h1 := HK.out; have h2 := HI.out; omega
        | succ k3 =>
        by_cases hi : i < (dpL l0).length
        · have c1 : decide ((i : Int) < ((dpL l0).length : Int)) = true := decide_eq_true (by omega)
          have c1b : decide (i < (dpL l0).length) = true := decide_eq_true hi
          have hi0 : (0 : Int) ≤ (i : Int) := Int.natCast_nonneg _
          have hi1 : (i : Int) < ((dpL l0).length : Int) := by omega
          obtain ⟨Aq, cq, eq0, hcq, HCq⟩ := Kd.R_reads HR.out
          cases eq0
          obtain ⟨ad, ea, hx0⟩ := Kd.at_string HCq (i : Int) hi0 hi1
          subst ea
          rw [Int.toNat_natCast] at hx0
          obtain ⟨s, hs⟩ : ∃ s, rdOf ByteArray.empty (dpL l0) (i : Int) = s := ⟨_, rfl⟩
          rw [hs] at hx0
          rw [dp_rd _ _ hi] at hs
          have hsz : s.size ≤ maxLen := by
            have h1 := dpL_size l0 HF.out.2 s (by rw [← hs, getD_get _ _ hi]; exact List.getElem_mem hi)
            unfold maxLen; omega
          have hkey : keyOf Try.prog 9 (.string s) = some (.string s.data.toList) := keyOf_string_mk Try.underlying9 hsz
          have HST : Aside0 ((dpD2 l0 i).put (.string s.data.toList) (.lit (.int .i64 (i : Int))) = dpD2 l0 (i + 1)) := ⟨by rw [← hs]; rfl⟩
          have hn9 : l0.length + i < maxLen := by have := HF.out.1; have := HLL.out; unfold maxLen; omega
          have HW := Aside0.mk (show wrap64 ((i : Int) + 1) = ((i + 1 : Nat) : Int) by have := HF.out.1; have := HLL.out; unfold wrap64; omega)
          have HW0 := Aside0.mk (show wrap64 (i : Int) = (i : Int) by have := HF.out.1; have := HLL.out; unfold wrap64; omega)
          have HIL := Aside0.mk hi
          clear hi hs hcq HCq
          go_wp2_with (first | (at_mapUpdate; refine wpList_mapUpdate_own _ rfl _ _ _ 81 rfl 9 2 dp_law Try.underlying81 _ w.heap.size (l0.length + i) _ rfl HM.out hn9 _ _ _ rfl rfl hkey _ [] (plainElem_int Try.underlying2 (dp_wf i (by have := HF.out.1; have := HLL.out; have := HIL.out; omega))) ?_; intro w1 hown1 hgrow1; have HM1 := Aside0.mk hown1; have HR1 := Aside0.mk (dp_keep HR.out hgrow1 HBS.out); have HB1 := Aside0.mk (HB.out.grown hgrow1 (below_size HB.out) (fun j hj => by cases hj; exact Nat.le_refl _)); clear hown1 hgrow1))
          rw [HW.out]
          go_roundg k3
          case measure => exact Nat.lt_succ_self _
          case rel => exact ⟨i + 1, rfl, ⟨by have := HK.out; omega⟩, ⟨by have := HIL.out; omega⟩, ⟨HST.out ▸ HM1.out⟩, HR1, HB1⟩
        · have c1 : decide ((i : Int) < ((dpL l0).length : Int)) = false := decide_eq_false (by omega)
          have c1b : decide (i < (dpL l0).length) = false := decide_eq_false hi
          have HIE := Aside0.mk (show i = (dpL l0).length by have := HI.out; omega)
          clear hi
          have hie := HIE.out
          subst hie
          obtain ⟨zs, hz⟩ : ∃ zs : List Int, List.replicate l0.length 0 = zs := ⟨_, rfl⟩
          have HZ := Aside0.mk hz
          have HZL : Aside0 (zs.length = l0.length) := ⟨by rw [← hz, List.length_replicate]⟩
          have hmk : (l0.length : Int).toNat * 8 ≤ 281474976710656 := by have := HF.out.1; omega
          have hl9 := HF.out.1
          clear hz
          go_wp2_with ((with_reducible refine gate_dst (N := 38) rfl ?_); refine Kd.R_make (Kd.int .i64) _ 2 rfl (N := 38) rfl 22 _ _ rfl (l0.length : Int) rfl rfl Try.underlying22 (.int .i64 0) 8 dp_info rfl (by decide) (by omega) 0 (ok := fun _ => True) (okp := fun _ => True) rfl (fun _ hk => hk) trivial (by omega) hmk (Below.refl _ _) (Nat.le_refl _) ?_; intro v38 w3 hR hb _ _; rw [Int.toNat_natCast, HZ.out] at hR; obtain ⟨Am, cm, em⟩ := Kd.R_slice hR; subst em; rw [HZL.out] at hR ⊢; have HRL := Aside0.mk (Kd.R_bound hR); have HBM := Aside0.mk hb; clear hR hb)
          obtain ⟨wm, rfl⟩ : ∃ x, x = wr := ⟨_, rfl⟩
          have HWM : Aside0 (w.heap.size < wm.heap.size) := ⟨HM.out.lt⟩
          clear c1 c1b hmk hl9 HK HI
          go_loopg [41] (l0.length + 1) (fun kq v41 w' => ∃ (i : Nat) (L : List Int), v41 = .int .i64 (i : Int) ∧ Aside0 (kq + i = l0.length + 1) ∧ Aside0 (i ≤ l0.length) ∧ Aside0 (L = (l0.take i).map (fun s => (dpIx (dpL l0) s : Int)) ++ List.replicate (l0.length - i) 0) ∧ Aside0 (Kd.R (Kd.int .i64) 2 w' wm.heap.size (fun _ => True) (.slice Am l0.length cm) L) ∧ Aside0 (Below wm.heap.size wm w'))
          case atStart => exact ⟨0, zs, rfl, ⟨by omega⟩, ⟨by omega⟩, ⟨by rw [← HZ.out]; simp⟩, ⟨Kd.R_mono HRL.out (fun _ _ => trivial)⟩, HBM⟩
          case round =>
            clear HRL HBM
            obtain ⟨i, L, rfl, HK, HI, HLL, HRL, HBM⟩ := hrel
            cases gk with
            | zero => have h1 := HK.out; have h2 := HI.out; omega
            | succ k4 =>
            have HLN : Aside0 (L.length = l0.length) := ⟨(Kd.R_reads' HRL.out).1.symm⟩
            by_cases hi : i < l0.length
            · have c1 : decide ((i : Int) < (l0.length : Int)) = true := decide_eq_true (by omega)
              have c1b : decide (i < l0.length) = true := decide_eq_true hi
              have hi0 : (0 : Int) ≤ (i : Int) := Int.natCast_nonneg _
              have hi1 : (i : Int) < (l0.length : Int) := by omega
              obtain ⟨ad, ea, hx0⟩ := Kd.at_string (Kd.C_below HR0.out (below_step HB.out HBM.out)) (i : Int) hi0 hi1
              subst ea
              rw [Int.toNat_natCast] at hx0
              obtain ⟨s, hs⟩ : ∃ s, rdOf ByteArray.empty l0 (i : Int) = s := ⟨_, rfl⟩
              rw [hs] at hx0
              have hes : l0[i] = s := by rw [← hs]; unfold rdOf; simp [hi]
              have hmem : s ∈ l0 := by rw [← hes]; exact List.getElem_mem hi
              have hsz : s.size ≤ maxLen := by
                have h1 := List.all_eq_true.mp HF.out.2 s hmem
                have h2 := of_decide_eq_true h1
                unfold maxLen; omega
              have hkey : keyOf Try.prog 9 (.string s) = some (.string s.data.toList) := keyOf_string_mk Try.underlying9 hsz
              have HM1 : Aside0 (wr.ownsMap Try.prog 9 (plainElem (H := Unit) Try.prog 2) w.heap.size (l0.length + (dpL l0).length) (dpD2 l0 (dpL l0).length)) := ⟨by
                obtain ⟨es, clock, hb, Ft, hs, hD⟩ := HM.out
                exact ⟨es, clock, (HBM.out.block _ HWM.out).trans hb, Ft, hs, hD⟩⟩
              have HAT := Aside0.mk (dp_place l0 s hmem (.lit (.int .i64 0)))
              obtain ⟨x, hx⟩ : ∃ x : Int, (dpIx (dpL l0) s : Int) = x := ⟨_, rfl⟩
              rw [hx] at HAT
              have HX : Aside0 (L.set i x = (l0.take (i + 1)).map (fun s => (dpIx (dpL l0) s : Int)) ++ List.replicate (l0.length - (i + 1)) 0) := ⟨by
                have h1 := HLL.out
                have h5 : ((l0.take i).map (fun s => (dpIx (dpL l0) s : Int))).length = i := by rw [List.length_map, List.length_take]; omega
                obtain ⟨d, hd⟩ : ∃ d, l0.length - i = d + 1 := ⟨l0.length - i - 1, by omega⟩
                rw [h1, hd, List.replicate_succ, List.set_append_right _ _ (by omega), h5, Nat.sub_self, List.set_cons_zero, List.take_succ_eq_append_getElem hi, List.map_append, hes, List.append_assoc, show l0.length - (i + 1) = d by omega, List.map_cons, hx]
                rfl⟩
              obtain ⟨gl', cl', ev, hgl1, hgl2, cells, hcl⟩ := Kd.R_form HRL.out (by rw [HLN.out]; omega)
              injection ev with ev1 ev2 ev3
              subst ev1
              obtain ⟨ad2, ea2, hy0⟩ := Kd.at_int (Kd.R_reads' HRL.out).2.2 (i : Int) hi0 (by rw [HLN.out]; exact hi1)
              injection ea2 with ea2
              subst ea2
              have eadd : (⟨gl', 0, none⟩ : Addr).add (i : Int).toNat = ⟨gl', i, none⟩ := by rw [Int.toNat_natCast]; unfold Addr.add; split <;> simp_all
              rw [eadd] at hy0
              obtain ⟨z, hz⟩ : ∃ z, rd L (i : Int) = z := ⟨_, rfl⟩
              rw [hz] at hy0
              have fy := blk_frozen hcl i
              have HIL := Aside0.mk hi
              have HG := Aside0.mk hgl1
              have HW := Aside0.mk (show wrap64 ((i : Int) + 1) = ((i + 1 : Nat) : Int) by have := HF.out.1; unfold wrap64; omega)
              have HW0 := Aside0.mk (show wrap64 (i : Int) = (i : Int) by have := HF.out.1; unfold wrap64; omega)
              clear hi hs hes hmem hx hcl hz eadd hgl1 hgl2 ev3 ev2
              go_wp2_with (first | (at_lookup; refine wpList_lookup_own_int _ rfl _ _ 81 rfl 9 2 .i64 dp_law Try.underlying81 Try.underlying2 (dp_zero _) w.heap.size (l0.length + (dpL l0).length) (dpD2 l0 (dpL l0).length) rfl HM1.out _ _ rfl hkey ?_; intro xq hat hwc; obtain rfl : x = xq := (by rw [HAT.out] at hat; injection hat with hat; injection hat with _ hat); clear hat hwc))
              have h2 := (Kd.R_putg HRL.out (i : Int) x).1
              rw [Int.toNat_natCast] at h2
              have HR6 := Aside0.mk h2
              have HB6 := Aside0.mk (below_set HBM.out (g := gl') (j := i) (v := .int .i64 x) HG.out)
              clear h2 HRL HBM hy0 fy hx0
              try rw [HW.out]
              go_roundg k4
              case measure => omega
              case rel => exact ⟨i + 1, L.set i x, congrArg (Value.int .i64) (by first | exact HW.out | omega), ⟨by have := HK.out; omega⟩, ⟨by have := HIL.out; omega⟩, HX, HR6, HB6⟩
            · have hie : i = l0.length := by have := HI.out; omega
              have c1 : decide ((i : Int) < (l0.length : Int)) = false := decide_eq_false (by omega)
              have c1b : decide (i < l0.length) = false := decide_eq_false hi
              have hLa : L = l0.map (fun s => (dpIx (dpL l0) s : Int)) := by
                have h1 := HLL.out
                rw [hie, Nat.sub_self, List.replicate_zero, List.append_nil, List.take_length] at h1
                exact h1
              have E3' : Aside0 (tight_Put.f k L = some rt) := ⟨by rw [hLa]; exact E3.out⟩
              have HRW := Aside0.mk (Kd.R_below HR.out HBM.out)
              have HB2 := Aside0.mk (below_step HB.out HBM.out)
              obtain ⟨Aq, cq, eq0, hcq, HCq⟩ := Kd.R_reads HRW.out
              cases eq0
              have HCQ := Aside0.mk hcq
              have HCW := Aside0.mk HCq
              have HLW : Aside0 ((Kd.R (Kd.int .i64) 2 wr wm.heap.size (fun _ => True) (.slice Am L.length cm) L)) := ⟨by rw [HLN.out]; exact HRL.out⟩
              have HLQ := Aside0.mk (Kd.R_reads' HLW.out).2.2
              have HLC := Aside0.mk (Kd.R_reads' HLW.out).2.1
              have hnw : IntKind.u64.wrap ((dpL l0).length : Int) = ((dpL l0).length : Int) := by have h1 := HF.out.1; have h2 := dpL_len l0; rw [IntKind.wrap_u64]; omega
              have HNW := Aside0.mk hnw
              have HCP : ∀ W, Kd.C (Kd.int .i64) W Am L.length L → Calls Try.prog 11 #[.slice Am l0.length cm] W fun e w' => ∃ v0_ : Value, e = .returned v0_ ∧ Kd.R (Kd.int .u8) 5 w' W.heap.size (fun _ => True) v0_ rt ∧ Below W.heap.size W w' := fun W hW => by
                have h9 := tight_Put.calls k Am cm L rt W hW HLC.out E3'.out
                rw [HLN.out] at h9; exact h9
              have HCPA := Aside0.mk HCP
              clear hi hie hLa HR HB HRL HLL HBM hcq HCq HRW hnw HCP h
              go_wp2_with (first
                | (go_at_call 64; rw [HNW.out]; refine (vint_Num.calls k _ ra _ E1.out).mono ?_; rintro e w5 ⟨v5, rfl, R5, B5⟩; obtain ⟨A5, c5, rfl, hc5, C5⟩ := Kd.R_reads R5; have HC5 := Aside0.mk C5; have HCC5 := Aside0.mk hc5; have HB5 := Aside0.mk (below_step HB2.out B5); have HCW5 := Aside0.mk (Kd.C_below HCW.out B5); have HLQ5 := Aside0.mk (Kd.C_below HLQ.out B5); clear R5 B5 C5 hc5)
                | (go_at_call 34; refine (dict_Plain.calls k Ao co (dpL l0) rp _ HCW5.out HCQ.out E2.out).mono ?_; rintro e w6 ⟨v6, rfl, R6, B6⟩; obtain ⟨A6, c6, rfl, hc6, C6⟩ := Kd.R_reads R6; have HC56 := Aside0.mk (Kd.C_below HC5.out B6); have HC6 := Aside0.mk C6; have HCC6 := Aside0.mk hc6; have HB6 := Aside0.mk (below_step HB5.out B6); have HLQ6 := Aside0.mk (Kd.C_below HLQ5.out B6); clear R6 B6 C6 hc6 HCW5 HLQ5 HC5 HB5)
                | (go_at_call 11; refine (HCPA.out _ HLQ6.out).mono ?_; rintro e w7 ⟨v7, rfl, R7, B7⟩; obtain ⟨A7, c7, rfl, hc7, C7⟩ := Kd.R_reads R7; have HC57 := Aside0.mk (Kd.C_below HC56.out B7); have HC67 := Aside0.mk (Kd.C_below HC6.out B7); have HC7 := Aside0.mk C7; have HCC7 := Aside0.mk hc7; have HB7 := Aside0.mk (below_step HB6.out B7); clear R7 B7 C7 hc7 HLQ6 HC56 HC6 HB6 HB2 HCW HLQ HCPA)
                | (go_at_call 45; refine (slices_Concat_byte.calls _ 3 [ra, rp, rt] r _ (dp_rows rfl HCC5.out HC57.out HCC6.out HC67.out HCC7.out HC7.out) (Nat.le_refl _) HH.out).mono ?_; rintro e w8 ⟨v8, rfl, R8, B8⟩; have HB8 := Aside0.mk (below_step (below_alloc HB7.out _) B8); have HR8 := Aside0.mk (Kd.R_lower R8 (below_size (below_alloc HB7.out _))); clear R8 B8))
              go_ret
              exact ⟨_, rfl, HR8.out, HB8.out⟩
end Go.Proofs.Ytbbffnlefmogbaa.X
-- Printed for this claim by a program of this session (wip/xprint.py) over the kit's printer; Lean checks it.
namespace Go.Proofs.Ytbbffnlefmogbaa.X
open Go.RowKit Go.Proofs.YtbbffnlefmogbaaW.PrintWords Go.Proofs.YtbbffnlefmogbaaW.PrintLast Go.Proofs.YtbbffnlefmogbaaW.PrintMore
attribute [local go_sem] max2_int min2_int max_two min_two max_three min_three max_four min_four   -- for this text's walks alone
set_option linter.unusedVariables false
set_option linter.unusedSimpArgs false

/-! ### firkinlaw08_live: function 30 -/
def firkinlaw08_live.f (k : Nat)  : Option (Bool) := (dict_Put.f k (([(⟨#[98]⟩ : ByteArray), (⟨#[97]⟩ : ByteArray), (⟨#[98]⟩ : ByteArray)] : List ByteArray))).bind fun t130 => ((firkinref01_Same.f t130 (([2, 1, 97, 1, 98, 0, 1, 5] : List Int))).bind fun t136 => (some t136))
theorem firkinlaw08_live.mono : ∀ k, LeO (firkinlaw08_live.f k ) (firkinlaw08_live.f (k + 1) ) := by
  intro  k
  unfold firkinlaw08_live.f
  repeat' first
      | (with_reducible exact dict_Put.mono _ _)
      | (with_reducible exact LeO.refl _)
      | (with_reducible exact LeO.none _)
      | (with_reducible refine LeO.ite ?_ ?_)
      | (with_reducible refine LeO.bind ?_ (fun _ => ?_))
      | exact dict_Put.mono _ _
      | exact LeO.none _
      | refine LeO.ite ?_ ?_
      | refine LeO.bind ?_ (fun _ => ?_)
set_option maxHeartbeats 8000000 in
set_option maxRecDepth 100000 in
theorem firkinlaw08_live.calls (k : Nat)  (r : Bool) (w : World) (h : firkinlaw08_live.f k  = some r) :
    Calls Try.prog 30 #[] w fun e w' => e = .returned (.bool r) ∧ Below w.heap.size w w' := by
  have HB := Aside0.mk (Below.refl w.heap.size w)
  have H : ((dict_Put.f k (([(⟨#[98]⟩ : ByteArray), (⟨#[97]⟩ : ByteArray), (⟨#[98]⟩ : ByteArray)] : List ByteArray))).bind fun t130 => ((firkinref01_Same.f t130 (([2, 1, 97, 1, 98, 0, 1, 5] : List Int))).bind fun t136 => (some t136))) = some r := h
  clear h
  obtain ⟨y127, hy127⟩ : ∃ y_ : List ByteArray, y_ = (([(⟨#[98]⟩ : ByteArray), (⟨#[97]⟩ : ByteArray), (⟨#[98]⟩ : ByteArray)] : List ByteArray)) := ⟨_, rfl⟩
  replace H : ((dict_Put.f k y127).bind fun t130 => ((firkinref01_Same.f t130 (([2, 1, 97, 1, 98, 0, 1, 5] : List Int))).bind fun t136 => (some t136))) = some r := by first | (rw [hy127]; with_reducible exact H) | (have H2_ := (Option.bind_some _ _).symm.trans H; rw [hy127]; with_reducible exact H2_) | (have H2_ := (Option.bind_some _ _).symm.trans H; with_reducible exact H2_) | with_reducible exact H | (rw [hy127]; exact H) | exact H
  have Ny127 := Aside0.mk hy127
  clear hy127
  replace H := Option.bind_eq_some_iff.mp H
  obtain ⟨t130, A10, H⟩ := H
  replace H : ((firkinref01_Same.f t130 (([2, 1, 97, 1, 98, 0, 1, 5] : List Int))).bind fun t136 => (some t136)) = some r := H
  have A1 := Aside0.mk A10
  clear A10
  obtain ⟨y133, hy133⟩ : ∃ y_ : List Int, y_ = (([2, 1, 97, 1, 98, 0, 1, 5] : List Int)) := ⟨_, rfl⟩
  replace H : ((firkinref01_Same.f t130 y133).bind fun t136 => (some t136)) = some r := by first | (rw [hy133]; with_reducible exact H) | (have H2_ := (Option.bind_some _ _).symm.trans H; rw [hy133]; with_reducible exact H2_) | (have H2_ := (Option.bind_some _ _).symm.trans H; with_reducible exact H2_) | with_reducible exact H | (rw [hy133]; exact H) | exact H
  have Ny133 := Aside0.mk hy133
  clear hy133
  replace H := Option.bind_eq_some_iff.mp H
  obtain ⟨t136, A20, H⟩ := H
  replace H : (some t136) = some r := H
  have A2 := Aside0.mk A20
  clear A20
  obtain rfl := Option.some.inj H
  go_enter Try.func30, Try.ntmps30
  go_wp2_with (first | ((with_reducible refine gate_dst (N := 1) rfl ?_); refine Kd.R_lit Kd.string _ 9 ?hg (N := 1) ?hd (xs := ([(⟨#[98]⟩ : ByteArray), (⟨#[97]⟩ : ByteArray), (⟨#[98]⟩ : ByteArray)] : List ByteArray)) (inner := [.string (⟨#[98]⟩ : ByteArray), .string (⟨#[97]⟩ : ByteArray), .string (⟨#[98]⟩ : ByteArray)]) (ok := fun _ => True) (okp := fun _ => True) ?hr ?hp (fun _ hk => hk) trivial (Below.refl _ _) (Nat.le_refl _) (by simp) ?_; (case hd => rfl); (case hg => rfl); (case hr => first | (go_simp; done) | (go_simp; rfl)); (case hp => exact (Reps.one (show Kd.M Kd.string _ _ _ (⟨#[98]⟩ : ByteArray) [.string (⟨#[98]⟩ : ByteArray)] from rfl) (Reps.one (show Kd.M Kd.string _ _ _ (⟨#[97]⟩ : ByteArray) [.string (⟨#[97]⟩ : ByteArray)] from rfl) (Reps.one (show Kd.M Kd.string _ _ _ (⟨#[98]⟩ : ByteArray) [.string (⟨#[98]⟩ : ByteArray)] from rfl) (Reps.none _ _))))); intro v128 w3 ho4 hb hg_ hnew_; clear hg_ hnew_; (first | rw [← Ny127.out] at ho4 | (simp only [Int.reduceToNat] at ho4; rw [← Ny127.out] at ho4)); have n0_ := Aside0.mk (Kd.R_lower ho4 (below_size (by repeat (first | (with_reducible first | exact HB.out | apply below_alloc | apply pw_below_drewN | apply below_drew1) | exact HB.out)))); have n1_ := Aside0.mk (below_step (by repeat (first | (with_reducible first | exact HB.out | apply below_alloc | apply pw_below_drewN | apply below_drew1) | exact HB.out)) hb); clear HB; have HO129 := n0_; have HB := n1_; clear n0_ n1_; clear hb ho4; obtain ⟨Ao5, co5, eo5⟩ := Kd.R_slice HO129.out; subst eo5) | ((with_reducible refine gate_callee (f := 38) rfl ?_); refine goesL_ (some 2) rfl rfl Try.func38 (by kernel_rfl) rfl #[.slice Ao5 y127.length co5] rfl (by (try simp only [List.map_toArray, List.map_cons, List.map_nil]); first | done | rfl | (simp only [List.length_drop, List.length_take]; rfl)) ?_; (with_reducible refine (dict_Put.calls k _ _ y127 t130 _ ?side1 ?side2 A1.out).mono ?_); (case side1 => repeat (first | exact (Kd.R_reads' HO129.out).2.2 | (with_reducible refine Kd.C_alloc ?_ _) | (with_reducible refine Kd.C_drewN ?_ _) | (with_reducible refine Kd.C_drew ?_))); (case side2 => exact (Kd.R_reads' HO129.out).2.1); rintro e w6 ⟨v131, rfl, ho0, hb⟩; refine ⟨_, rfl, ?_⟩; have n0_ := Aside0.mk (Kd.R_below (by (with_reducible repeat (first | apply Kd.R_alloc | apply Kd.R_drewN | apply Kd.R_drew)); exact HO129.out) hb); have n1_ := Aside0.mk (Kd.R_lower ho0 (below_size (by repeat (first | (with_reducible first | exact HB.out | apply below_alloc | apply pw_below_drewN | apply below_drew1) | exact HB.out)))); have n2_ := Aside0.mk (below_step (by repeat (first | (with_reducible first | exact HB.out | apply below_alloc | apply pw_below_drewN | apply below_drew1) | exact HB.out)) hb); clear HO129; clear HB; have HO129 := n0_; have HO132 := n1_; have HB := n2_; clear n0_ n1_ n2_; (try clear hb); (try clear hb2); (try clear hk); (try clear hi); (try clear ho0)) | ((with_reducible refine gate_dst (N := 3) rfl ?_); refine Kd.R_lit (Kd.int .u8) _ 5 ?hg (N := 3) ?hd (xs := ([2, 1, 97, 1, 98, 0, 1, 5] : List Int)) (inner := [.int .u8 2, .int .u8 1, .int .u8 97, .int .u8 1, .int .u8 98, .int .u8 0, .int .u8 1, .int .u8 5]) (ok := fun _ => True) (okp := fun _ => True) ?hr ?hp (fun _ hk => hk) trivial (Below.refl _ _) (Nat.le_refl _) (by simp) ?_; (case hd => rfl); (case hg => rfl); (case hr => first | (go_simp; done) | (go_simp; rfl)); (case hp => exact (Reps.one (show Kd.M (Kd.int .u8) _ _ _ 2 [.int .u8 2] from rfl) (Reps.one (show Kd.M (Kd.int .u8) _ _ _ 1 [.int .u8 1] from rfl) (Reps.one (show Kd.M (Kd.int .u8) _ _ _ 97 [.int .u8 97] from rfl) (Reps.one (show Kd.M (Kd.int .u8) _ _ _ 1 [.int .u8 1] from rfl) (Reps.one (show Kd.M (Kd.int .u8) _ _ _ 98 [.int .u8 98] from rfl) (Reps.one (show Kd.M (Kd.int .u8) _ _ _ 0 [.int .u8 0] from rfl) (Reps.one (show Kd.M (Kd.int .u8) _ _ _ 1 [.int .u8 1] from rfl) (Reps.one (show Kd.M (Kd.int .u8) _ _ _ 5 [.int .u8 5] from rfl) (Reps.none _ _)))))))))); intro v134 w7 ho8 hb hg_ hnew_; clear hg_ hnew_; (first | rw [← Ny133.out] at ho8 | (simp only [Int.reduceToNat] at ho8; rw [← Ny133.out] at ho8)); have n0_ := Aside0.mk (Kd.R_below (by (with_reducible repeat (first | apply Kd.R_alloc | apply Kd.R_drewN | apply Kd.R_drew)); exact HO129.out) hb); have n1_ := Aside0.mk (Kd.R_elder' (by (with_reducible repeat (first | apply Kd.R_alloc | apply Kd.R_drewN | apply Kd.R_drew)); exact HO132.out) (Kd.R_base ho8) hb); have n2_ := Aside0.mk (Kd.R_lower (Kd.R_new' ho8 (Kd.R_lt (by (with_reducible repeat (first | apply Kd.R_alloc | apply Kd.R_drewN | apply Kd.R_drew)); exact HO132.out))) (below_size (by repeat (first | (with_reducible first | exact HB.out | apply below_alloc | apply pw_below_drewN | apply below_drew1) | exact HB.out)))); have n3_ := Aside0.mk (below_step (by repeat (first | (with_reducible first | exact HB.out | apply below_alloc | apply pw_below_drewN | apply below_drew1) | exact HB.out)) hb); clear HO129; clear HO132; clear HB; have HO129 := n0_; have HO132 := n1_; have HO135 := n2_; have HB := n3_; clear n0_ n1_ n2_ n3_; clear hb ho8; obtain ⟨Ao9, co9, eo9⟩ := Kd.R_slice HO132.out; subst eo9; obtain ⟨Ao10, co10, eo10⟩ := Kd.R_slice HO135.out; subst eo10) | ((with_reducible refine gate_callee (f := 13) rfl ?_); refine goesL_ (some 4) rfl rfl Try.func13 (by kernel_rfl) rfl #[.slice Ao9 t130.length co9, .slice Ao10 y133.length co10] rfl (by (try simp only [List.map_toArray, List.map_cons, List.map_nil]); first | done | rfl | (simp only [List.length_drop, List.length_take]; rfl)) ?_; (with_reducible refine (firkinref01_Same.calls _ _ t130 _ _ y133 t136 _ ?side1 ?side2 ?side3 ?side4 A2.out).mono ?_); (case side1 => repeat (first | exact (Kd.R_reads' HO132.out).2.2 | (with_reducible refine Kd.C_alloc ?_ _) | (with_reducible refine Kd.C_drewN ?_ _) | (with_reducible refine Kd.C_drew ?_))); (case side2 => exact (Kd.R_reads' HO132.out).2.1); (case side3 => repeat (first | exact (Kd.R_reads' HO135.out).2.2 | (with_reducible refine Kd.C_alloc ?_ _) | (with_reducible refine Kd.C_drewN ?_ _) | (with_reducible refine Kd.C_drew ?_))); (case side4 => exact (Kd.R_reads' HO135.out).2.1); rintro e w' ⟨rfl, ⟨nd, rfl⟩⟩; refine ⟨_, rfl, ?_⟩))
  go_ret
  exact ⟨by first | rfl | (simp [errW_none, errW_some] <;> rfl) | (simp [*, errW_none, errW_some] <;> rfl), by repeat (first | (with_reducible first | exact HB.out | apply below_alloc | apply pw_below_drewN | apply below_drew1) | exact HB.out)⟩

end Go.Proofs.Ytbbffnlefmogbaa.X
/- The contract of (*vint.Source).Ok: whether it did not fail; the source stays as it is. -/
namespace Go.Proofs.Ytbbffnlefmogbaa.X
open Go.RowKit Go.Proofs.YtbbffnlefmogbaaW.PrintWords Go.Proofs.YtbbffnlefmogbaaW.PrintLast Go.Proofs.YtbbffnlefmogbaaW.PrintMore
set_option linter.unusedVariables false
set_option linter.unusedSimpArgs false
def vint_Source_Ok.f (l : List Int) (bad : Bool) : Option (Bool × List Int × Bool) := some (!bad, l, bad)
set_option maxHeartbeats 8000000 in
set_option maxRecDepth 100000 in
theorem vint_Source_Ok.calls (g : Nat) (s0_0 : List Int) (s0_1 : Bool) (r1 : Bool) (r2 : List Int) (r3 : Bool) (w0 w : World) (hI : IsS75 w0 w g s0_0 s0_1) (hB : Below w0.heap.size w0 w) (h : vint_Source_Ok.f s0_0 s0_1 = some (r1, r2, r3)) :
    Calls Try.prog 23 #[.pointer (some ⟨g, 0, none⟩)] w fun e w' => e = .returned (.bool r1) ∧ IsS75 w0 w' g r2 r3 ∧ Below w0.heap.size w0 w' ∧ KeepBut w w' g none := by
  obtain ⟨rfl, rfl, rfl⟩ : (!s0_1) = r1 ∧ s0_0 = r2 ∧ s0_1 = r3 := by unfold vint_Source_Ok.f at h; injection h with h; injection h with h1 h; injection h with h2 h3; exact ⟨h1, h2, h3⟩
  clear h
  have HI := Aside0.mk hI
  obtain ⟨A0, c0, hb, hg, hr⟩ := hI
  have hne : ∀ w : World, (binOp .neq 35 (.pointer (some ⟨g, 0, none⟩)) (.pointer none)).run Try.prog w = .ok (.bool true) w := fun w => run_neq_pointer_nil w 35 (some ⟨g, 0, none⟩) (by kernel_rfl)
  have h1 : w.cell? ⟨g, 1, none⟩ = some (.bool s0_1) := (blk_cell hb 1).trans rfl
  have hu := Try.underlying75
  clear hb hr hg
  go_enter Try.func23, Try.ntmps23
  go_wp2
  go_ret
  exact ⟨rfl, HI.out, hB, KeepBut.refl _ _ _⟩
end Go.Proofs.Ytbbffnlefmogbaa.X
-- Printed for this claim by a program of this session (wip/xprint.py) over the kit's printer; Lean checks it.
namespace Go.Proofs.Ytbbffnlefmogbaa.X
open Go.RowKit Go.Proofs.YtbbffnlefmogbaaW.PrintWords Go.Proofs.YtbbffnlefmogbaaW.PrintLast Go.Proofs.YtbbffnlefmogbaaW.PrintMore
attribute [local go_sem] max2_int min2_int max_two min_two max_three min_three max_four min_four   -- for this text's walks alone
set_option linter.unusedVariables false
set_option linter.unusedSimpArgs false

/-! ### vint_Source_End: function 29 -/
def vint_Source_End.f (s0_0 : List Int) (s0_1 : Bool) : Option (Bool × List Int × Bool) := (vint_Source_Ok.f s0_0 s0_1).bind fun bt137 => (if bt137.1 = true then (some (((bt137.2.1.length : Int) == 0), bt137.2.1, bt137.2.2)) else (some (false, bt137.2.1, bt137.2.2)))
set_option maxHeartbeats 8000000 in
set_option maxRecDepth 100000 in
theorem vint_Source_End.calls (g : Nat) (s0_0 : List Int) (s0_1 : Bool) (r1 : Bool) (r2 : List Int) (r3 : Bool) (w0 w : World) (hI : IsS75 w0 w g s0_0 s0_1) (hB : Below w0.heap.size w0 w) (h : vint_Source_End.f s0_0 s0_1 = some (r1, r2, r3)) :
    Calls Try.prog 29 #[.pointer (some ⟨g, 0, none⟩)] w fun e w' => e = .returned (.bool r1) ∧ IsS75 w0 w' g r2 r3 ∧ Below w0.heap.size w0 w' ∧ KeepBut w w' g none := by
  have HI0 := Aside0.mk hI
  have HK := Aside0.mk (KeepBut.refl w g none)
  have HL := Aside0.mk hB.size
  clear hI
  have HW0 := Aside0.mk hB.size
  have HB := Aside0.mk hB
  clear hB
  have H : ((vint_Source_Ok.f s0_0 s0_1).bind fun bt137 => (if bt137.1 = true then (some (((bt137.2.1.length : Int) == 0), bt137.2.1, bt137.2.2)) else (some (false, bt137.2.1, bt137.2.2)))) = some (r1, r2, r3) := h
  clear h
  replace H := Option.bind_eq_some_iff.mp H
  obtain ⟨⟨t137, t138, t139⟩, A20, H⟩ := H
  replace H : (if t137 = true then (some (((t138.length : Int) == 0), t138, t139)) else (some (false, t138, t139))) = some (r1, r2, r3) := H
  have A2 := Aside0.mk A20
  clear A20
  by_cases c3 : t137 = true
  · subst c3
    have H1 : (some (((t138.length : Int) == 0), t138, t139)) = some (r1, r2, r3) := by rw [if_pos rfl] at H; exact H
    clear H
    have H := H1
    clear H1
    simp only [Option.some.injEq, Prod.mk.injEq] at H
    obtain ⟨rfl, rfl, rfl⟩ := H
    go_enter Try.func29, Try.ntmps29
    go_wp2_with (first | ((with_reducible refine gate_callee (f := 23) rfl ?_); refine goesL_ (some 4) rfl rfl Try.func23 (by kernel_rfl) rfl #[.pointer (some ⟨g, 0, none⟩)] rfl (by (try simp only [List.map_toArray, List.map_cons, List.map_nil]); first | done | rfl | (simp only [List.length_drop, List.length_take]; rfl)) ?_; (with_reducible refine (vint_Source_Ok.calls g s0_0 s0_1 true t138 t139 w0 _ ?side1 ?side2 A2.out).mono ?_); (case side1 => repeat (first | (with_reducible first | exact HI0.out | apply IsS75.alloc | apply IsS75.drewN | apply IsS75.drew | apply IsS75.set_0 | apply IsS75.set_1) | exact HI0.out)); (case side2 => repeat (first | (with_reducible first | exact HB.out | apply below_alloc | apply pw_below_drewN | apply below_drew1 | refine below_set ?_ (IsS75.ge HI0.out)) | exact HB.out)); rintro e w4 ⟨rfl, hi, hb, hk⟩; refine ⟨_, rfl, ?_⟩; have n0_ := Aside0.mk (KeepBut.trans (by repeat (first | (with_reducible first | exact HK.out | apply KeepBut.set_ | apply keep_drewN | apply keep_drew | apply keep_alloc) | exact HK.out)) hk (.inl rfl)); have n1_ := Aside0.mk (hb); have n2_ := Aside0.mk (hi); clear HK; clear HB; clear HI0; have HK := n0_; have HB := n1_; have HI0 := n2_; clear n0_ n1_ n2_; (try clear hb); (try clear hb2); (try clear hk); (try clear hi); obtain ⟨ASz5_0, cSz5_0, HGz5, hgz5, ⟨HSz5_0, _⟩⟩ := HI0.out; have hcz5_0 := cellS75_0 HGz5; have hcz5_1 := cellS75_1 HGz5; have hfz5_0 := blk_frozen HGz5 0; have hfz5_1 := blk_frozen HGz5 1; clear HGz5 hgz5))
    go_ret
    exact ⟨by first | rfl | (simp [errW_none, errW_some] <;> rfl) | (simp [*, errW_none, errW_some] <;> rfl), by repeat (first | (with_reducible first | exact HI0.out | apply IsS75.alloc | apply IsS75.drewN | apply IsS75.drew | apply IsS75.set_0 | apply IsS75.set_1) | exact HI0.out), by repeat (first | (with_reducible first | exact HB.out | apply below_alloc | apply pw_below_drewN | apply below_drew1 | refine below_set ?_ (IsS75.ge HI0.out)) | exact HB.out), by repeat (first | (with_reducible first | exact HK.out | apply KeepBut.set_ | apply keep_drewN | apply keep_drew | apply keep_alloc) | exact HK.out)⟩
  · replace c3 := Bool.eq_false_iff.mpr c3
    subst c3
    have H1 : (some (false, t138, t139)) = some (r1, r2, r3) := by rw [if_neg (show ¬ (false = true) by decide)] at H; exact H
    clear H
    have H := H1
    clear H1
    simp only [Option.some.injEq, Prod.mk.injEq] at H
    obtain ⟨rfl, rfl, rfl⟩ := H
    go_enter Try.func29, Try.ntmps29
    go_wp2_with (first | ((with_reducible refine gate_callee (f := 23) rfl ?_); refine goesL_ (some 4) rfl rfl Try.func23 (by kernel_rfl) rfl #[.pointer (some ⟨g, 0, none⟩)] rfl (by (try simp only [List.map_toArray, List.map_cons, List.map_nil]); first | done | rfl | (simp only [List.length_drop, List.length_take]; rfl)) ?_; (with_reducible refine (vint_Source_Ok.calls g s0_0 s0_1 false t138 t139 w0 _ ?side1 ?side2 A2.out).mono ?_); (case side1 => repeat (first | (with_reducible first | exact HI0.out | apply IsS75.alloc | apply IsS75.drewN | apply IsS75.drew | apply IsS75.set_0 | apply IsS75.set_1) | exact HI0.out)); (case side2 => repeat (first | (with_reducible first | exact HB.out | apply below_alloc | apply pw_below_drewN | apply below_drew1 | refine below_set ?_ (IsS75.ge HI0.out)) | exact HB.out)); rintro e w6 ⟨rfl, hi, hb, hk⟩; refine ⟨_, rfl, ?_⟩; have n0_ := Aside0.mk (KeepBut.trans (by repeat (first | (with_reducible first | exact HK.out | apply KeepBut.set_ | apply keep_drewN | apply keep_drew | apply keep_alloc) | exact HK.out)) hk (.inl rfl)); have n1_ := Aside0.mk (hb); have n2_ := Aside0.mk (hi); clear HK; clear HB; clear HI0; have HK := n0_; have HB := n1_; have HI0 := n2_; clear n0_ n1_ n2_; (try clear hb); (try clear hb2); (try clear hk); (try clear hi)))
    go_ret
    exact ⟨by first | rfl | (simp [errW_none, errW_some] <;> rfl) | (simp [*, errW_none, errW_some] <;> rfl), by repeat (first | (with_reducible first | exact HI0.out | apply IsS75.alloc | apply IsS75.drewN | apply IsS75.drew | apply IsS75.set_0 | apply IsS75.set_1) | exact HI0.out), by repeat (first | (with_reducible first | exact HB.out | apply below_alloc | apply pw_below_drewN | apply below_drew1 | refine below_set ?_ (IsS75.ge HI0.out)) | exact HB.out), by repeat (first | (with_reducible first | exact HK.out | apply KeepBut.set_ | apply keep_drewN | apply keep_drew | apply keep_alloc) | exact HK.out)⟩

/-! ### vint_Source_Left: function 24 -/
def vint_Source_Left.f (s0_0 : List Int) (s0_1 : Bool) : Option (Int × List Int × Bool) := (vint_Source_Ok.f s0_0 s0_1).bind fun bt140 => (if bt140.1 = true then (some ((bt140.2.1.length : Int), bt140.2.1, bt140.2.2)) else (some (0, bt140.2.1, bt140.2.2)))
set_option maxHeartbeats 8000000 in
set_option maxRecDepth 100000 in
theorem vint_Source_Left.calls (g : Nat) (s0_0 : List Int) (s0_1 : Bool) (r1 : Int) (r2 : List Int) (r3 : Bool) (w0 w : World) (hI : IsS75 w0 w g s0_0 s0_1) (hB : Below w0.heap.size w0 w) (h : vint_Source_Left.f s0_0 s0_1 = some (r1, r2, r3)) :
    Calls Try.prog 24 #[.pointer (some ⟨g, 0, none⟩)] w fun e w' => e = .returned (.int .i64 r1) ∧ IsS75 w0 w' g r2 r3 ∧ Below w0.heap.size w0 w' ∧ KeepBut w w' g none := by
  have HI0 := Aside0.mk hI
  have HK := Aside0.mk (KeepBut.refl w g none)
  have HL := Aside0.mk hB.size
  clear hI
  have HW0 := Aside0.mk hB.size
  have HB := Aside0.mk hB
  clear hB
  have H : ((vint_Source_Ok.f s0_0 s0_1).bind fun bt140 => (if bt140.1 = true then (some ((bt140.2.1.length : Int), bt140.2.1, bt140.2.2)) else (some (0, bt140.2.1, bt140.2.2)))) = some (r1, r2, r3) := h
  clear h
  replace H := Option.bind_eq_some_iff.mp H
  obtain ⟨⟨t140, t141, t142⟩, A20, H⟩ := H
  replace H : (if t140 = true then (some ((t141.length : Int), t141, t142)) else (some (0, t141, t142))) = some (r1, r2, r3) := H
  have A2 := Aside0.mk A20
  clear A20
  by_cases c3 : t140 = true
  · subst c3
    have H1 : (some ((t141.length : Int), t141, t142)) = some (r1, r2, r3) := by rw [if_pos rfl] at H; exact H
    clear H
    have H := H1
    clear H1
    simp only [Option.some.injEq, Prod.mk.injEq] at H
    obtain ⟨rfl, rfl, rfl⟩ := H
    go_enter Try.func24, Try.ntmps24
    go_wp2_with (first | ((with_reducible refine gate_callee (f := 23) rfl ?_); refine goesL_ (some 4) rfl rfl Try.func23 (by kernel_rfl) rfl #[.pointer (some ⟨g, 0, none⟩)] rfl (by (try simp only [List.map_toArray, List.map_cons, List.map_nil]); first | done | rfl | (simp only [List.length_drop, List.length_take]; rfl)) ?_; (with_reducible refine (vint_Source_Ok.calls g s0_0 s0_1 true t141 t142 w0 _ ?side1 ?side2 A2.out).mono ?_); (case side1 => repeat (first | (with_reducible first | exact HI0.out | apply IsS75.alloc | apply IsS75.drewN | apply IsS75.drew | apply IsS75.set_0 | apply IsS75.set_1) | exact HI0.out)); (case side2 => repeat (first | (with_reducible first | exact HB.out | apply below_alloc | apply pw_below_drewN | apply below_drew1 | refine below_set ?_ (IsS75.ge HI0.out)) | exact HB.out)); rintro e w4 ⟨rfl, hi, hb, hk⟩; refine ⟨_, rfl, ?_⟩; have n0_ := Aside0.mk (KeepBut.trans (by repeat (first | (with_reducible first | exact HK.out | apply KeepBut.set_ | apply keep_drewN | apply keep_drew | apply keep_alloc) | exact HK.out)) hk (.inl rfl)); have n1_ := Aside0.mk (hb); have n2_ := Aside0.mk (hi); clear HK; clear HB; clear HI0; have HK := n0_; have HB := n1_; have HI0 := n2_; clear n0_ n1_ n2_; (try clear hb); (try clear hb2); (try clear hk); (try clear hi); obtain ⟨ASz5_0, cSz5_0, HGz5, hgz5, ⟨HSz5_0, _⟩⟩ := HI0.out; have hcz5_0 := cellS75_0 HGz5; have hcz5_1 := cellS75_1 HGz5; have hfz5_0 := blk_frozen HGz5 0; have hfz5_1 := blk_frozen HGz5 1; clear HGz5 hgz5))
    go_ret
    exact ⟨by first | rfl | (simp [errW_none, errW_some] <;> rfl) | (simp [*, errW_none, errW_some] <;> rfl), by repeat (first | (with_reducible first | exact HI0.out | apply IsS75.alloc | apply IsS75.drewN | apply IsS75.drew | apply IsS75.set_0 | apply IsS75.set_1) | exact HI0.out), by repeat (first | (with_reducible first | exact HB.out | apply below_alloc | apply pw_below_drewN | apply below_drew1 | refine below_set ?_ (IsS75.ge HI0.out)) | exact HB.out), by repeat (first | (with_reducible first | exact HK.out | apply KeepBut.set_ | apply keep_drewN | apply keep_drew | apply keep_alloc) | exact HK.out)⟩
  · replace c3 := Bool.eq_false_iff.mpr c3
    subst c3
    have H1 : (some (0, t141, t142)) = some (r1, r2, r3) := by rw [if_neg (show ¬ (false = true) by decide)] at H; exact H
    clear H
    have H := H1
    clear H1
    simp only [Option.some.injEq, Prod.mk.injEq] at H
    obtain ⟨rfl, rfl, rfl⟩ := H
    go_enter Try.func24, Try.ntmps24
    go_wp2_with (first | ((with_reducible refine gate_callee (f := 23) rfl ?_); refine goesL_ (some 4) rfl rfl Try.func23 (by kernel_rfl) rfl #[.pointer (some ⟨g, 0, none⟩)] rfl (by (try simp only [List.map_toArray, List.map_cons, List.map_nil]); first | done | rfl | (simp only [List.length_drop, List.length_take]; rfl)) ?_; (with_reducible refine (vint_Source_Ok.calls g s0_0 s0_1 false t141 t142 w0 _ ?side1 ?side2 A2.out).mono ?_); (case side1 => repeat (first | (with_reducible first | exact HI0.out | apply IsS75.alloc | apply IsS75.drewN | apply IsS75.drew | apply IsS75.set_0 | apply IsS75.set_1) | exact HI0.out)); (case side2 => repeat (first | (with_reducible first | exact HB.out | apply below_alloc | apply pw_below_drewN | apply below_drew1 | refine below_set ?_ (IsS75.ge HI0.out)) | exact HB.out)); rintro e w6 ⟨rfl, hi, hb, hk⟩; refine ⟨_, rfl, ?_⟩; have n0_ := Aside0.mk (KeepBut.trans (by repeat (first | (with_reducible first | exact HK.out | apply KeepBut.set_ | apply keep_drewN | apply keep_drew | apply keep_alloc) | exact HK.out)) hk (.inl rfl)); have n1_ := Aside0.mk (hb); have n2_ := Aside0.mk (hi); clear HK; clear HB; clear HI0; have HK := n0_; have HB := n1_; have HI0 := n2_; clear n0_ n1_ n2_; (try clear hb); (try clear hb2); (try clear hk); (try clear hi)))
    go_ret
    exact ⟨by first | rfl | (simp [errW_none, errW_some] <;> rfl) | (simp [*, errW_none, errW_some] <;> rfl), by repeat (first | (with_reducible first | exact HI0.out | apply IsS75.alloc | apply IsS75.drewN | apply IsS75.drew | apply IsS75.set_0 | apply IsS75.set_1) | exact HI0.out), by repeat (first | (with_reducible first | exact HB.out | apply below_alloc | apply pw_below_drewN | apply below_drew1 | refine below_set ?_ (IsS75.ge HI0.out)) | exact HB.out), by repeat (first | (with_reducible first | exact HK.out | apply KeepBut.set_ | apply keep_drewN | apply keep_drew | apply keep_alloc) | exact HK.out)⟩

end Go.Proofs.Ytbbffnlefmogbaa.X
/- The contract of (*vint.Source).Fail: it failed, and has nothing left. -/
namespace Go.Proofs.Ytbbffnlefmogbaa.X
open Go.RowKit Go.Proofs.YtbbffnlefmogbaaW.PrintWords Go.Proofs.YtbbffnlefmogbaaW.PrintLast Go.Proofs.YtbbffnlefmogbaaW.PrintMore
set_option linter.unusedVariables false
set_option linter.unusedSimpArgs false
def vint_Source_Fail.f (l : List Int) (bad : Bool) : Option (List Int × Bool) := some ([], true)
set_option maxHeartbeats 8000000 in
set_option maxRecDepth 100000 in
theorem vint_Source_Fail.calls (g : Nat) (s0_0 : List Int) (s0_1 : Bool) (r1 : List Int) (r2 : Bool) (w0 w : World) (hI : IsS75 w0 w g s0_0 s0_1) (hB : Below w0.heap.size w0 w) (h : vint_Source_Fail.f s0_0 s0_1 = some (r1, r2)) :
    Calls Try.prog 59 #[.pointer (some ⟨g, 0, none⟩)] w fun e w' => e = .returned (.tuple #[]) ∧ IsS75 w0 w' g r1 r2 ∧ Below w0.heap.size w0 w' ∧ KeepBut w w' g none := by
  obtain ⟨rfl, rfl⟩ : [] = r1 ∧ true = r2 := by unfold vint_Source_Fail.f at h; injection h with h; injection h with h1 h2; exact ⟨h1, h2⟩
  clear h
  obtain ⟨A0, c0, hb, hg, hr⟩ := hI
  have hne : ∀ w : World, (binOp .neq 35 (.pointer (some ⟨g, 0, none⟩)) (.pointer none)).run Try.prog w = .ok (.bool true) w := fun w => run_neq_pointer_nil w 35 (some ⟨g, 0, none⟩) (by kernel_rfl)
  have h0 : w.cell? ⟨g, 0, none⟩ = some (.slice A0 s0_0.length c0) := (blk_cell hb 0).trans rfl
  have h1 : w.cell? ⟨g, 1, none⟩ = some (.bool s0_1) := (blk_cell hb 1).trans rfl
  have f0 := blk_frozen hb 0
  have f1 := blk_frozen hb 1
  have hu := Try.underlying75
  have HB := Aside0.mk hb
  clear hb
  go_enter Try.func59, Try.ntmps59
  go_wp2
  go_end0
  have h2 := blk_set (blk_set HB.out 1 (.bool true)) 0 (.slice none 0 0)
  refine ⟨rfl, ⟨none, 0, by simpa using h2, hg, Kd.C_nil _ _, Nat.le_refl _⟩, below_set (below_set hB hg) hg, ?_⟩
  exact KeepBut.set_ (KeepBut.set_ (KeepBut.refl _ _ _) 1 _) 0 _
end Go.Proofs.Ytbbffnlefmogbaa.X
/- The contract of vint.From: a source that reads the bytes, in a block of its own. -/
namespace Go.Proofs.Ytbbffnlefmogbaa.X
open Go.RowKit Go.Proofs.YtbbffnlefmogbaaW.PrintWords Go.Proofs.YtbbffnlefmogbaaW.PrintLast Go.Proofs.YtbbffnlefmogbaaW.PrintMore
set_option linter.unusedVariables false
set_option linter.unusedSimpArgs false
def vint_From.f (l0 : List Int) : Option (List Int × Bool) := some (l0, false)
set_option maxHeartbeats 8000000 in
set_option maxRecDepth 100000 in
theorem vint_From.calls2 (A0 : Option Addr) (c0 : Nat) (l0 : List Int) (w0 w : World) (hB : Below w0.heap.size w0 w) (hr0 : Kd.C (Kd.int .u8) w0 A0 l0.length l0) (hc0 : l0.length ≤ c0) :
    Calls Try.prog 19 #[.slice A0 l0.length c0] w fun e w' => ∃ g_ : Nat, e = .returned (.pointer (some ⟨g_, 0, none⟩)) ∧ IsS75 w0 w' g_ l0 false ∧ Below w0.heap.size w0 w' ∧ Below w.heap.size w w' ∧ w.heap.size ≤ g_ := by
  have hu := Try.underlying75
  go_enter Try.func19, Try.ntmps19
  go_wp2
  go_ret
  refine ⟨w.heap.size, rfl, IsS75.new w0 w A0 c0 l0 false hB ⟨hr0, hc0⟩, hB.alloc hB.size _, below_alloc (Below.refl _ _) _, Nat.le_refl _⟩
theorem vint_From.calls (A0 : Option Addr) (c0 : Nat) (l0 : List Int) (r1 : List Int) (r2 : Bool) (w0 w : World) (hB : Below w0.heap.size w0 w) (hr0 : Kd.C (Kd.int .u8) w0 A0 l0.length l0) (hc0 : l0.length ≤ c0) (h : vint_From.f l0 = some (r1, r2)) :
    Calls Try.prog 19 #[.slice A0 l0.length c0] w fun e w' => ∃ g_ : Nat, e = .returned (.pointer (some ⟨g_, 0, none⟩)) ∧ IsS75 w0 w' g_ r1 r2 ∧ Below w0.heap.size w0 w' ∧ Below w.heap.size w w' := by
  unfold vint_From.f at h
  simp only [Option.some.injEq, Prod.mk.injEq] at h
  obtain ⟨rfl, rfl⟩ := h
  exact (vint_From.calls2 A0 c0 l0 w0 w hB hr0 hc0).mono fun e w' ⟨g, h1, h2, h3, h4, _⟩ => ⟨g, h1, h2, h3, h4⟩
end Go.Proofs.Ytbbffnlefmogbaa.X
-- Printed for this claim by a program of this session (wip/xprint.py) over the kit's printer; Lean checks it.
namespace Go.Proofs.Ytbbffnlefmogbaa.X
open Go.RowKit Go.Proofs.YtbbffnlefmogbaaW.PrintWords Go.Proofs.YtbbffnlefmogbaaW.PrintLast Go.Proofs.YtbbffnlefmogbaaW.PrintMore
attribute [local go_sem] max2_int min2_int max_two min_two max_three min_three max_four min_four   -- for this text's walks alone
set_option linter.unusedVariables false
set_option linter.unusedSimpArgs false

/-! ### vint_size: function 91 -/
mutual
def vint_size.l0 : Nat → List Int → Int → Int → Option (Int)
  | 0, _, _, _ => none
  | k + 1, x5, x6, x7 => if x7 < x6 then (if 0 ≤ x7 then (if x7 < (x5.length : Int) then (if x7 = 9 then (vint_size.j1 k x7 (rd x5 x7) x5 x6 x7 (decide ((rd x5 x7) > 1))) else (vint_size.j1 k x7 (rd x5 x7) x5 x6 x7 false)) else (none)) else (none)) else (some 0)
def vint_size.j1 : Nat → Int → Int → List Int → Int → Int → Bool → Option (Int)
  | 0, _, _, _, _, _, _ => none
  | k + 1, x3, x4, x5, x6, x7, x12 => if x12 = true then (vint_size.j2 k x3 x4 x5 x6 x7 x12) else (if x3 > 0 then (vint_size.j2 k x3 x4 x5 x6 x7 (x4 == 0)) else (vint_size.j2 k x3 x4 x5 x6 x7 false))
def vint_size.j2 : Nat → Int → Int → List Int → Int → Int → Bool → Option (Int)
  | 0, _, _, _, _, _, _ => none
  | k + 1, x3, x4, x5, x6, x7, x12 => if x12 = true then (some 0) else (if x4 < 128 then (some (wrap64 (x3 + 1))) else (if x3 = 9 then (some 0) else (vint_size.l0 k x5 x6 (wrap64 (x7 + 1)))))
end
def vint_size.f (k : Nat) (l0 : List Int) : Option (Int) := vint_size.l0 k l0 (l0.length : Int) 0
theorem vint_size.mono_l : ∀ k, (∀ y0 y1 y2, LeO (vint_size.l0 k y0 y1 y2) (vint_size.l0 (k + 1) y0 y1 y2)) ∧ (∀ y0 y1 y2 y3 y4 y5, LeO (vint_size.j1 k y0 y1 y2 y3 y4 y5) (vint_size.j1 (k + 1) y0 y1 y2 y3 y4 y5)) ∧ (∀ y0 y1 y2 y3 y4 y5, LeO (vint_size.j2 k y0 y1 y2 y3 y4 y5) (vint_size.j2 (k + 1) y0 y1 y2 y3 y4 y5))
  | 0 => ⟨fun _ _ _ r h => by simp [vint_size.l0] at h, fun _ _ _ _ _ _ r h => by simp [vint_size.j1] at h, fun _ _ _ _ _ _ r h => by simp [vint_size.j2] at h⟩
  | k + 1 => by
    obtain ⟨ih0, ih1, ih2⟩ := vint_size.mono_l k
    refine ⟨?_, ?_, ?_⟩
    · intro y0 y1 y2
      unfold vint_size.l0
      repeat' first
      | (with_reducible exact ih0 _ _ _)
      | (with_reducible exact ih1 _ _ _ _ _ _)
      | (with_reducible exact ih2 _ _ _ _ _ _)
      | (with_reducible exact LeO.refl _)
      | (with_reducible exact LeO.none _)
      | (with_reducible refine LeO.ite ?_ ?_)
      | (with_reducible refine LeO.bind ?_ (fun _ => ?_))
      | exact ih0 _ _ _
      | exact ih1 _ _ _ _ _ _
      | exact ih2 _ _ _ _ _ _
      | exact LeO.none _
      | refine LeO.ite ?_ ?_
      | refine LeO.bind ?_ (fun _ => ?_)
    · intro y0 y1 y2 y3 y4 y5
      unfold vint_size.j1
      repeat' first
      | (with_reducible exact ih0 _ _ _)
      | (with_reducible exact ih1 _ _ _ _ _ _)
      | (with_reducible exact ih2 _ _ _ _ _ _)
      | (with_reducible exact LeO.refl _)
      | (with_reducible exact LeO.none _)
      | (with_reducible refine LeO.ite ?_ ?_)
      | (with_reducible refine LeO.bind ?_ (fun _ => ?_))
      | exact ih0 _ _ _
      | exact ih1 _ _ _ _ _ _
      | exact ih2 _ _ _ _ _ _
      | exact LeO.none _
      | refine LeO.ite ?_ ?_
      | refine LeO.bind ?_ (fun _ => ?_)
    · intro y0 y1 y2 y3 y4 y5
      unfold vint_size.j2
      repeat' first
      | (with_reducible exact ih0 _ _ _)
      | (with_reducible exact ih1 _ _ _ _ _ _)
      | (with_reducible exact ih2 _ _ _ _ _ _)
      | (with_reducible exact LeO.refl _)
      | (with_reducible exact LeO.none _)
      | (with_reducible refine LeO.ite ?_ ?_)
      | (with_reducible refine LeO.bind ?_ (fun _ => ?_))
      | exact ih0 _ _ _
      | exact ih1 _ _ _ _ _ _
      | exact ih2 _ _ _ _ _ _
      | exact LeO.none _
      | refine LeO.ite ?_ ?_
      | refine LeO.bind ?_ (fun _ => ?_)
theorem vint_size.mono : ∀ a0 k, LeO (vint_size.f k a0) (vint_size.f (k + 1) a0) := by
  intro a0 k
  obtain ⟨ih0, ih1, ih2⟩ := vint_size.mono_l k
  unfold vint_size.f
  repeat' first
      | (with_reducible exact ih0 _ _ _)
      | (with_reducible exact ih1 _ _ _ _ _ _)
      | (with_reducible exact ih2 _ _ _ _ _ _)
      | (with_reducible exact LeO.refl _)
      | (with_reducible exact LeO.none _)
      | (with_reducible refine LeO.ite ?_ ?_)
      | (with_reducible refine LeO.bind ?_ (fun _ => ?_))
      | exact ih0 _ _ _
      | exact ih1 _ _ _ _ _ _
      | exact ih2 _ _ _ _ _ _
      | exact LeO.none _
      | refine LeO.ite ?_ ?_
      | refine LeO.bind ?_ (fun _ => ?_)
set_option maxHeartbeats 8000000 in
set_option maxRecDepth 100000 in
theorem vint_size.calls (k : Nat) (A0 : Option Addr) (c0 : Nat) (l0 : List Int) (r : Int) (w : World) (hr0 : Kd.C (Kd.int .u8) w A0 l0.length l0) (hc0 : l0.length ≤ c0) (h : vint_size.f k l0 = some r) :
    Calls Try.prog 91 #[.slice A0 l0.length c0] w fun e w' => e = .returned (.int .i64 r) ∧ Drawn0 w w' := by
  have HR0 := Aside0.mk hr0
  have HC0 := Aside0.mk hc0
  clear hr0 hc0
  have H : (vint_size.l0 k l0 (l0.length : Int) 0) = some r := h
  clear h
  have H' := Aside0.mk H
  clear H
  go_enter Try.func91, Try.ntmps91
  go_wp2
  go_loopg [7] k (fun kq v7 w' => ∃ (x7_1 : Int), v7 = .int .i64 x7_1 ∧ Aside0 (vint_size.l0 kq l0 (l0.length : Int) x7_1 = some r) ∧ Aside0 (kq ≤ k) ∧ Drawn0 w w')
  case atStart => exact ⟨(0), (by first | rfl | (simp; done) | (simp [*]; done)), H', ⟨Nat.le_refl _⟩, by repeat (first | exact Drawn0.refl _ | apply Drawn0.step)⟩
  case round =>
    clear H'
    obtain ⟨x7_1, rfl, HA, HK1, ⟨m1, rfl⟩⟩ := hrel
    cases gk with
    | zero => exact absurd HA.out (by simp [vint_size.l0])
    | succ k1 =>
      have H := HA.out
      clear HA
      simp only [vint_size.l0] at H
      by_cases c2 : x7_1 < (l0.length : Int)
      · rw [if_pos c2] at H
        have c2b0 : decide (x7_1 < (l0.length : Int)) = true := decide_eq_true c2
        clear c2
        by_cases c3 : 0 ≤ x7_1
        · rw [if_pos c3] at H
          have c3b0 : decide (0 ≤ x7_1) = true := decide_eq_true c3
          clear c3
          by_cases c4 : x7_1 < (l0.length : Int)
          · rw [if_pos c4] at H
            have c4b0 : decide (x7_1 < (l0.length : Int)) = true := decide_eq_true c4
            clear c4
            have HC5 := Aside0.mk H
            clear H
            have p143 : 0 ≤ (x7_1 : Int) := of_decide_eq_true (by first | (with_reducible assumption) | assumption)
            have q143 : x7_1 < (l0.length : Int) := of_decide_eq_true (by first | (with_reducible assumption) | assumption)
            obtain ⟨ad143, e143, hx143_0⟩ := Kd.at_int HR0.out x7_1 p143 q143
            cases e143
            replace p143 := eq_true p143
            replace q143 := eq_true q143
            go_upto_region 4 with (fail)
            go_cut [12] (fun v12 wc => ∃ (kq : Nat) (x12_4 : Bool), v12 = .bool x12_4 ∧ Aside0 (vint_size.j1 kq x7_1 (rd l0 x7_1) l0 (l0.length : Int) x7_1 x12_4 = some r) ∧ Aside0 (kq ≤ k1) ∧ Drawn0 w wc)
            case first =>
              have H := HC5.out
              clear HC5
              by_cases c6 : x7_1 = 9
              · rw [if_pos c6] at H
                have c6b0 : (x7_1 == 9) = true := beq_iff_eq.mpr c6
                have c6b1 : (x7_1 != 9) = false := bne_eq_false_iff_eq.mpr c6
                clear c6
                (first | rw [c6b0] | (simp only [i64_w, i32_w]; rw [c6b0]) | skip)
                have H' := Aside0.mk H
                clear H
                go_wp2
                go_meet
                case rel => exact ⟨_, (decide ((rd l0 x7_1) > 1)), (by first | rfl | (simp; done) | (simp [*]; done)), H', ⟨by have := HK1.out; first | omega | exact Nat.le_refl _⟩, by repeat (first | exact Drawn0.refl _ | apply Drawn0.step)⟩
              · rw [if_neg c6] at H
                have c6b0 : (x7_1 == 9) = false := beq_eq_false_iff_ne.mpr c6
                have c6b1 : (x7_1 != 9) = true := bne_iff_ne.mpr c6
                (first | rw [c6b0] | (simp only [i64_w, i32_w]; rw [c6b0]) | skip)
                have H' := Aside0.mk H
                clear H
                go_wp2
                go_meet
                case rel => exact ⟨_, (false), (by first | rfl | (simp; done) | (simp [*]; done)), H', ⟨by have := HK1.out; first | omega | exact Nat.le_refl _⟩, by repeat (first | exact Drawn0.refl _ | apply Drawn0.step)⟩
            case rest =>
              clear HC5
              try clear p1
              try clear q1
              try clear hx1
              try clear c2
              try clear c2b0
              try clear p2
              try clear c3
              try clear c3b0
              try clear c4
              try clear c4b0
              try clear c6
              try clear c6b0
              try clear c6b1
              try clear hx143_0
              try clear p143
              try clear q143
              obtain ⟨kq, x12_4, rfl, HA, HJ4, ⟨mc4, rfl⟩⟩ := hcut
              cases kq with
              | zero => exact absurd HA.out (by simp [vint_size.j1])
              | succ kj4 =>
                have H := HA.out
                clear HA
                simp only [vint_size.j1] at H
                have HC7 := Aside0.mk H
                clear H
                go_upto_if 12 with (fail)
                go_cut [12] (fun v12 wc => ∃ (kq : Nat) (x12_6 : Bool), v12 = .bool x12_6 ∧ Aside0 (vint_size.j2 kq x7_1 (rd l0 x7_1) l0 (l0.length : Int) x7_1 x12_6 = some r) ∧ Aside0 (kq ≤ kj4) ∧ Drawn0 w wc)
                case first =>
                  have H := HC7.out
                  clear HC7
                  by_cases c8 : x12_4 = true
                  · subst c8
                    have H1 : (vint_size.j2 kj4 x7_1 (rd l0 x7_1) l0 (l0.length : Int) x7_1 true) = some r := by rw [if_pos rfl] at H; exact H
                    clear H
                    have H := H1
                    clear H1
                    have H' := Aside0.mk H
                    clear H
                    go_wp2
                    go_meet
                    case rel => exact ⟨_, (true), (by first | rfl | (simp; done) | (simp [*]; done)), H', ⟨by have := HK1.out; have := HJ4.out; first | omega | exact Nat.le_refl _⟩, by repeat (first | exact Drawn0.refl _ | apply Drawn0.step)⟩
                  · replace c8 := Bool.eq_false_iff.mpr c8
                    subst c8
                    have H1 : (if x7_1 > 0 then (vint_size.j2 kj4 x7_1 (rd l0 x7_1) l0 (l0.length : Int) x7_1 ((rd l0 x7_1) == 0)) else (vint_size.j2 kj4 x7_1 (rd l0 x7_1) l0 (l0.length : Int) x7_1 false)) = some r := by rw [if_neg (show ¬ (false = true) by decide)] at H; exact H
                    clear H
                    have H := H1
                    clear H1
                    by_cases c9 : x7_1 > 0
                    · rw [if_pos c9] at H
                      have c9b0 : decide (0 < x7_1) = true := decide_eq_true c9
                      clear c9
                      (first | rw [c9b0] | (simp only [i64_w, i32_w]; rw [c9b0]) | skip)
                      have H' := Aside0.mk H
                      clear H
                      go_wp2
                      go_meet
                      case rel => exact ⟨_, (((rd l0 x7_1) == 0)), (by first | rfl | (simp; done) | (simp [*]; done)), H', ⟨by have := HK1.out; have := HJ4.out; first | omega | exact Nat.le_refl _⟩, by repeat (first | exact Drawn0.refl _ | apply Drawn0.step)⟩
                    · rw [if_neg c9] at H
                      have c9b0 : decide (0 < x7_1) = false := decide_eq_false c9
                      clear c9
                      (first | rw [c9b0] | (simp only [i64_w, i32_w]; rw [c9b0]) | skip)
                      have H' := Aside0.mk H
                      clear H
                      go_wp2
                      go_meet
                      case rel => exact ⟨_, (false), (by first | rfl | (simp; done) | (simp [*]; done)), H', ⟨by have := HK1.out; have := HJ4.out; first | omega | exact Nat.le_refl _⟩, by repeat (first | exact Drawn0.refl _ | apply Drawn0.step)⟩
                case rest =>
                  clear HC7
                  try clear p1
                  try clear q1
                  try clear hx1
                  try clear c2
                  try clear c2b0
                  try clear p2
                  try clear c3
                  try clear c3b0
                  try clear c4
                  try clear c4b0
                  try clear c6
                  try clear c6b0
                  try clear c6b1
                  try clear c8
                  try clear c9
                  try clear c9b0
                  try clear hx143_0
                  try clear p1
                  try clear p143
                  try clear p2
                  try clear q1
                  try clear q143
                  obtain ⟨kq, x12_6, rfl, HA, HJ6, ⟨mc6, rfl⟩⟩ := hcut
                  cases kq with
                  | zero => exact absurd HA.out (by simp [vint_size.j2])
                  | succ kj6 =>
                    have H := HA.out
                    clear HA
                    simp only [vint_size.j2] at H
                    by_cases c10 : x12_6 = true
                    · subst c10
                      have H1 : (some 0) = some r := by rw [if_pos rfl] at H; exact H
                      clear H
                      have H := H1
                      clear H1
                      obtain rfl := Option.some.inj H
                      go_wp2
                      go_ret
                      exact ⟨by first | rfl | (simp; done) | (simp [*]; done), by repeat (first | exact Drawn0.refl _ | apply Drawn0.step)⟩
                    · replace c10 := Bool.eq_false_iff.mpr c10
                      subst c10
                      have H1 : (if (rd l0 x7_1) < 128 then (some (wrap64 (x7_1 + 1))) else (if x7_1 = 9 then (some 0) else (vint_size.l0 kj6 l0 (l0.length : Int) (wrap64 (x7_1 + 1))))) = some r := by rw [if_neg (show ¬ (false = true) by decide)] at H; exact H
                      clear H
                      have H := H1
                      clear H1
                      by_cases c11 : (rd l0 x7_1) < 128
                      · rw [if_pos c11] at H
                        have c11b0 : decide ((rd l0 x7_1) < 128) = true := decide_eq_true c11
                        clear c11
                        obtain rfl := Option.some.inj H
                        go_wp2
                        go_ret
                        exact ⟨by first | rfl | (simp; done) | (simp [*]; done), by repeat (first | exact Drawn0.refl _ | apply Drawn0.step)⟩
                      · rw [if_neg c11] at H
                        have c11b0 : decide ((rd l0 x7_1) < 128) = false := decide_eq_false c11
                        clear c11
                        by_cases c12 : x7_1 = 9
                        · rw [if_pos c12] at H
                          have c12b0 : (x7_1 == 9) = true := beq_iff_eq.mpr c12
                          have c12b1 : (x7_1 != 9) = false := bne_eq_false_iff_eq.mpr c12
                          clear c12
                          obtain rfl := Option.some.inj H
                          go_wp2
                          go_ret
                          exact ⟨by first | rfl | (simp; done) | (simp [*]; done), by repeat (first | exact Drawn0.refl _ | apply Drawn0.step)⟩
                        · rw [if_neg c12] at H
                          have c12b0 : (x7_1 == 9) = false := beq_eq_false_iff_ne.mpr c12
                          have c12b1 : (x7_1 != 9) = true := bne_iff_ne.mpr c12
                          have H' := Aside0.mk H
                          clear H
                          go_wp2
                          go_roundg kj6
                          case measure => have := HK1.out; have := HJ4.out; have := HJ6.out; omega
                          case rel => exact ⟨(wrap64 (x7_1 + 1)), (by first | rfl | (simp; done) | (simp [*]; done)), H', ⟨by have := HK1.out; have := HJ4.out; have := HJ6.out; omega⟩, by repeat (first | exact Drawn0.refl _ | apply Drawn0.step)⟩
          · rw [if_neg c4] at H
            exact absurd H (by simp)
        · rw [if_neg c3] at H
          exact absurd H (by simp)
      · rw [if_neg c2] at H
        have c2b0 : decide (x7_1 < (l0.length : Int)) = false := decide_eq_false c2
        clear c2
        obtain rfl := Option.some.inj H
        go_wp2
        go_ret
        exact ⟨by first | rfl | (simp; done) | (simp [*]; done), by repeat (first | exact Drawn0.refl _ | apply Drawn0.step)⟩

end Go.Proofs.Ytbbffnlefmogbaa.X
/- The contract of (*vint.Source).Num: the number that the bytes begin with, and what is left behind it; or it failed. -/
namespace Go.Proofs.Ytbbffnlefmogbaa.X
open Go.RowKit Go.Proofs.YtbbffnlefmogbaaW.PrintWords Go.Proofs.YtbbffnlefmogbaaW.PrintLast Go.Proofs.YtbbffnlefmogbaaW.PrintMore
set_option linter.unusedVariables false
set_option linter.unusedSimpArgs false
open Go.Proofs.Ytbbffnlefmogbaa.Dec
def vint_Source_Num.f (l : List Int) (bad : Bool) : Option (Int × List Int × Bool) := if Fit l then some (numS l bad) else none
theorem size_loop (l : List Int) (hb : IsBytes l) (hl : l.length < 1000000000000) (d : Nat) : ∀ (k i : Nat), i + d = 10 → 1 ≤ d → 3 * d < k →
    vint_size.l0 k l (l.length : Int) (i : Int) = some ((szS i (l.drop i) : Nat) : Int) := by
  induction d with
  | zero => intro k i h1 h2; omega
  | succ d ih =>
    intro k i hd _ hk
    obtain ⟨k, rfl⟩ : ∃ m, k = m + 3 := ⟨k - 3, by omega⟩
    rw [vint_size.l0]
    by_cases hi : i < l.length
    · have hc := hb.get i
      rw [if_pos (by omega), if_pos (by omega), if_pos (by omega), drop_get hi]
      have hrd : rd l (i : Int) = l.getD i 0 := rfl
      rw [hrd]
      generalize l.getD i 0 = c at hc
      have hw : wrap64 ((i : Int) + 1) = ((i + 1 : Nat) : Int) := by rw [w64 (by omega) (by omega)]; omega
      have hs (hn : ¬ ((i = 9 ∧ 1 < c) ∨ (0 < i ∧ c = 0))) : szS i (c :: l.drop (i + 1)) = if c < 128 then i + 1 else if i = 9 then 0 else szS (i + 1) (l.drop (i + 1)) := by rw [szS, if_neg hn]
      have hz (hn : (i = 9 ∧ 1 < c) ∨ (0 < i ∧ c = 0)) : szS i (c :: l.drop (i + 1)) = 0 := by rw [szS, if_pos hn]
      by_cases h9 : i = 9
      · have h9' : (i : Int) = 9 := by omega
        rw [if_pos h9']
        by_cases hc1 : 1 < c
        · rw [decide_eq_true (by omega : c > 1), vint_size.j1, if_pos rfl, vint_size.j2, if_pos rfl, hz (by omega)]
          rfl
        · rw [decide_eq_false (by omega : ¬ c > 1), vint_size.j1, if_neg (by decide), if_pos (by omega)]
          by_cases hc0 : c = 0
          · rw [hz (by omega), hc0, beq_self_eq_true, vint_size.j2, if_pos rfl]; rfl
          · rw [hs (by omega), beq_eq_false_iff_ne.mpr hc0, vint_size.j2, if_neg (by decide), if_pos (by omega : c < 128), if_pos (by omega : c < 128), hw]
      · have h9' : ¬ (i : Int) = 9 := by omega
        rw [if_neg h9', vint_size.j1, if_neg (by decide)]
        by_cases hi0 : i = 0
        · rw [if_neg (by omega), vint_size.j2, if_neg (by decide), hs (by omega)]
          by_cases hc8 : c < 128
          · rw [if_pos hc8, if_pos hc8, hw]
          · rw [if_neg hc8, if_neg hc8, if_neg h9', if_neg h9, hw, ih k (i + 1) (by omega) (by omega) (by omega)]
        · rw [if_pos (by omega)]
          by_cases hc0 : c = 0
          · rw [hz (by omega), hc0, beq_self_eq_true, vint_size.j2, if_pos rfl]; rfl
          · rw [hs (by omega), beq_eq_false_iff_ne.mpr hc0, vint_size.j2, if_neg (by decide)]
            by_cases hc8 : c < 128
            · rw [if_pos hc8, if_pos hc8, hw]
            · rw [if_neg hc8, if_neg hc8, if_neg h9', if_neg h9, hw, ih k (i + 1) (by omega) (by omega) (by omega)]
    · rw [if_neg (by omega), List.drop_eq_nil_of_le (by omega)]; rfl
theorem size_is (l : List Int) (h : Fit l) : vint_size.f 40 l = some ((szS 0 l : Nat) : Int) := by
  unfold vint_size.f
  have := size_loop l h.1 h.2 10 40 0 (by omega) (by omega) (by omega)
  rw [List.drop_zero] at this
  exact this
theorem low_seven (c : Int) (h0 : 0 ≤ c) (h1 : c < 256) : Go.bits .andNot .u8 c 128 = ((c.toNat % 128 : Nat) : Int) := by
  rw [u8_andNot _ _ h0 h1 (by omega) (by omega), show 255 - (128 : Int).toNat = 2 ^ 7 - 1 by decide, Nat.and_two_pow_sub_one_eq_mod]
theorem or_step {l : List Int} (hb : IsBytes l) {j : Nat} (hj : j < szS 0 l) :
    Go.bits .or .u64 ((valS 0 (l.take j) : Nat) : Int) (IntKind.u64.wrap (IntKind.u64.wrap (Go.bits .andNot .u8 (l[j]?.getD 0) 128) * 2 ^ (7 * j))) = ((valS 0 (l.take (j + 1)) : Nat) : Int) := by
  have hle := szS_le l 0 (by decide)
  have hc := hb.get j
  have hp := part_lt hb hj
  have hv := val_lt hb (Nat.le_of_lt hj)
  have hlt := valS_lt (l.take j) 0
  rw [List.length_take, Nat.min_eq_left (by omega), Nat.zero_add] at hlt
  rw [valS_take (by omega)]
  rw [show l[j]?.getD 0 = l.getD j 0 from rfl, low_seven _ hc.1 hc.2]
  generalize (l.getD j 0).toNat % 128 = m at hp ⊢
  generalize valS 0 (l.take j) = v at hv hlt ⊢
  have hm : m < 18446744073709551616 := Nat.lt_of_le_of_lt (Nat.le_mul_of_pos_right _ (Nat.two_pow_pos _)) hp
  have hw1 : IntKind.u64.wrap (m : Int) = m := by rw [IntKind.wrap_u64, Int.emod_eq_of_lt (by omega) (by omega)]
  have hcast : (m : Int) * 2 ^ (7 * j) = ((m * 2 ^ (7 * j) : Nat) : Int) := by simp
  rw [hw1, hcast, IntKind.wrap_u64]
  have hor := Nat.two_pow_add_eq_or_of_lt hlt m
  rw [Nat.mul_comm] at hor
  generalize m * 2 ^ (7 * j) = x at hp hor ⊢
  rw [Int.emod_eq_of_lt (by omega) (by omega), u64_or _ _ (by omega) (by omega) (by omega) (by omega), Int.toNat_natCast, Int.toNat_natCast, Nat.or_comm, ← hor, Nat.add_comm]
set_option maxHeartbeats 8000000 in
set_option maxRecDepth 100000 in
theorem vint_Source_Num.calls (g : Nat) (s0_0 : List Int) (s0_1 : Bool) (r1 : Int) (r2 : List Int) (r3 : Bool) (w0 w : World) (hI : IsS75 w0 w g s0_0 s0_1) (hB : Below w0.heap.size w0 w) (h : vint_Source_Num.f s0_0 s0_1 = some (r1, r2, r3)) :
    Calls Try.prog 83 #[.pointer (some ⟨g, 0, none⟩)] w fun e w' => e = .returned (.int .u64 r1) ∧ IsS75 w0 w' g r2 r3 ∧ Below w0.heap.size w0 w' ∧ KeepBut w w' g none := by
  unfold vint_Source_Num.f at h
  by_cases hf : Fit s0_0
  case neg => rw [if_neg hf] at h; cases h
  rw [if_pos hf] at h
  have h := Option.some.inj h
  unfold numS at h
  have hu := Try.underlying75
  cases s0_1 with
  | true =>
    rw [if_pos rfl] at h
    simp only [Prod.mk.injEq] at h
    obtain ⟨rfl, rfl, rfl⟩ := h
    go_enter Try.func83, Try.ntmps83
    go_wp2_with fail
    refine (vint_Source_Ok.calls g s0_0 true false s0_0 true w0 _ hI hB rfl).mono ?_
    rintro e w1 ⟨rfl, hI1, hB1, hK1⟩
    go_wp2_with fail
    go_ret
    exact ⟨rfl, hI1, hB1, hK1⟩
  | false =>
    rw [if_neg (by decide)] at h
    have hle := szS_le s0_0 0 (by decide)
    have hsz := size_is s0_0 hf
    have hstep := fun j => or_step hf.1 (j := j)
    have hfin := val_lt hf.1 (Nat.le_refl (szS 0 s0_0))
    generalize szS 0 s0_0 = k at h hle hsz hstep hfin
    have HSTEP := Lib.hid hstep
    clear hstep
    have hlen := hf.2
    go_enter Try.func83, Try.ntmps83
    go_wp2_with fail
    refine (vint_Source_Ok.calls g s0_0 false true s0_0 false w0 _ hI hB rfl).mono ?_
    rintro e w1 ⟨rfl, hI1, hB1, hK1⟩
    have HI1 := Aside0.mk hI1
    have HH := Aside0.mk h
    clear hI h
    obtain ⟨A1, c1, hb1, hg1, hr1, hc1⟩ := hI1
    have h0 : w1.cell? ⟨g, 0, none⟩ = some (.slice A1 s0_0.length c1) := (blk_cell hb1 0).trans rfl
    have HB1 := Aside0.mk hb1
    clear hb1
    go_wp2_with fail
    refine (vint_size.calls 40 A1 c1 s0_0 (k : Int) _ (Kd.C_below hr1 hB1) hc1 hsz).mono ?_
    rintro e w2 ⟨rfl, ⟨nd, rfl⟩⟩
    by_cases hk0 : k = 0
    · subst hk0
      go_wp2_with fail
      refine (vint_Source_Fail.calls g s0_0 false [] true w0 _ (IsS75.drewN HI1.out nd) (pw_below_drewN hB1 nd) rfl).mono ?_
      rintro e w2 ⟨rfl, hI2, hB2, hK2⟩
      have h := HH.out
      simp only [if_true, Prod.mk.injEq] at h
      obtain ⟨rfl, rfl, rfl⟩ := h
      go_wp2_with fail
      go_ret
      exact ⟨rfl, hI2, hB2, (keep_drewN hK1 nd).trans hK2 (.inl rfl)⟩
    · have hkb : ((k : Int) == 0) = false := by rw [beq_eq_false_iff_ne]; omega
      have hrw := Kd.C_below hr1 hB1
      obtain ⟨ad, rfl, _⟩ := Kd.at_int hrw 0 (by omega) (by omega)
      have hcells : ∀ j : Nat, j < s0_0.length → w1.cell? (ad.add j) = some (.int .u8 (s0_0.getD j 0)) := fun j hj => by
        obtain ⟨ad', he, hcell⟩ := Kd.at_int hrw (j : Int) (by omega) (by omega)
        obtain rfl := Option.some.inj he
        exact hcell
      go_wp2_with fail
      go_loop [4, 26] (fun n i => ∃ j : Nat, j ≤ k ∧ i = .int .i64 (j : Int) ∧ n = .int .u64 ((valS 0 (s0_0.take j) : Nat) : Int)) (fun _ i => k - (intOf i).toNat)
      case atStart => exact ⟨0, Nat.zero_le _, rfl, rfl⟩
      case round =>
        obtain ⟨j, hjk, rfl, rfl⟩ := hrel
        by_cases hlt : j < k
        · have hcell := hcells j (by omega)
          have hcb := hf.1.get j
          clear hcells
          go_wp2_with fail
          go_round
          case rel => exact ⟨j + 1, by omega, by go_num, by rw [HSTEP.out j hlt]⟩
          case measure => simp [intOf]; omega
        · have hjk2 : j = k := by omega
          have hlt' : decide (j < k) = false := decide_eq_false hlt
          subst hjk2
          clear hcells
          have f0 := blk_frozen HB1.out 0
          have HD := Lib.hid (Kd.C_drop (m := j) hr1 (by omega) hc1)
          have HL := Lib.hid (show (s0_0.drop j).length = s0_0.length - j from List.length_drop)
          have h := HH.out
          rw [if_neg hk0] at h
          simp only [Prod.mk.injEq] at h
          obtain ⟨rfl, rfl, rfl⟩ := h
          clear hrw hr1 HH
          by_cases hcj : c1 = j
          · subst hcj
            go_wp2_with fail
            go_ret
            have hl0 : s0_0.length - c1 = 0 := by omega
            refine ⟨rfl, ⟨some ad, 0, ?_, hg1, ?_, ?_⟩, below_set (pw_below_drewN hB1 nd) hg1, KeepBut.set_ (keep_drewN hK1 nd) 0 _⟩
            · have h2 := blk_set (blk_drewN HB1.out nd) 0 (.slice (some ad) 0 0)
              have e : (s0_0.drop c1).length = 0 := by rw [HL.out]; exact hl0
              rw [e]
              simpa [hl0] using h2
            · have := HD.out
              simp only [if_true] at this
              exact this
            · rw [HL.out]; omega
          · go_wp2_with fail
            go_ret
            refine ⟨rfl, ⟨some (ad.add j), c1 - j, ?_, hg1, ?_, ?_⟩, below_set (pw_below_drewN hB1 nd) hg1, KeepBut.set_ (keep_drewN hK1 nd) 0 _⟩
            · have h2 := blk_set (blk_drewN HB1.out nd) 0 (.slice (some (ad.add j)) (s0_0.length - j) (c1 - j))
              rw [← HL.out] at h2
              simpa using h2
            · have := HD.out
              rw [if_neg hcj] at this
              have e : (Kd.int .u8).sz = 1 := rfl
              rw [e, Nat.mul_one] at this
              exact this
            · rw [HL.out]; omega
end Go.Proofs.Ytbbffnlefmogbaa.X
/- The contract of bytes.Clone: a copy of the bytes, in memory of its own. -/
namespace Go.Proofs.Ytbbffnlefmogbaa.X
open Go.RowKit Go.Proofs.YtbbffnlefmogbaaW.PrintWords Go.Proofs.YtbbffnlefmogbaaW.PrintLast Go.Proofs.YtbbffnlefmogbaaW.PrintMore
set_option linter.unusedVariables false
set_option linter.unusedSimpArgs false
def bytes_Clone.f (l0 : List Int) : Option (List Int) := if l0.length < 140737488355328 then some l0 else none
set_option maxHeartbeats 8000000 in
set_option maxRecDepth 100000 in
theorem bytes_Clone.calls (A0 : Option Addr) (c0 : Nat) (l0 : List Int) (r : List Int) (w : World) (hr0 : Kd.C (Kd.int .u8) w A0 l0.length l0) (hc0 : l0.length ≤ c0) (h : bytes_Clone.f l0 = some r) :
    Calls Try.prog 86 #[.slice A0 l0.length c0] w fun e w' => ∃ v0_ : Value, e = .returned v0_ ∧ Kd.R (Kd.int .u8) 5 w' w.heap.size (fun _ => True) v0_ r ∧ Below w.heap.size w w' := by
  unfold bytes_Clone.f at h
  by_cases hf : l0.length < 140737488355328
  case neg => rw [if_neg hf] at h; cases h
  rw [if_pos hf] at h
  obtain rfl := Option.some.inj h
  clear h
  have HR0 := Aside0.mk hr0
  have HL := Aside0.mk hf
  clear hf
  cases A0 with
  | none =>
    have hl0 : l0 = [] := by
      rcases Nat.eq_zero_or_pos l0.length with h | h
      · exact List.eq_nil_of_length_eq_zero h
      · obtain ⟨ad, hn, _⟩ := hr0.2.2 h; cases hn
    subst hl0
    have hnil : ∀ W, (binOp .eql 24 (.slice none 0 c0) (.slice none 0 0)).run Try.prog W = .ok (.bool true) W := fun W => Lib.run_eql_slice_nil W _ _ _ _ _ _ _ Try.underlying24
    go_enter Try.func86, Try.ntmps86
    go_wp2_with fail
    go_ret
    exact ⟨_, rfl, Kd.R_nil _ _ _ _ _, Below.refl _ _⟩
  | some ad =>
    have hnil : ∀ W, (binOp .eql 24 (.slice (some ad) l0.length c0) (.slice none 0 0)).run Try.prog W = .ok (.bool false) W := fun W => Lib.run_eql_slice_nil W _ _ _ _ _ _ _ Try.underlying24
    go_enter Try.func86, Try.ntmps86
    go_wp2_with (first | ((with_reducible refine gate_dst (N := 5) rfl ?_); refine Kd.R_lit (Kd.int .u8) _ 5 ?hg (N := 5) ?hd (xs := ([] : List Int)) (inner := []) (ok := fun _ => True) (okp := fun _ => True) ?hr ?hp (fun _ hk => hk) trivial (Below.refl _ _) (Nat.le_refl _) (by simp) ?_; (case hd => rfl); (case hg => rfl); (case hr => first | (go_simp; done) | (go_simp; rfl)); (case hp => exact (Reps.none _ _)); intro v205 w2 ho3 hb hg_ hnew_; clear hg_ hnew_; have HO := Aside0.mk ho3; have HB := Aside0.mk hb; clear ho3 hb) | ((with_reducible refine gate_builtin (b := .append) (xs := #[.tmp 5, .tmp 6]) rfl ?_); at_builtin; refine Kd.R_append_rows (Kd.int .u8) (w0 := w) w.heap.size rfl (.tmp 5) (.tmp 6) 24 5 (.int .u8 0) 1 rfl Try.underlying24 info5 rfl (by decide) (by omega) v205 [] l0 _ _ _ (fun _ => True) (fun _ => False) rfl rfl HO.out (Kd.C_below HR0.out HB.out) (fun _ _ h => h) (fun _ h => h.elim) (fun _ _ => trivial) HB.out (below_size HB.out) (by have := HL.out; rw [List.length_nil]; omega) ?_; intro v4 w4 ho hb hg hat; have HO4 := Aside0.mk ho; have HB4 := Aside0.mk hb; clear HO HB ho hb hg hat))
    go_ret
    exact ⟨_, rfl, by have := HO4.out; rwa [List.nil_append] at this, HB4.out⟩
end Go.Proofs.Ytbbffnlefmogbaa.X
