-- Printed for this claim by a program of this session (wip/xprint.py) over the kit's printer; Lean checks it.
import Derived.Test.YtkdlfejokahohaaX0
import Derived.Test.YtkdlfejokahohaaX1
import Derived.Test.YtkdlfejokahohaaX2
import Derived.Test.YtkdlfejokahohaaX5
import Derived.Test.YtkdlfejokahohaaX6
import Derived.Test.YtkdlfejokahohaaFoldValue
namespace Go.Proofs.Ytkdlfejokahohaa.X
open Go.RowKit Go.Proofs.YtkdlfejokahohaaW.PrintWords Go.Proofs.YtkdlfejokahohaaW.PrintLast Go.Proofs.YtkdlfejokahohaaW.PrintMore
attribute [local go_sem] max2_int min2_int max_two min_two max_three min_three max_four min_four   -- for this text's walks alone
set_option linter.unusedVariables false
open List (setIfInBounds_toArray set_cons_zero set_cons_succ)
set_option linter.unusedSimpArgs false

attribute [local go_sem high] eqA23
/-! ### firkinlaw22_FoldOrders: function 11 -/
mutual
def firkinlaw22_FoldOrders.j0 : Nat → List (S23) → List Int → Bool → Option (Bool)
 | 0, _, _, _ => none
 | k + 1, x0, x1, x17 => if x17 = true then ((firkinlaw22_live.f k).bind fun t224 => (some t224)) else ((some (([] : List (S23)) : List (S23))).bind fun y225 => (if y225.length + x0.length < 4398046511104 then ((fold_New.f).bind fun bt231 => (firkinlaw22_FoldOrders.l0 k x0 x1 (y225 ++ x0) 0 bt231.1 bt231.2.1 bt231.2.2.1 bt231.2.2.2.1 bt231.2.2.2.2.1 bt231.2.2.2.2.2.1 bt231.2.2.2.2.2.2.1 bt231.2.2.2.2.2.2.2.1 bt231.2.2.2.2.2.2.2.2)) else (none)))
def firkinlaw22_FoldOrders.l0 : Nat → List (S23) → List Int → List (S23) → Int → Int → Int → Int → Bool → Int → ByteArray → Bool → Int → ByteArray → Option (Bool)
 | 0, _, _, _, _, _, _, _, _, _, _, _, _, _ => none
 | k + 1, x0, x1, x5, x7, x241000, x241001, x241002, x241003, x241004, x241005, x241006, x241007, x241008 => if (x5.length : Int) > 0 then (if x7 < (x1.length : Int) then (if 0 ≤ x7 then (if (x5.length : Int) = 0 then (none) else (if 0 ≤ (Int.tmod (wrap64 (rd x1 x7)) (x5.length : Int)) then (if (Int.tmod (wrap64 (rd x1 x7)) (x5.length : Int)) < (x5.length : Int) then ((fold_State_Add.f k x241000 x241001 x241002 x241003 x241004 x241005 x241006 x241007 x241008 ((rd_T23 x5 (Int.tmod (wrap64 (rd x1 x7)) (x5.length : Int))).f0) ((rd_T23 x5 (Int.tmod (wrap64 (rd x1 x7)) (x5.length : Int))).f1) ((rd_T23 x5 (Int.tmod (wrap64 (rd x1 x7)) (x5.length : Int))).f2)).bind fun bt243 => ((some (([] : List (S23)) : List (S23))).bind fun y252 => (if (Int.tmod (wrap64 (rd x1 x7)) (x5.length : Int)) ≤ (x5.length : Int) then ((some (x5.take ((Int.tmod (wrap64 (rd x1 x7)) (x5.length : Int)) : Int).toNat : List (S23))).bind fun y255 => (if y252.length + y255.length < 4398046511104 then ((some (y252 ++ y255 : List (S23))).bind fun y259 => (if 0 ≤ (wrap64 ((Int.tmod (wrap64 (rd x1 x7)) (x5.length : Int)) + 1)) then (if (wrap64 ((Int.tmod (wrap64 (rd x1 x7)) (x5.length : Int)) + 1)) ≤ (x5.length : Int) then ((some (x5.drop ((wrap64 ((Int.tmod (wrap64 (rd x1 x7)) (x5.length : Int)) + 1)) : Int).toNat : List (S23))).bind fun y262 => (if y259.length + y262.length < 4398046511104 then (firkinlaw22_FoldOrders.l0 k x0 x1 (y259 ++ y262) (wrap64 (x7 + 1)) bt243.1 bt243.2.1 bt243.2.2.1 bt243.2.2.2.1 bt243.2.2.2.2.1 bt243.2.2.2.2.2.1 bt243.2.2.2.2.2.2.1 bt243.2.2.2.2.2.2.2.1 bt243.2.2.2.2.2.2.2.2) else (none))) else (none)) else (none))) else (none))) else (none)))) else (none)) else (none))) else (none)) else (if 0 < (x5.length : Int) then ((fold_State_Add.f k x241000 x241001 x241002 x241003 x241004 x241005 x241006 x241007 x241008 ((rd_T23 x5 0).f0) ((rd_T23 x5 0).f1) ((rd_T23 x5 0).f2)).bind fun bt270 => ((some (([] : List (S23)) : List (S23))).bind fun y279 => (if 0 ≤ (x5.length : Int) then ((some (x5.take 0 : List (S23))).bind fun y282 => (if y279.length + y282.length < 4398046511104 then ((some (y279 ++ y282 : List (S23))).bind fun y286 => (if 1 ≤ (x5.length : Int) then ((some (x5.drop 1 : List (S23))).bind fun y289 => (if y286.length + y289.length < 4398046511104 then (firkinlaw22_FoldOrders.l0 k x0 x1 (y286 ++ y289) (wrap64 (x7 + 1)) bt270.1 bt270.2.1 bt270.2.2.1 bt270.2.2.2.1 bt270.2.2.2.2.1 bt270.2.2.2.2.2.1 bt270.2.2.2.2.2.2.1 bt270.2.2.2.2.2.2.2.1 bt270.2.2.2.2.2.2.2.2) else (none))) else (none))) else (none))) else (none)))) else (none))) else (firkinlaw22_FoldOrders.l1 k x0 (-1) x241000 x241001 x241002 x241003 x241004 x241005 x241006 x241007 x241008)
def firkinlaw22_FoldOrders.l1 : Nat → List (S23) → Int → Int → Int → Int → Bool → Int → ByteArray → Bool → Int → ByteArray → Option (Bool)
 | 0, _, _, _, _, _, _, _, _, _, _, _ => none
 | k + 1, x0, x9, x241000, x241001, x241002, x241003, x241004, x241005, x241006, x241007, x241008 => if x9 ≤ 6 then ((fold_State_Value.f x241000 x241001 x241002 x241003 x241004 x241005 x241006 x241007 x241008 x9).bind fun bt297 => ((firkinlaw22_of.f k x0).bind fun bt300 => ((fold_State_Value.f bt300.1 bt300.2.1 bt300.2.2.1 bt300.2.2.2.1 bt300.2.2.2.2.1 bt300.2.2.2.2.2.1 bt300.2.2.2.2.2.2.1 bt300.2.2.2.2.2.2.2.1 bt300.2.2.2.2.2.2.2.2 x9).bind fun bt309 => (if (!(bt297.1 == bt309.1) || (!(bt297.2.1 == bt309.2.1) || (!(bt297.2.2.toList == bt309.2.2.toList)))) = true then (some false) else (firkinlaw22_FoldOrders.l1 k x0 (wrap64 (x9 + 1)) x241000 x241001 x241002 x241003 x241004 x241005 x241006 x241007 x241008))))) else ((firkinlaw22_live.f k).bind fun t296 => (some t296))
end
def firkinlaw22_FoldOrders.f (k : Nat) (l0 : List (S23)) (l1 : List Int) : Option (Bool) := (firkinlaw10_Small.f k l0).bind fun t223 => (if t223 = true then (firkinlaw22_FoldOrders.j0 k l0 l1 (decide ((l1.length : Int) > 200))) else (firkinlaw22_FoldOrders.j0 k l0 l1 true))
theorem firkinlaw22_FoldOrders.mono_l : ∀ k, (∀ y0 y1 y2, LeO (firkinlaw22_FoldOrders.j0 k y0 y1 y2) (firkinlaw22_FoldOrders.j0 (k + 1) y0 y1 y2)) ∧ (∀ y0 y1 y2 y3 y4 y5 y6 y7 y8 y9 y10 y11 y12, LeO (firkinlaw22_FoldOrders.l0 k y0 y1 y2 y3 y4 y5 y6 y7 y8 y9 y10 y11 y12) (firkinlaw22_FoldOrders.l0 (k + 1) y0 y1 y2 y3 y4 y5 y6 y7 y8 y9 y10 y11 y12)) ∧ (∀ y0 y1 y2 y3 y4 y5 y6 y7 y8 y9 y10, LeO (firkinlaw22_FoldOrders.l1 k y0 y1 y2 y3 y4 y5 y6 y7 y8 y9 y10) (firkinlaw22_FoldOrders.l1 (k + 1) y0 y1 y2 y3 y4 y5 y6 y7 y8 y9 y10))
 | 0 => ⟨fun _ _ _ r h => by simp [firkinlaw22_FoldOrders.j0] at h, fun _ _ _ _ _ _ _ _ _ _ _ _ _ r h => by simp [firkinlaw22_FoldOrders.l0] at h, fun _ _ _ _ _ _ _ _ _ _ _ r h => by simp [firkinlaw22_FoldOrders.l1] at h⟩
 | k + 1 => by
  obtain ⟨ih0, ih1, ih2⟩ := firkinlaw22_FoldOrders.mono_l k
  refine ⟨?_, ?_, ?_⟩
  ·intro y0 y1 y2
   unfold firkinlaw22_FoldOrders.j0
   repeat' first
   | (with_reducible exact ih0 _ _ _)
   | (with_reducible exact ih1 _ _ _ _ _ _ _ _ _ _ _ _ _)
   | (with_reducible exact ih2 _ _ _ _ _ _ _ _ _ _ _)
   | (with_reducible exact firkinlaw10_Small.mono _ _)
   | (with_reducible exact firkinlaw22_live.mono _)
   | (with_reducible exact firkinlaw22_of.mono _ _)
   | (with_reducible exact fold_State_Add.mono _ _ _ _ _ _ _ _ _ _ _ _ _)
   | (with_reducible exact LeO.refl _)
   | (with_reducible exact LeO.none _)
   | (with_reducible refine LeO.ite ?_ ?_)
   | (with_reducible refine LeO.bind ?_ (fun _ => ?_))
   | exact ih0 _ _ _
   | exact ih1 _ _ _ _ _ _ _ _ _ _ _ _ _
   | exact ih2 _ _ _ _ _ _ _ _ _ _ _
   | exact firkinlaw10_Small.mono _ _
   | exact firkinlaw22_live.mono _
   | exact firkinlaw22_of.mono _ _
   | exact fold_State_Add.mono _ _ _ _ _ _ _ _ _ _ _ _ _
   | exact LeO.none _
   | refine LeO.ite ?_ ?_
   | refine LeO.bind ?_ (fun _ => ?_)
  ·intro y0 y1 y2 y3 y4 y5 y6 y7 y8 y9 y10 y11 y12
   unfold firkinlaw22_FoldOrders.l0
   repeat' first
   | (with_reducible exact ih0 _ _ _)
   | (with_reducible exact ih1 _ _ _ _ _ _ _ _ _ _ _ _ _)
   | (with_reducible exact ih2 _ _ _ _ _ _ _ _ _ _ _)
   | (with_reducible exact firkinlaw10_Small.mono _ _)
   | (with_reducible exact firkinlaw22_live.mono _)
   | (with_reducible exact firkinlaw22_of.mono _ _)
   | (with_reducible exact fold_State_Add.mono _ _ _ _ _ _ _ _ _ _ _ _ _)
   | (with_reducible exact LeO.refl _)
   | (with_reducible exact LeO.none _)
   | (with_reducible refine LeO.ite ?_ ?_)
   | (with_reducible refine LeO.bind ?_ (fun _ => ?_))
   | exact ih0 _ _ _
   | exact ih1 _ _ _ _ _ _ _ _ _ _ _ _ _
   | exact ih2 _ _ _ _ _ _ _ _ _ _ _
   | exact firkinlaw10_Small.mono _ _
   | exact firkinlaw22_live.mono _
   | exact firkinlaw22_of.mono _ _
   | exact fold_State_Add.mono _ _ _ _ _ _ _ _ _ _ _ _ _
   | exact LeO.none _
   | refine LeO.ite ?_ ?_
   | refine LeO.bind ?_ (fun _ => ?_)
  ·intro y0 y1 y2 y3 y4 y5 y6 y7 y8 y9 y10
   unfold firkinlaw22_FoldOrders.l1
   repeat' first
   | (with_reducible exact ih0 _ _ _)
   | (with_reducible exact ih1 _ _ _ _ _ _ _ _ _ _ _ _ _)
   | (with_reducible exact ih2 _ _ _ _ _ _ _ _ _ _ _)
   | (with_reducible exact firkinlaw10_Small.mono _ _)
   | (with_reducible exact firkinlaw22_live.mono _)
   | (with_reducible exact firkinlaw22_of.mono _ _)
   | (with_reducible exact fold_State_Add.mono _ _ _ _ _ _ _ _ _ _ _ _ _)
   | (with_reducible exact LeO.refl _)
   | (with_reducible exact LeO.none _)
   | (with_reducible refine LeO.ite ?_ ?_)
   | (with_reducible refine LeO.bind ?_ (fun _ => ?_))
   | exact ih0 _ _ _
   | exact ih1 _ _ _ _ _ _ _ _ _ _ _ _ _
   | exact ih2 _ _ _ _ _ _ _ _ _ _ _
   | exact firkinlaw10_Small.mono _ _
   | exact firkinlaw22_live.mono _
   | exact firkinlaw22_of.mono _ _
   | exact fold_State_Add.mono _ _ _ _ _ _ _ _ _ _ _ _ _
   | exact LeO.none _
   | refine LeO.ite ?_ ?_
   | refine LeO.bind ?_ (fun _ => ?_)
theorem firkinlaw22_FoldOrders.mono : ∀ a0 a1 k, LeO (firkinlaw22_FoldOrders.f k a0 a1) (firkinlaw22_FoldOrders.f (k + 1) a0 a1) := by
 intro a0 a1 k
 obtain ⟨ih0, ih1, ih2⟩ := firkinlaw22_FoldOrders.mono_l k
 unfold firkinlaw22_FoldOrders.f
 repeat' first
   | (with_reducible exact ih0 _ _ _)
   | (with_reducible exact ih1 _ _ _ _ _ _ _ _ _ _ _ _ _)
   | (with_reducible exact ih2 _ _ _ _ _ _ _ _ _ _ _)
   | (with_reducible exact firkinlaw10_Small.mono _ _)
   | (with_reducible exact firkinlaw22_live.mono _)
   | (with_reducible exact firkinlaw22_of.mono _ _)
   | (with_reducible exact fold_State_Add.mono _ _ _ _ _ _ _ _ _ _ _ _ _)
   | (with_reducible exact LeO.refl _)
   | (with_reducible exact LeO.none _)
   | (with_reducible refine LeO.ite ?_ ?_)
   | (with_reducible refine LeO.bind ?_ (fun _ => ?_))
   | exact ih0 _ _ _
   | exact ih1 _ _ _ _ _ _ _ _ _ _ _ _ _
   | exact ih2 _ _ _ _ _ _ _ _ _ _ _
   | exact firkinlaw10_Small.mono _ _
   | exact firkinlaw22_live.mono _
   | exact firkinlaw22_of.mono _ _
   | exact fold_State_Add.mono _ _ _ _ _ _ _ _ _ _ _ _ _
   | exact LeO.none _
   | refine LeO.ite ?_ ?_
   | refine LeO.bind ?_ (fun _ => ?_)
def firkinlaw22_FoldOrders.T12 : Bool × List (List Nat × List Nat) := (true, [([], []), ([], []), ([], []), ([1, 2], [1, 2]), ([0, 3], [0, 3]), ([], []), ([], []), ([6], [6]), ([5, 7], [5, 7]), ([4, 8, 4], [4, 8]), ([9, 9, 0, 1, 2, 3, 4, 5, 6, 7, 8, 9], [1, 5, 9])])
def firkinlaw22_FoldOrders.B12 : List Nat := [0, 0, 0, 6, 15, 0, 0, 64, 224, 511, 1023]
theorem firkinlaw22_FoldOrders.tab12 : rtab .any (opsOf Try.f11 12) = firkinlaw22_FoldOrders.T12 := by kernel_rfl
theorem firkinlaw22_FoldOrders.bits12 : waitsOk firkinlaw22_FoldOrders.T12.2 firkinlaw22_FoldOrders.B12 = true := by kernel_rfl
set_option maxHeartbeats 8000000 in
set_option maxRecDepth 100000 in
theorem firkinlaw22_FoldOrders.calls (k : Nat) (A0 : Option Addr) (c0 : Nat) (l0 : List (S23)) (A1 : Option Addr) (c1 : Nat) (l1 : List Int) (r : Bool) (w : World) (hr0 : Kd.C k23 w A0 l0.length l0) (hc0 : l0.length ≤ c0) (hr1 : Kd.C (Kd.int .u8) w A1 l1.length l1) (hc1 : l1.length ≤ c1) (h : firkinlaw22_FoldOrders.f k l0 l1 = some r) :
  Calls Try.prog 11 #[.slice A0 l0.length c0, .slice A1 l1.length c1] w fun e w' => e = .returned (.bool r) ∧ Below w.heap.size w w' := by
 have hu63 := Try.underlying63
 have hu23 := Try.underlying23
 have hw1_1 : wrap64 1 = 1 := by decide +kernel
 have HR0 := A_ hr0
 have HC0 := A_ hc0
 clear hr0 hc0
 have HR1 := A_ hr1
 have HC1 := A_ hc1
 clear hr1 hc1
 have HB := A_ (Below.refl w.heap.size w)
 have H : ((firkinlaw10_Small.f k l0).bind fun t223 => (if t223 = true then (firkinlaw22_FoldOrders.j0 k l0 l1 (decide ((l1.length : Int) > 200))) else (firkinlaw22_FoldOrders.j0 k l0 l1 true))) = some r := h
 clear h
 have HC3 := A_ H
 clear H
 go_enter Try.func11, Try.ntmps11
 go_upto_region 1 with (fail)
 go_cut [17] (fun v17 wc => ∃ (kq : Nat) (x17_2 : Bool), v17 = .bool x17_2 ∧ Aside0 (firkinlaw22_FoldOrders.j0 kq l0 l1 x17_2 = some r) ∧ Aside0 (kq ≤ k) ∧ Aside0 (Below w.heap.size w wc))
 case first =>
  have H := HC3.out
  clear HC3
  replace H := Option.bind_eq_some_iff.mp H
  obtain ⟨t223, A40, H⟩ := H
  replace H : (if t223 = true then (firkinlaw22_FoldOrders.j0 k l0 l1 (decide ((l1.length : Int) > 200))) else (firkinlaw22_FoldOrders.j0 k l0 l1 true)) = some r := H
  have A4 := A_ A40
  clear A40
  by_cases c5 : t223 = true
  ·subst c5
   have H1 : (firkinlaw22_FoldOrders.j0 k l0 l1 (decide ((l1.length : Int) > 200))) = some r := by rw [if_pos rfl] at H; exact H
   clear H
   have H := H1
   clear H1
   have H' := A_ H
   clear H
   go_wp2_with (first | ((with_reducible refine gate_callee (f := 48) rfl ?_); refine goesL_ (some 11) rfl rfl Try.func48 (by kernel_rfl) rfl #[.slice A0 l0.length c0] rfl (by (try simp only [List.map_toArray, List.map_cons, List.map_nil]); first | done | rfl | (simp only [List.length_drop, List.length_take]; rfl)) ?_; (with_reducible refine (firkinlaw10_Small.calls k _ _ l0 true _ ?side1 ?side2 A4.out).mono ?_); (case side1 => repeat (first | exact (Kd.C_below HR0.out HB.out) | (with_reducible refine Kd.C_alloc ?_ _) | (with_reducible refine Kd.C_drewN ?_ _) | (with_reducible refine Kd.C_drew ?_))); (case side2 => exact HC0.out); rintro e w' ⟨rfl, ⟨nd, rfl⟩⟩; refine ⟨_, rfl, ?_⟩))
   go_meet
   case rel => exact ⟨_, (decide ((l1.length : Int) > 200)), (by first | rfl | (simp; done) | (simp [*]; done)), H', ⟨by first | omega | exact Nat.le_refl _⟩, ⟨by repeat (first | (with_reducible first | exact HB.out | apply below_alloc | apply pw_below_drewN | apply below_drew1) | exact HB.out)⟩⟩
  ·replace c5 := Bool.eq_false_iff.mpr c5
   subst c5
   have H1 : (firkinlaw22_FoldOrders.j0 k l0 l1 true) = some r := by rw [if_neg (show ¬ (false = true) by decide)] at H; exact H
   clear H
   have H := H1
   clear H1
   have H' := A_ H
   clear H
   go_wp2_with (first | ((with_reducible refine gate_callee (f := 48) rfl ?_); refine goesL_ (some 11) rfl rfl Try.func48 (by kernel_rfl) rfl #[.slice A0 l0.length c0] rfl (by (try simp only [List.map_toArray, List.map_cons, List.map_nil]); first | done | rfl | (simp only [List.length_drop, List.length_take]; rfl)) ?_; (with_reducible refine (firkinlaw10_Small.calls k _ _ l0 false _ ?side1 ?side2 A4.out).mono ?_); (case side1 => repeat (first | exact (Kd.C_below HR0.out HB.out) | (with_reducible refine Kd.C_alloc ?_ _) | (with_reducible refine Kd.C_drewN ?_ _) | (with_reducible refine Kd.C_drew ?_))); (case side2 => exact HC0.out); rintro e w' ⟨rfl, ⟨nd, rfl⟩⟩; refine ⟨_, rfl, ?_⟩))
   go_meet
   case rel => exact ⟨_, (true), (by first | rfl | (simp; done) | (simp [*]; done)), H', ⟨by first | omega | exact Nat.le_refl _⟩, ⟨by repeat (first | (with_reducible first | exact HB.out | apply below_alloc | apply pw_below_drewN | apply below_drew1) | exact HB.out)⟩⟩
 case rest =>
  clear HC3
  try clear c1
  try clear p2
  try clear c4
  try clear c5
  obtain ⟨kq, x17_2, rfl, HA, HJ2, HB⟩ := hcut
  cases kq with
  | zero => exact absurd HA.out (by simp [firkinlaw22_FoldOrders.j0])
  | succ kj2 =>
   have H := HA.out
   clear HA
   simp only [firkinlaw22_FoldOrders.j0] at H
   by_cases c6 : x17_2 = true
   ·subst c6
    have H1 : ((firkinlaw22_live.f kj2).bind fun t224 => (some t224)) = some r := by rw [if_pos rfl] at H; exact H
    clear H
    have H := H1
    clear H1
    replace H := Option.bind_eq_some_iff.mp H
    obtain ⟨t224, A70, H⟩ := H
    replace H : (some t224) = some r := H
    have A7 := A_ A70
    clear A70
    obtain rfl := Option.some.inj H
    go_wp2_with (first | ((with_reducible refine gate_callee (f := 49) rfl ?_); refine goesL_ (some 18) rfl rfl Try.func49 (by kernel_rfl) rfl #[] rfl (by (try simp only [List.map_toArray, List.map_cons, List.map_nil]); first | done | rfl | (simp only [List.length_drop, List.length_take]; rfl)) ?_; (with_reducible refine (firkinlaw22_live.calls kj2  t224 _ A7.out).mono ?_); rintro e w8 ⟨rfl, hb⟩; refine ⟨_, rfl, ?_⟩; have n0_ := A_ (below_step (by repeat (first | (with_reducible first | exact HB.out | apply below_alloc | apply pw_below_drewN | apply below_drew1) | exact HB.out)) hb); clear HB; have HB := n0_; clear n0_; (try clear hb); (try clear hb2); (try clear hk); (try clear hi)))
    go_ret
    exact ⟨by first | rfl | (simp [errW_none, errW_some] <;> rfl) | (simp [*, errW_none, errW_some] <;> rfl), by repeat (first | (with_reducible first | exact HB.out | apply below_alloc | apply pw_below_drewN | apply below_drew1) | exact HB.out)⟩
   ·replace c6 := Bool.eq_false_iff.mpr c6
    subst c6
    have H1 : ((some (([] : List (S23)) : List (S23))).bind fun y225 => (if y225.length + l0.length < 4398046511104 then ((fold_New.f).bind fun bt231 => (firkinlaw22_FoldOrders.l0 kj2 l0 l1 (y225 ++ l0) 0 bt231.1 bt231.2.1 bt231.2.2.1 bt231.2.2.2.1 bt231.2.2.2.2.1 bt231.2.2.2.2.2.1 bt231.2.2.2.2.2.2.1 bt231.2.2.2.2.2.2.2.1 bt231.2.2.2.2.2.2.2.2)) else (none))) = some r := by rw [if_neg (show ¬ (false = true) by decide)] at H; exact H
    clear H
    have H := H1
    clear H1
    obtain ⟨y225, hy225⟩ : ∃ y_ : List (S23), y_ = (([] : List (S23))) := ⟨_, rfl⟩
    replace H : (if y225.length + l0.length < 4398046511104 then ((fold_New.f).bind fun bt231 => (firkinlaw22_FoldOrders.l0 kj2 l0 l1 (y225 ++ l0) 0 bt231.1 bt231.2.1 bt231.2.2.1 bt231.2.2.2.1 bt231.2.2.2.2.1 bt231.2.2.2.2.2.1 bt231.2.2.2.2.2.2.1 bt231.2.2.2.2.2.2.2.1 bt231.2.2.2.2.2.2.2.2)) else (none)) = some r := by first | (rw [hy225]; with_reducible exact H) | (have H2_ := (Option.bind_some _ _).symm.trans H; rw [hy225]; with_reducible exact H2_) | (have H2_ := (Option.bind_some _ _).symm.trans H; with_reducible exact H2_) | with_reducible exact H | (rw [hy225]; exact H) | exact H
    have Ny225 := A_ hy225
    clear hy225
    by_cases c9 : y225.length + l0.length < 4398046511104
    ·rw [if_pos c9] at H
     have LMc9 := A_ c9
     clear c9
     obtain ⟨y228, hy228⟩ : ∃ y_ : List (S23), y_ = (y225 ++ l0) := ⟨_, rfl⟩
     replace H : ((fold_New.f).bind fun bt231 => (firkinlaw22_FoldOrders.l0 kj2 l0 l1 y228 0 bt231.1 bt231.2.1 bt231.2.2.1 bt231.2.2.2.1 bt231.2.2.2.2.1 bt231.2.2.2.2.2.1 bt231.2.2.2.2.2.2.1 bt231.2.2.2.2.2.2.2.1 bt231.2.2.2.2.2.2.2.2)) = some r := by first | (rw [hy228]; with_reducible exact H) | (have H2_ := (Option.bind_some _ _).symm.trans H; rw [hy228]; with_reducible exact H2_) | (have H2_ := (Option.bind_some _ _).symm.trans H; with_reducible exact H2_) | with_reducible exact H | (rw [hy228]; exact H) | exact H
     have Ny228 := A_ hy228
     clear hy228
     replace H := Option.bind_eq_some_iff.mp H
     obtain ⟨⟨t231, t232, t233, t234, t235, t236, t237, t238, t239⟩, A100, H⟩ := H
     replace H : (firkinlaw22_FoldOrders.l0 kj2 l0 l1 y228 0 t231 t232 t233 t234 t235 t236 t237 t238 t239) = some r := H
     have A10 := A_ A100
     clear A100
     have H' := A_ H
     clear H
     go_wp2_with (first | ((with_reducible refine gate_dst (N := 19) rfl ?_); refine Kd.R_lit k23 _ 23 ?hg (N := 19) ?hd (xs := ([] : List (S23))) (inner := []) (ok := fun _ => True) (okp := fun _ => True) ?hr ?hp (fun _ hk => hk) trivial (Below.refl _ _) (Nat.le_refl _) (by simp) ?_; (case hd => rfl); (case hg => rfl); (case hr => first | (go_simp; done) | (go_simp; rfl)); (case hp => exact (Reps.none _ _)); intro v226 w11 ho12 hb hg_ hnew_; clear hg_ hnew_; (first | rw [← Ny225.out] at ho12 | (simp only [Int.reduceToNat] at ho12; rw [← Ny225.out] at ho12)); have n0_ := A_ (Kd.R_lower ho12 (below_size (by repeat (first | (with_reducible first | exact HB.out | apply below_alloc | apply pw_below_drewN | apply below_drew1) | exact HB.out)))); have n1_ := A_ (below_step (by repeat (first | (with_reducible first | exact HB.out | apply below_alloc | apply pw_below_drewN | apply below_drew1) | exact HB.out)) hb); clear HB; have HO227 := n0_; have HB := n1_; clear n0_ n1_; clear hb ho12) | ((with_reducible refine gate_builtin (b := .append) (xs := #[.tmp 19, .tmp 20]) rfl ?_); at_builtin; refine Kd.R_append_rows k23 (w0 := w) w.heap.size rfl (.tmp 19) (.tmp 20) 60 23 (.agg #[(.bool false), (.int .i64 0), (.string ⟨#[]⟩)]) 32 rfl Try.underlying60 info23 rfl (by decide) (by omega) v226 y225 l0 _ _ _ (fun _ => True) (fun _ => False) rfl rfl ?aO ?aR (fun _ _ h => h) (fun _ h => h.elim) ?aF ?aB ?aS ?aL ?_; (case aR => repeat (first | exact (Kd.C_below HR0.out HB.out) | (with_reducible refine Kd.C_alloc ?_ _) | (with_reducible refine Kd.C_drewN ?_ _) | (with_reducible refine Kd.C_drew ?_))); (case aB => exact (by repeat (first | (with_reducible first | exact HB.out | apply below_alloc | apply pw_below_drewN | apply below_drew1) | exact HB.out))); (case aF => exact (fun _ _ => trivial)); (case aO => exact (by (with_reducible repeat (first | apply Kd.R_alloc | apply Kd.R_drewN | apply Kd.R_drew)); exact HO227.out)); (case aS => exact (below_size (by repeat (first | (with_reducible first | exact HB.out | apply below_alloc | apply pw_below_drewN | apply below_drew1) | exact HB.out)))); (case aL => have := LMc9.out; omega); intro v229 w13 ho hb hg hat; rw [← Ny228.out] at ho; have n0_ := A_ (hb); have n1_ := A_ (ho); clear HB; clear HO227; have HB := n0_; have HO230 := n1_; clear n0_ n1_; clear ho hb hg hat) | ((with_reducible refine gate_callee (f := 55) rfl ?_); refine goesL_ (some 22) rfl rfl Try.func55 (by kernel_rfl) rfl #[] rfl (by (try simp only [List.map_toArray, List.map_cons, List.map_nil]); first | done | rfl | (simp only [List.length_drop, List.length_take]; rfl)) ?_; (with_reducible refine (fold_New.calls  t231 t232 t233 t234 t235 t236 t237 t238 t239 _ A10.out).mono ?_); rintro e w14 ⟨rfl, hb⟩; refine ⟨_, rfl, ?_⟩; have n0_ := A_ (Kd.R_below (by (with_reducible repeat (first | apply Kd.R_alloc | apply Kd.R_drewN | apply Kd.R_drew)); exact HO230.out) hb); have n1_ := A_ (below_step (by repeat (first | (with_reducible first | exact HB.out | apply below_alloc | apply pw_below_drewN | apply below_drew1) | exact HB.out)) hb); clear HO230; clear HB; have HO230 := n0_; have HB := n1_; clear n0_ n1_; (try clear hb); (try clear hb2); (try clear hk); (try clear hi)) | ((with_reducible refine gate_dst (N := 6) rfl ?_); refine box_event ?hg (N := 6) ?hd (cs := #[.int .i64 0, .int .i64 0, .int .i64 0, .bool false, .int .i64 0, .string (⟨#[]⟩ : ByteArray), .bool false, .int .i64 0, .string (⟨#[]⟩ : ByteArray)]) (t := 63) ?hr ?_; (case hd => rfl); (case hg => rfl); (case hr => first | (go_simp; done) | (go_simp; rfl)); intro gb240 hg w15 hbox hb; have n0_ := A_ (Kd.R_below (by (with_reducible repeat (first | apply Kd.R_alloc | apply Kd.R_drewN | apply Kd.R_drew)); exact HO230.out) hb); have n1_ := A_ (below_step (by repeat (first | (with_reducible first | exact HB.out | apply below_alloc | apply pw_below_drewN | apply below_drew1) | exact HB.out)) hb); have n2_ := A_ (hbox); have n3_ := A_ ((by rw [hg]; exact (below_size (by repeat (first | (with_reducible first | exact HB.out | apply below_alloc | apply pw_below_drewN | apply below_drew1) | exact HB.out))) : w.heap.size ≤ gb240)); have n4_ := A_ ((by rw [hg]; exact (below_size (by repeat (first | (with_reducible first | exact HB.out | apply below_alloc | apply pw_below_drewN | apply below_drew1) | exact HB.out))) : w.heap.size ≤ gb240)); clear HO230; clear HB; have HO230 := n0_; have HB := n1_; have BK240 := n2_; have GW240 := n3_; have GE240 := n4_; clear n0_ n1_ n2_ n3_ n4_; clear hb hbox hg; have hcz16_0 : w15.cell? ⟨gb240, 0, none⟩ = some (.int .i64 0) := (blk_cell BK240.out 0).trans rfl; have hcz16_1 : w15.cell? ⟨gb240, 1, none⟩ = some (.int .i64 0) := (blk_cell BK240.out 1).trans rfl; have hcz16_2 : w15.cell? ⟨gb240, 2, none⟩ = some (.int .i64 0) := (blk_cell BK240.out 2).trans rfl; have hcz16_3 : w15.cell? ⟨gb240, 3, none⟩ = some (.bool false) := (blk_cell BK240.out 3).trans rfl; have hcz16_4 : w15.cell? ⟨gb240, 4, none⟩ = some (.int .i64 0) := (blk_cell BK240.out 4).trans rfl; have hcz16_5 : w15.cell? ⟨gb240, 5, none⟩ = some (.string (⟨#[]⟩ : ByteArray)) := (blk_cell BK240.out 5).trans rfl; have hcz16_6 : w15.cell? ⟨gb240, 6, none⟩ = some (.bool false) := (blk_cell BK240.out 6).trans rfl; have hcz16_7 : w15.cell? ⟨gb240, 7, none⟩ = some (.int .i64 0) := (blk_cell BK240.out 7).trans rfl; have hcz16_8 : w15.cell? ⟨gb240, 8, none⟩ = some (.string (⟨#[]⟩ : ByteArray)) := (blk_cell BK240.out 8).trans rfl; have hfz16_0 := blk_frozen BK240.out 0; have hfz16_1 := blk_frozen BK240.out 1; have hfz16_2 := blk_frozen BK240.out 2; have hfz16_3 := blk_frozen BK240.out 3; have hfz16_4 := blk_frozen BK240.out 4; have hfz16_5 := blk_frozen BK240.out 5; have hfz16_6 := blk_frozen BK240.out 6; have hfz16_7 := blk_frozen BK240.out 7; have hfz16_8 := blk_frozen BK240.out 8))
     go_loopg [5, 7] kj2 (fun kq v5 v7 w' => ∃ (x5_2 : List (S23)) (x7_2 : Int) (x241000_2 : Int) (x241001_2 : Int) (x241002_2 : Int) (x241003_2 : Bool) (x241004_2 : Int) (x241005_2 : ByteArray) (x241006_2 : Bool) (x241007_2 : Int) (x241008_2 : ByteArray), v7 = .int .i64 x7_2 ∧ Aside0 (firkinlaw22_FoldOrders.l0 kq l0 l1 x5_2 x7_2 x241000_2 x241001_2 x241002_2 x241003_2 x241004_2 x241005_2 x241006_2 x241007_2 x241008_2 = some r) ∧ Aside0 (kq ≤ kj2) ∧ Aside0 (Kd.R k23 23 w' w.heap.size (fun _ => True) v5 x5_2) ∧ Aside0 (w'.heap[gb240]? = some (.cells #[.int .i64 x241000_2, .int .i64 x241001_2, .int .i64 x241002_2, .bool x241003_2, .int .i64 x241004_2, .string x241005_2, .bool x241006_2, .int .i64 x241007_2, .string x241008_2] 63 (0, 0))) ∧ Aside0 (Below w.heap.size w w'))
     case atStart => exact ⟨(y228), (0), (t231), (t232), (t233), (t234), (t235), (t236), (t237), (t238), (t239), (by first | rfl | (simp; done) | (simp [*]; done)), H', ⟨Nat.le_refl _⟩, ⟨by (with_reducible repeat (first | apply Kd.R_alloc | apply Kd.R_drewN | apply Kd.R_drew)); exact Kd.R_mono (Kd.R_far (p := ⟨gb240, 8, none⟩) (Kd.R_far (p := ⟨gb240, 7, none⟩) (Kd.R_far (p := ⟨gb240, 6, none⟩) (Kd.R_far (p := ⟨gb240, 5, none⟩) (Kd.R_far (p := ⟨gb240, 4, none⟩) (Kd.R_far (p := ⟨gb240, 3, none⟩) (Kd.R_far (p := ⟨gb240, 2, none⟩) (Kd.R_far (p := ⟨gb240, 1, none⟩) (Kd.R_far (p := ⟨gb240, 0, none⟩) (Kd.R_types HO230.out BK240.out (by decide)) (fun _ hk => hk.2) (.int .i64 t231)) (fun _ hk => hk.2) (.int .i64 t232)) (fun _ hk => hk.2) (.int .i64 t233)) (fun _ hk => hk.2) (.bool t234)) (fun _ hk => hk.2) (.int .i64 t235)) (fun _ hk => hk.2) (.string t236)) (fun _ hk => hk.2) (.bool t237)) (fun _ hk => hk.2) (.int .i64 t238)) (fun _ hk => hk.2) (.string t239)) (fun _ hk => trivial)⟩, ⟨by (with_reducible repeat (first | refine blk_drewN ?_ _ | refine blk_drew ?_ | refine blk_alloc ?_ _)); refine blk_put (cs := #[.int .i64 t231, .int .i64 t232, .int .i64 t233, .bool t234, .int .i64 t235, .string t236, .bool t237, .int .i64 t238, .string (⟨#[]⟩ : ByteArray)]) ?_ 8 _ rfl; (with_reducible repeat (first | refine blk_drewN ?_ _ | refine blk_drew ?_ | refine blk_alloc ?_ _)); refine blk_put (cs := #[.int .i64 t231, .int .i64 t232, .int .i64 t233, .bool t234, .int .i64 t235, .string t236, .bool t237, .int .i64 0, .string (⟨#[]⟩ : ByteArray)]) ?_ 7 _ rfl; (with_reducible repeat (first | refine blk_drewN ?_ _ | refine blk_drew ?_ | refine blk_alloc ?_ _)); refine blk_put (cs := #[.int .i64 t231, .int .i64 t232, .int .i64 t233, .bool t234, .int .i64 t235, .string t236, .bool false, .int .i64 0, .string (⟨#[]⟩ : ByteArray)]) ?_ 6 _ rfl; (with_reducible repeat (first | refine blk_drewN ?_ _ | refine blk_drew ?_ | refine blk_alloc ?_ _)); refine blk_put (cs := #[.int .i64 t231, .int .i64 t232, .int .i64 t233, .bool t234, .int .i64 t235, .string (⟨#[]⟩ : ByteArray), .bool false, .int .i64 0, .string (⟨#[]⟩ : ByteArray)]) ?_ 5 _ rfl; (with_reducible repeat (first | refine blk_drewN ?_ _ | refine blk_drew ?_ | refine blk_alloc ?_ _)); refine blk_put (cs := #[.int .i64 t231, .int .i64 t232, .int .i64 t233, .bool t234, .int .i64 0, .string (⟨#[]⟩ : ByteArray), .bool false, .int .i64 0, .string (⟨#[]⟩ : ByteArray)]) ?_ 4 _ rfl; (with_reducible repeat (first | refine blk_drewN ?_ _ | refine blk_drew ?_ | refine blk_alloc ?_ _)); refine blk_put (cs := #[.int .i64 t231, .int .i64 t232, .int .i64 t233, .bool false, .int .i64 0, .string (⟨#[]⟩ : ByteArray), .bool false, .int .i64 0, .string (⟨#[]⟩ : ByteArray)]) ?_ 3 _ rfl; (with_reducible repeat (first | refine blk_drewN ?_ _ | refine blk_drew ?_ | refine blk_alloc ?_ _)); refine blk_put (cs := #[.int .i64 t231, .int .i64 t232, .int .i64 0, .bool false, .int .i64 0, .string (⟨#[]⟩ : ByteArray), .bool false, .int .i64 0, .string (⟨#[]⟩ : ByteArray)]) ?_ 2 _ rfl; (with_reducible repeat (first | refine blk_drewN ?_ _ | refine blk_drew ?_ | refine blk_alloc ?_ _)); refine blk_put (cs := #[.int .i64 t231, .int .i64 0, .int .i64 0, .bool false, .int .i64 0, .string (⟨#[]⟩ : ByteArray), .bool false, .int .i64 0, .string (⟨#[]⟩ : ByteArray)]) ?_ 1 _ rfl; (with_reducible repeat (first | refine blk_drewN ?_ _ | refine blk_drew ?_ | refine blk_alloc ?_ _)); refine blk_put (cs := #[.int .i64 0, .int .i64 0, .int .i64 0, .bool false, .int .i64 0, .string (⟨#[]⟩ : ByteArray), .bool false, .int .i64 0, .string (⟨#[]⟩ : ByteArray)]) ?_ 0 _ rfl; (with_reducible repeat (first | refine blk_drewN ?_ _ | refine blk_drew ?_ | refine blk_alloc ?_ _)); exact BK240.out⟩, ⟨by repeat (first | (with_reducible first | exact HB.out | apply below_alloc | apply pw_below_drewN | apply below_drew1 | refine below_set ?_ GE240.out) | exact HB.out)⟩⟩
     case round =>
      clear H'
      try clear c1
      try clear p2
      try clear c4
      try clear c5
      try clear c6
      try clear c9
      try clear c11
      try clear hcz16_0
      try clear hcz16_1
      try clear hcz16_2
      try clear hcz16_3
      try clear hcz16_4
      try clear hcz16_5
      try clear hcz16_6
      try clear hcz16_7
      try clear hcz16_8
      try clear hfz16_0
      try clear hfz16_1
      try clear hfz16_2
      try clear hfz16_3
      try clear hfz16_4
      try clear hfz16_5
      try clear hfz16_6
      try clear hfz16_7
      try clear hfz16_8
      try clear p2
      obtain ⟨x5_2, x7_2, x241000_2, x241001_2, x241002_2, x241003_2, x241004_2, x241005_2, x241006_2, x241007_2, x241008_2, rfl, HA, HK2, HO_5, BK240, HB⟩ := hrel
      cases gk with
      | zero => exact absurd HA.out (by simp [firkinlaw22_FoldOrders.l0])
      | succ k2 =>
       have H := HA.out
       clear HA
       simp only [firkinlaw22_FoldOrders.l0] at H
       by_cases c17 : (x5_2.length : Int) > 0
       ·rw [if_pos c17] at H
        have c17b0 : decide (0 < (x5_2.length : Int)) = true := decide_eq_true c17
        have c17b1 : decide (0 < x5_2.length) = true := decide_eq_true (by omega)
        clear c17
        by_cases c18 : x7_2 < (l1.length : Int)
        ·rw [if_pos c18] at H
         have c18b0 : decide (x7_2 < (l1.length : Int)) = true := decide_eq_true c18
         clear c18
         by_cases c19 : 0 ≤ x7_2
         ·rw [if_pos c19] at H
          have c19b0 : decide (0 ≤ x7_2) = true := decide_eq_true c19
          clear c19
          by_cases c20 : (x5_2.length : Int) = 0
          ·rw [if_pos c20] at H
           exact absurd H (by simp)
          ·rw [if_neg c20] at H
           have c20b0 : ((x5_2.length : Int) == 0) = false := beq_eq_false_iff_ne.mpr c20
           have c20b1 : ((x5_2.length : Int) != 0) = true := bne_iff_ne.mpr c20
           have c20b2 : ¬ (x5_2 = []) := fun h_ => c20 (by rw [h_]; rfl)
           obtain ⟨ji21, hji21⟩ : ∃ j_ : Int, (Int.tmod (wrap64 (rd l1 x7_2)) (x5_2.length : Int)) = j_ := ⟨_, rfl⟩
           replace H : (if 0 ≤ (ji21) then (if (ji21) < (x5_2.length : Int) then ((fold_State_Add.f k2 x241000_2 x241001_2 x241002_2 x241003_2 x241004_2 x241005_2 x241006_2 x241007_2 x241008_2 ((rd_T23 x5_2 (ji21)).f0) ((rd_T23 x5_2 (ji21)).f1) ((rd_T23 x5_2 (ji21)).f2)).bind fun bt243 => ((some (([] : List (S23)) : List (S23))).bind fun y252 => (if (ji21) ≤ (x5_2.length : Int) then ((some (x5_2.take ((ji21) : Int).toNat : List (S23))).bind fun y255 => (if y252.length + y255.length < 4398046511104 then ((some (y252 ++ y255 : List (S23))).bind fun y259 => (if 0 ≤ (wrap64 ((ji21) + 1)) then (if (wrap64 ((ji21) + 1)) ≤ (x5_2.length : Int) then ((some (x5_2.drop ((wrap64 ((ji21) + 1)) : Int).toNat : List (S23))).bind fun y262 => (if y259.length + y262.length < 4398046511104 then (firkinlaw22_FoldOrders.l0 k2 l0 l1 (y259 ++ y262) (wrap64 (x7_2 + 1)) bt243.1 bt243.2.1 bt243.2.2.1 bt243.2.2.2.1 bt243.2.2.2.2.1 bt243.2.2.2.2.2.1 bt243.2.2.2.2.2.2.1 bt243.2.2.2.2.2.2.2.1 bt243.2.2.2.2.2.2.2.2) else (none))) else (none)) else (none))) else (none))) else (none)))) else (none)) else (none)) = some r := by first | (rw [hji21] at H; exact H) | (simp only [hji21] at H ⊢; exact H)
           by_cases c22 : 0 ≤ (ji21)
           ·rw [if_pos c22] at H
            have c22b0 : decide (0 ≤ (ji21)) = true := decide_eq_true c22
            clear c22
            by_cases c23 : (ji21) < (x5_2.length : Int)
            ·rw [if_pos c23] at H
             have c23b0 : decide ((ji21) < (x5_2.length : Int)) = true := decide_eq_true c23
             clear c23
             replace H := Option.bind_eq_some_iff.mp H
             obtain ⟨⟨t243, t244, t245, t246, t247, t248, t249, t250, t251⟩, A240, H⟩ := H
             replace H : ((some (([] : List (S23)) : List (S23))).bind fun y252 => (if (ji21) ≤ (x5_2.length : Int) then ((some (x5_2.take ((ji21) : Int).toNat : List (S23))).bind fun y255 => (if y252.length + y255.length < 4398046511104 then ((some (y252 ++ y255 : List (S23))).bind fun y259 => (if 0 ≤ (wrap64 ((ji21) + 1)) then (if (wrap64 ((ji21) + 1)) ≤ (x5_2.length : Int) then ((some (x5_2.drop ((wrap64 ((ji21) + 1)) : Int).toNat : List (S23))).bind fun y262 => (if y259.length + y262.length < 4398046511104 then (firkinlaw22_FoldOrders.l0 k2 l0 l1 (y259 ++ y262) (wrap64 (x7_2 + 1)) t243 t244 t245 t246 t247 t248 t249 t250 t251) else (none))) else (none)) else (none))) else (none))) else (none))) = some r := H
             have A24 := A_ A240
             clear A240
             obtain ⟨y252, hy252⟩ : ∃ y_ : List (S23), y_ = (([] : List (S23))) := ⟨_, rfl⟩
             replace H : (if (ji21) ≤ (x5_2.length : Int) then ((some (x5_2.take ((ji21) : Int).toNat : List (S23))).bind fun y255 => (if y252.length + y255.length < 4398046511104 then ((some (y252 ++ y255 : List (S23))).bind fun y259 => (if 0 ≤ (wrap64 ((ji21) + 1)) then (if (wrap64 ((ji21) + 1)) ≤ (x5_2.length : Int) then ((some (x5_2.drop ((wrap64 ((ji21) + 1)) : Int).toNat : List (S23))).bind fun y262 => (if y259.length + y262.length < 4398046511104 then (firkinlaw22_FoldOrders.l0 k2 l0 l1 (y259 ++ y262) (wrap64 (x7_2 + 1)) t243 t244 t245 t246 t247 t248 t249 t250 t251) else (none))) else (none)) else (none))) else (none))) else (none)) = some r := by first | (rw [hy252]; with_reducible exact H) | (have H2_ := (Option.bind_some _ _).symm.trans H; rw [hy252]; with_reducible exact H2_) | (have H2_ := (Option.bind_some _ _).symm.trans H; with_reducible exact H2_) | with_reducible exact H | (rw [hy252]; exact H) | exact H
             have Ny252 := A_ hy252
             clear hy252
             have c25b0 := eq_true (of_decide_eq_true (by first | (with_reducible assumption) | assumption) : 0 ≤ (ji21))
             by_cases c26 : (ji21) ≤ (x5_2.length : Int)
             ·rw [if_pos c26] at H
              have c26b0 := eq_true c26
              have c26b1 : decide ((ji21) ≤ (x5_2.length : Int)) = true := decide_eq_true c26
              clear c26
              obtain ⟨y255, hy255⟩ : ∃ y_ : List (S23), y_ = (x5_2.take ((ji21) : Int).toNat) := ⟨_, rfl⟩
              replace H : (if y252.length + y255.length < 4398046511104 then ((some (y252 ++ y255 : List (S23))).bind fun y259 => (if 0 ≤ (wrap64 ((ji21) + 1)) then (if (wrap64 ((ji21) + 1)) ≤ (x5_2.length : Int) then ((some (x5_2.drop ((wrap64 ((ji21) + 1)) : Int).toNat : List (S23))).bind fun y262 => (if y259.length + y262.length < 4398046511104 then (firkinlaw22_FoldOrders.l0 k2 l0 l1 (y259 ++ y262) (wrap64 (x7_2 + 1)) t243 t244 t245 t246 t247 t248 t249 t250 t251) else (none))) else (none)) else (none))) else (none)) = some r := by first | (rw [hy255]; with_reducible exact H) | (have H2_ := (Option.bind_some _ _).symm.trans H; rw [hy255]; with_reducible exact H2_) | (have H2_ := (Option.bind_some _ _).symm.trans H; with_reducible exact H2_) | with_reducible exact H | (rw [hy255]; exact H) | exact H
              have Ny255 := A_ hy255
              clear hy255
              by_cases c27 : y252.length + y255.length < 4398046511104
              ·rw [if_pos c27] at H
               have LMc27 := A_ c27
               clear c27
               obtain ⟨y259, hy259⟩ : ∃ y_ : List (S23), y_ = (y252 ++ y255) := ⟨_, rfl⟩
               replace H : (if 0 ≤ (wrap64 ((ji21) + 1)) then (if (wrap64 ((ji21) + 1)) ≤ (x5_2.length : Int) then ((some (x5_2.drop ((wrap64 ((ji21) + 1)) : Int).toNat : List (S23))).bind fun y262 => (if y259.length + y262.length < 4398046511104 then (firkinlaw22_FoldOrders.l0 k2 l0 l1 (y259 ++ y262) (wrap64 (x7_2 + 1)) t243 t244 t245 t246 t247 t248 t249 t250 t251) else (none))) else (none)) else (none)) = some r := by first | (rw [hy259]; with_reducible exact H) | (have H2_ := (Option.bind_some _ _).symm.trans H; rw [hy259]; with_reducible exact H2_) | (have H2_ := (Option.bind_some _ _).symm.trans H; with_reducible exact H2_) | with_reducible exact H | (rw [hy259]; exact H) | exact H
               have Ny259 := A_ hy259
               clear hy259
               obtain ⟨ji28, hji28⟩ : ∃ j_ : Int, (wrap64 ((ji21) + 1)) = j_ := ⟨_, rfl⟩
               replace H : (if 0 ≤ (ji28) then (if (ji28) ≤ (x5_2.length : Int) then ((some (x5_2.drop ((ji28) : Int).toNat : List (S23))).bind fun y262 => (if y259.length + y262.length < 4398046511104 then (firkinlaw22_FoldOrders.l0 k2 l0 l1 (y259 ++ y262) (wrap64 (x7_2 + 1)) t243 t244 t245 t246 t247 t248 t249 t250 t251) else (none))) else (none)) else (none)) = some r := by first | (rw [hji28] at H; exact H) | (simp only [hji28] at H ⊢; exact H)
               (try rw [hji28] at A24)
               have hji28w : (IntKind.i64.wrap ((ji21) + 1)) = ji28 := (i64_w _).trans hji28
               by_cases c29 : 0 ≤ (ji28)
               ·rw [if_pos c29] at H
                have c29b0 := eq_true c29
                have c29b1 : decide (0 ≤ (ji28)) = true := decide_eq_true c29
                clear c29
                by_cases c30 : (ji28) ≤ (x5_2.length : Int)
                ·rw [if_pos c30] at H
                 have c30b0 := eq_true c30
                 have c30b1 : decide ((ji28) ≤ (x5_2.length : Int)) = true := decide_eq_true c30
                 clear c30
                 obtain ⟨y262, hy262⟩ : ∃ y_ : List (S23), y_ = (x5_2.drop ((ji28) : Int).toNat) := ⟨_, rfl⟩
                 replace H : (if y259.length + y262.length < 4398046511104 then (firkinlaw22_FoldOrders.l0 k2 l0 l1 (y259 ++ y262) (wrap64 (x7_2 + 1)) t243 t244 t245 t246 t247 t248 t249 t250 t251) else (none)) = some r := by first | (rw [hy262]; with_reducible exact H) | (have H2_ := (Option.bind_some _ _).symm.trans H; rw [hy262]; with_reducible exact H2_) | (have H2_ := (Option.bind_some _ _).symm.trans H; with_reducible exact H2_) | with_reducible exact H | (rw [hy262]; exact H) | exact H
                 have Ny262 := A_ hy262
                 clear hy262
                 by_cases c31 : y259.length + y262.length < 4398046511104
                 ·rw [if_pos c31] at H
                  have LMc31 := A_ c31
                  clear c31
                  obtain ⟨y266, hy266⟩ : ∃ y_ : List (S23), y_ = (y259 ++ y262) := ⟨_, rfl⟩
                  replace H : (firkinlaw22_FoldOrders.l0 k2 l0 l1 y266 (wrap64 (x7_2 + 1)) t243 t244 t245 t246 t247 t248 t249 t250 t251) = some r := by first | (rw [hy266]; with_reducible exact H) | (have H2_ := (Option.bind_some _ _).symm.trans H; rw [hy266]; with_reducible exact H2_) | (have H2_ := (Option.bind_some _ _).symm.trans H; with_reducible exact H2_) | with_reducible exact H | (rw [hy266]; exact H) | exact H
                  have Ny266 := A_ hy266
                  clear hy266
                  have H' := A_ H
                  clear H
                  obtain ⟨Ao32, co32, eo32⟩ := Kd.R_slice HO_5.out
                  subst eo32
                  have p241 : 0 ≤ (x7_2 : Int) := of_decide_eq_true (by first | (with_reducible assumption) | assumption)
                  have q241 : x7_2 < (l1.length : Int) := of_decide_eq_true (by first | (with_reducible assumption) | assumption)
                  obtain ⟨ad241, e241, hx241_0⟩ := Kd.at_int HR1.out x7_2 p241 q241
                  cases e241
                  replace hx241_0 := (HB.out.cell (World.block_lt_of_cell? w _ hx241_0)).trans hx241_0
                  replace p241 := eq_true p241
                  replace q241 := eq_true q241
                  try go_wp2
                  have n0_ := A_ (Kd.R_drew HO_5.out)
                  have n1_ := A_ (blk_drew BK240.out)
                  have n2_ := A_ (below_drew1 HB.out)
                  clear HO_5
                  clear BK240
                  clear HB
                  have HO_5 := n0_
                  have BK240 := n1_
                  have HB := n2_
                  clear n0_ n1_ n2_
                  have p242 : 0 ≤ ((ji21) : Int) := of_decide_eq_true (by first | (with_reducible assumption) | assumption)
                  have q242 : (ji21) < (x5_2.length : Int) := of_decide_eq_true (by first | (with_reducible assumption) | assumption)
                  obtain ⟨ad242, e242, hx242_0, hx242_1, hx242_2⟩ := at_T23 (Kd.R_reads' HO_5.out).2.2 (ji21) p242 q242
                  cases e242
                  replace p242 := eq_true p242
                  replace q242 := eq_true q242
                  refine start_ (n := 7) (S := fun w' => w'.cell? ⟨gb240, 0, none⟩ = some (.int .i64 x241000_2) ∧ w'.cell? ⟨gb240, 1, none⟩ = some (.int .i64 x241001_2) ∧ w'.cell? ⟨gb240, 2, none⟩ = some (.int .i64 x241002_2) ∧ w'.cell? ⟨gb240, 3, none⟩ = some (.bool x241003_2) ∧ w'.cell? ⟨gb240, 4, none⟩ = some (.int .i64 x241004_2) ∧ w'.cell? ⟨gb240, 5, none⟩ = some (.string x241005_2) ∧ w'.cell? ⟨gb240, 6, none⟩ = some (.bool x241006_2) ∧ w'.cell? ⟨gb240, 7, none⟩ = some (.int .i64 x241007_2) ∧ w'.cell? ⟨gb240, 8, none⟩ = some (.string x241008_2) ∧ w'.cell? (ad242.add (((ji21)).toNat * 3)) = some (.bool ((rd_T23 x5_2 (ji21)).f0)) ∧ w'.cell? ⟨(ad242.add (((ji21)).toNat * 3)).block, (ad242.add (((ji21)).toNat * 3)).off + 1, none⟩ = some (.int .i64 ((rd_T23 x5_2 (ji21)).f1)) ∧ w'.cell? ⟨(ad242.add (((ji21)).toNat * 3)).block, (ad242.add (((ji21)).toNat * 3)).off + 2, none⟩ = some (.string ((rd_T23 x5_2 (ji21)).f2))) (ds := [6]) #[f_, f_, f_, f_, f_, f_, f_] (by kernel_rfl) rfl rfl ⟨(blk_cell BK240.out 0).trans rfl, (blk_cell BK240.out 1).trans rfl, (blk_cell BK240.out 2).trans rfl, (blk_cell BK240.out 3).trans rfl, (blk_cell BK240.out 4).trans rfl, (blk_cell BK240.out 5).trans rfl, (blk_cell BK240.out 6).trans rfl, (blk_cell BK240.out 7).trans rfl, (blk_cell BK240.out 8).trans rfl, hx242_0, hx242_1, hx242_2⟩ (fun hHeld => ?_)
                  generalize wr.drew = w33 at HO_5 BK240 HB hx242_0 hx242_1 hx242_2 hHeld ⊢
                  refine pure_ (i := 1) (N := some 41) (v := ?_) (a' := ?_) #[f_, t_, f_, f_, f_, f_, f_] rfl rfl (by kernel_rfl) (fun _ _ _ h => h) (Or.inl ⟨by rfl, ?_⟩) ?_ ?_
                  rotate_left
                  ·intro w'
                   go_simp
                   with_reducible rfl
                  rotate_left
                  ·simp only [Act.put, setIfInBounds_toArray, set_cons_zero, set_cons_succ, i64_w, i32_w]
                   rfl
                  refine pure_ (i := 2) (N := some 42) (v := ?_) (a' := ?_) #[f_, t_, t_, f_, f_, f_, f_] rfl rfl (by kernel_rfl) (fun _ _ _ h => h) (Or.inl ⟨by rfl, ?_⟩) ?_ ?_
                  rotate_left
                  ·intro w'
                   go_simp
                   with_reducible rfl
                  rotate_left
                  ·simp only [Act.put, setIfInBounds_toArray, set_cons_zero, set_cons_succ, i64_w, i32_w]
                   rfl
                  refine pure_ (i := 3) (N := some 43) (v := ?_) (a' := ?_) #[f_, t_, t_, t_, f_, f_, f_] rfl rfl (by kernel_rfl) (fun _ _ _ h => h) (Or.inl ⟨by rfl, ?_⟩) ?_ ?_
                  rotate_left
                  ·intro w'
                   go_simp
                   with_reducible rfl
                  rotate_left
                  ·simp only [Act.put, setIfInBounds_toArray, set_cons_zero, set_cons_succ, i64_w, i32_w]
                   rfl
                  refine take_ (i := 0) (N := some 40) (v := ?_) (a' := ?_) #[t_, t_, t_, t_, f_, f_, f_] rfl rfl (by kernel_rfl) (fun _ _ _ h => h) (Or.inl ⟨by rfl, ?_⟩) hHeld ?_ ?_
                  rotate_left
                  ·rintro w' ⟨s0, s1, s2, s3, s4, s5, s6, s7, s8, s9, s10, s11⟩
                   go_simp
                   with_reducible rfl
                  rotate_left
                  ·simp only [Act.put, setIfInBounds_toArray, set_cons_zero, set_cons_succ, i64_w, i32_w]
                   rfl
                  refine take_ (i := 4) (N := some 44) (v := ?_) (a' := ?_) #[t_, t_, t_, t_, t_, f_, f_] rfl rfl (by kernel_rfl) (fun _ _ _ h => h) (Or.inl ⟨by rfl, ?_⟩) hHeld ?_ ?_
                  rotate_left
                  ·rintro w' ⟨s0, s1, s2, s3, s4, s5, s6, s7, s8, s9, s10, s11⟩
                   go_simp
                   with_reducible rfl
                  rotate_left
                  ·simp only [Act.put, setIfInBounds_toArray, set_cons_zero, set_cons_succ, i64_w, i32_w]
                   rfl
                  refine one_ (i := 5) (N := some 45) #[t_, t_, t_, t_, t_, t_, f_] rfl rfl (by kernel_rfl) (by decide) (fun K hK => ?_)
                  refine goes_ Try.func56 (by kernel_rfl) rfl #[.agg #[.int .i64 x241000_2, .int .i64 x241001_2, .int .i64 x241002_2, .bool x241003_2, .int .i64 x241004_2, .string x241005_2, .bool x241006_2, .int .i64 x241007_2, .string x241008_2], .agg #[.bool ((rd_T23 x5_2 (ji21)).f0), .int .i64 ((rd_T23 x5_2 (ji21)).f1), .string ((rd_T23 x5_2 (ji21)).f2)]] (by rfl) rfl rfl (by (try simp only [List.map_toArray, List.map_cons, List.map_nil]); first | done | (simp only [hji21]; rfl) | rfl | (simp only [List.length_drop, List.length_take]; rfl)) ?_
                  with_reducible refine (fold_State_Add.calls k2 x241000_2 x241001_2 x241002_2 x241003_2 x241004_2 x241005_2 x241006_2 x241007_2 x241008_2 ((rd_T23 x5_2 (ji21)).f0) ((rd_T23 x5_2 (ji21)).f1) ((rd_T23 x5_2 (ji21)).f2) t243 t244 t245 t246 t247 t248 t249 t250 t251 _ A24.out).mono ?_
                  rintro e w34 ⟨rfl, hb⟩
                  have HS9_ := (hb.cell (World.block_lt_of_cell? _ _ (hHeld.2.2.2.2.2.2.2.2.2.1))).trans (hHeld.2.2.2.2.2.2.2.2.2.1)
                  have HS10_ := (hb.cell (World.block_lt_of_cell? _ _ (hHeld.2.2.2.2.2.2.2.2.2.2.1))).trans (hHeld.2.2.2.2.2.2.2.2.2.2.1)
                  have HS11_ := (hb.cell (World.block_lt_of_cell? _ _ (hHeld.2.2.2.2.2.2.2.2.2.2.2))).trans (hHeld.2.2.2.2.2.2.2.2.2.2.2)
                  refine ⟨_, rfl, ?_⟩
                  have n0_ := A_ (Kd.R_below (by (with_reducible repeat (first | apply Kd.R_alloc | apply Kd.R_drewN | apply Kd.R_drew)); exact HO_5.out) hb)
                  have n1_ := A_ (blk_below (g := gb240) (o := .cells #[.int .i64 x241000_2, .int .i64 x241001_2, .int .i64 x241002_2, .bool x241003_2, .int .i64 x241004_2, .string x241005_2, .bool x241006_2, .int .i64 x241007_2, .string x241008_2] 63 (0, 0)) (by (with_reducible repeat (first | refine blk_drewN ?_ _ | refine blk_drew ?_ | refine blk_alloc ?_ _)); exact BK240.out) hb)
                  have n2_ := A_ (below_step (by repeat (first | (with_reducible first | exact HB.out | apply below_alloc | apply pw_below_drewN | apply below_drew1 | refine below_set ?_ GE240.out) | exact HB.out)) hb)
                  clear HO_5
                  clear BK240
                  clear HB
                  have HO_5 := n0_
                  have BK240 := n1_
                  have HB := n2_
                  clear n0_ n1_ n2_
                  (try clear hb)
                  (try clear hb2)
                  (try clear hk)
                  (try clear hi)
                  (try clear A24)
                  refine hK.out _ _ ⟨(blk_cell BK240.out 0).trans rfl, (blk_cell BK240.out 1).trans rfl, (blk_cell BK240.out 2).trans rfl, (blk_cell BK240.out 3).trans rfl, (blk_cell BK240.out 4).trans rfl, (blk_cell BK240.out 5).trans rfl, (blk_cell BK240.out 6).trans rfl, (blk_cell BK240.out 7).trans rfl, (blk_cell BK240.out 8).trans rfl, HS9_, HS10_, HS11_⟩ (fun hHeld => ?_)
                  clear hK K
                  refine norm_ (a' := ?_) ?_ ?_
                  rotate_left
                  ·show Act.put _ (some 45) _ = _
                   simp only [Act.put, setIfInBounds_toArray, set_cons_zero, set_cons_succ, i64_w, i32_w]
                   rfl
                  refine last_ (i := 6) (N := none) #[t_, t_, t_, t_, t_, t_, t_] rfl rfl (by kernel_rfl) (by decide) (fun K hK => ?_)
                  have hs35 : w34.cell? ⟨gb240, 0, none⟩ = some (.int .i64 x241000_2) := (blk_cell BK240.out 0).trans rfl
                  have hfs35 := blk_frozen BK240.out 0
                  have hs36 : w34.cell? ⟨gb240, 1, none⟩ = some (.int .i64 x241001_2) := (blk_cell BK240.out 1).trans rfl
                  have hfs36 := blk_frozen BK240.out 1
                  have hs37 : w34.cell? ⟨gb240, 2, none⟩ = some (.int .i64 x241002_2) := (blk_cell BK240.out 2).trans rfl
                  have hfs37 := blk_frozen BK240.out 2
                  have hs38 : w34.cell? ⟨gb240, 3, none⟩ = some (.bool x241003_2) := (blk_cell BK240.out 3).trans rfl
                  have hfs38 := blk_frozen BK240.out 3
                  have hs39 : w34.cell? ⟨gb240, 4, none⟩ = some (.int .i64 x241004_2) := (blk_cell BK240.out 4).trans rfl
                  have hfs39 := blk_frozen BK240.out 4
                  have hs40 : w34.cell? ⟨gb240, 5, none⟩ = some (.string x241005_2) := (blk_cell BK240.out 5).trans rfl
                  have hfs40 := blk_frozen BK240.out 5
                  have hs41 : w34.cell? ⟨gb240, 6, none⟩ = some (.bool x241006_2) := (blk_cell BK240.out 6).trans rfl
                  have hfs41 := blk_frozen BK240.out 6
                  have hs42 : w34.cell? ⟨gb240, 7, none⟩ = some (.int .i64 x241007_2) := (blk_cell BK240.out 7).trans rfl
                  have hfs42 := blk_frozen BK240.out 7
                  have hs43 : w34.cell? ⟨gb240, 8, none⟩ = some (.string x241008_2) := (blk_cell BK240.out 8).trans rfl
                  have hfs43 := blk_frozen BK240.out 8
                  refine skip_ (w1 := ?_) (by rfl) rfl ?_ ?_
                  rotate_left
                  ·go_simp
                   rfl
                  refine hK.out _ _ ?_
                  clear hK K
                  refine done_ (by kernel_rfl) ?_
                  try go_wp2
                  have n0_ : Aside0 (Kd.R k23 23 (((((((((w34.setCell ⟨gb240, 0, none⟩ (.int .i64 t243)).setCell ⟨gb240, 1, none⟩ (.int .i64 t244)).setCell ⟨gb240, 2, none⟩ (.int .i64 t245)).setCell ⟨gb240, 3, none⟩ (.bool t246)).setCell ⟨gb240, 4, none⟩ (.int .i64 t247)).setCell ⟨gb240, 5, none⟩ (.string t248)).setCell ⟨gb240, 6, none⟩ (.bool t249)).setCell ⟨gb240, 7, none⟩ (.int .i64 t250)).setCell ⟨gb240, 8, none⟩ (.string t251)) w.heap.size (fun _ => True) (.slice (some ad242) x5_2.length co32) x5_2) := ⟨by (with_reducible repeat (first | apply Kd.R_alloc | apply Kd.R_drewN | apply Kd.R_drew)); exact Kd.R_mono (Kd.R_far (p := ⟨gb240, 8, none⟩) (Kd.R_far (p := ⟨gb240, 7, none⟩) (Kd.R_far (p := ⟨gb240, 6, none⟩) (Kd.R_far (p := ⟨gb240, 5, none⟩) (Kd.R_far (p := ⟨gb240, 4, none⟩) (Kd.R_far (p := ⟨gb240, 3, none⟩) (Kd.R_far (p := ⟨gb240, 2, none⟩) (Kd.R_far (p := ⟨gb240, 1, none⟩) (Kd.R_far (p := ⟨gb240, 0, none⟩) (Kd.R_types HO_5.out BK240.out (by decide)) (fun _ hk => hk.2) (.int .i64 t243)) (fun _ hk => hk.2) (.int .i64 t244)) (fun _ hk => hk.2) (.int .i64 t245)) (fun _ hk => hk.2) (.bool t246)) (fun _ hk => hk.2) (.int .i64 t247)) (fun _ hk => hk.2) (.string t248)) (fun _ hk => hk.2) (.bool t249)) (fun _ hk => hk.2) (.int .i64 t250)) (fun _ hk => hk.2) (.string t251)) (fun _ hk => trivial)⟩
                  have n1_ : Aside0 ((((((((((w34.setCell ⟨gb240, 0, none⟩ (.int .i64 t243)).setCell ⟨gb240, 1, none⟩ (.int .i64 t244)).setCell ⟨gb240, 2, none⟩ (.int .i64 t245)).setCell ⟨gb240, 3, none⟩ (.bool t246)).setCell ⟨gb240, 4, none⟩ (.int .i64 t247)).setCell ⟨gb240, 5, none⟩ (.string t248)).setCell ⟨gb240, 6, none⟩ (.bool t249)).setCell ⟨gb240, 7, none⟩ (.int .i64 t250)).setCell ⟨gb240, 8, none⟩ (.string t251)).heap[gb240]? = some (.cells #[.int .i64 t243, .int .i64 t244, .int .i64 t245, .bool t246, .int .i64 t247, .string t248, .bool t249, .int .i64 t250, .string t251] 63 (0, 0))) := ⟨by (with_reducible repeat (first | refine blk_drewN ?_ _ | refine blk_drew ?_ | refine blk_alloc ?_ _)); refine blk_put (cs := #[.int .i64 t243, .int .i64 t244, .int .i64 t245, .bool t246, .int .i64 t247, .string t248, .bool t249, .int .i64 t250, .string x241008_2]) ?_ 8 _ rfl; (with_reducible repeat (first | refine blk_drewN ?_ _ | refine blk_drew ?_ | refine blk_alloc ?_ _)); refine blk_put (cs := #[.int .i64 t243, .int .i64 t244, .int .i64 t245, .bool t246, .int .i64 t247, .string t248, .bool t249, .int .i64 x241007_2, .string x241008_2]) ?_ 7 _ rfl; (with_reducible repeat (first | refine blk_drewN ?_ _ | refine blk_drew ?_ | refine blk_alloc ?_ _)); refine blk_put (cs := #[.int .i64 t243, .int .i64 t244, .int .i64 t245, .bool t246, .int .i64 t247, .string t248, .bool x241006_2, .int .i64 x241007_2, .string x241008_2]) ?_ 6 _ rfl; (with_reducible repeat (first | refine blk_drewN ?_ _ | refine blk_drew ?_ | refine blk_alloc ?_ _)); refine blk_put (cs := #[.int .i64 t243, .int .i64 t244, .int .i64 t245, .bool t246, .int .i64 t247, .string x241005_2, .bool x241006_2, .int .i64 x241007_2, .string x241008_2]) ?_ 5 _ rfl; (with_reducible repeat (first | refine blk_drewN ?_ _ | refine blk_drew ?_ | refine blk_alloc ?_ _)); refine blk_put (cs := #[.int .i64 t243, .int .i64 t244, .int .i64 t245, .bool t246, .int .i64 x241004_2, .string x241005_2, .bool x241006_2, .int .i64 x241007_2, .string x241008_2]) ?_ 4 _ rfl; (with_reducible repeat (first | refine blk_drewN ?_ _ | refine blk_drew ?_ | refine blk_alloc ?_ _)); refine blk_put (cs := #[.int .i64 t243, .int .i64 t244, .int .i64 t245, .bool x241003_2, .int .i64 x241004_2, .string x241005_2, .bool x241006_2, .int .i64 x241007_2, .string x241008_2]) ?_ 3 _ rfl; (with_reducible repeat (first | refine blk_drewN ?_ _ | refine blk_drew ?_ | refine blk_alloc ?_ _)); refine blk_put (cs := #[.int .i64 t243, .int .i64 t244, .int .i64 x241002_2, .bool x241003_2, .int .i64 x241004_2, .string x241005_2, .bool x241006_2, .int .i64 x241007_2, .string x241008_2]) ?_ 2 _ rfl; (with_reducible repeat (first | refine blk_drewN ?_ _ | refine blk_drew ?_ | refine blk_alloc ?_ _)); refine blk_put (cs := #[.int .i64 t243, .int .i64 x241001_2, .int .i64 x241002_2, .bool x241003_2, .int .i64 x241004_2, .string x241005_2, .bool x241006_2, .int .i64 x241007_2, .string x241008_2]) ?_ 1 _ rfl; (with_reducible repeat (first | refine blk_drewN ?_ _ | refine blk_drew ?_ | refine blk_alloc ?_ _)); refine blk_put (cs := #[.int .i64 x241000_2, .int .i64 x241001_2, .int .i64 x241002_2, .bool x241003_2, .int .i64 x241004_2, .string x241005_2, .bool x241006_2, .int .i64 x241007_2, .string x241008_2]) ?_ 0 _ rfl; (with_reducible repeat (first | refine blk_drewN ?_ _ | refine blk_drew ?_ | refine blk_alloc ?_ _)); exact BK240.out⟩
                  have n2_ : Aside0 (Below w.heap.size w (((((((((w34.setCell ⟨gb240, 0, none⟩ (.int .i64 t243)).setCell ⟨gb240, 1, none⟩ (.int .i64 t244)).setCell ⟨gb240, 2, none⟩ (.int .i64 t245)).setCell ⟨gb240, 3, none⟩ (.bool t246)).setCell ⟨gb240, 4, none⟩ (.int .i64 t247)).setCell ⟨gb240, 5, none⟩ (.string t248)).setCell ⟨gb240, 6, none⟩ (.bool t249)).setCell ⟨gb240, 7, none⟩ (.int .i64 t250)).setCell ⟨gb240, 8, none⟩ (.string t251))) := ⟨by repeat (first | (with_reducible first | exact HB.out | apply below_alloc | apply pw_below_drewN | apply below_drew1 | refine below_set ?_ GE240.out) | exact HB.out)⟩
                  (try clear HO_5)
                  (try clear BK240)
                  (try clear HB)
                  generalize (((((((((w34.setCell ⟨gb240, 0, none⟩ (.int .i64 t243)).setCell ⟨gb240, 1, none⟩ (.int .i64 t244)).setCell ⟨gb240, 2, none⟩ (.int .i64 t245)).setCell ⟨gb240, 3, none⟩ (.bool t246)).setCell ⟨gb240, 4, none⟩ (.int .i64 t247)).setCell ⟨gb240, 5, none⟩ (.string t248)).setCell ⟨gb240, 6, none⟩ (.bool t249)).setCell ⟨gb240, 7, none⟩ (.int .i64 t250)).setCell ⟨gb240, 8, none⟩ (.string t251)) = w44 at n0_ n1_ n2_ ⊢
                  have HO_5 := n0_
                  have BK240 := n1_
                  have HB := n2_
                  clear n0_ n1_ n2_
                  have n0_ := A_ (Kd.R_drew HO_5.out)
                  have n1_ := A_ (blk_drew BK240.out)
                  have n2_ := A_ (below_drew1 HB.out)
                  clear HO_5
                  clear BK240
                  clear HB
                  have HO_5 := n0_
                  have BK240 := n1_
                  have HB := n2_
                  clear n0_ n1_ n2_
                  have q46 : ((ji21) : Int) ≤ ((x5_2.length : Int) : Int) := of_decide_eq_true (by first | (with_reducible assumption) | assumption)
                  obtain ⟨i046, hi046, _, hsz46, _⟩ := info_parts info23
                  have hroom46 : x5_2.length ≤ co32 := (Kd.R_reads' HO_5.out).2.1
                  have hC46 : Kd.C k23 _ (some ad242) x5_2.length x5_2 := (Kd.R_reads' HO_5.out).2.2
                  have hcut46 := cut_to (P := Try.prog) 60 23 .i64 Try.underlying60 hi046 (some ad242) x5_2.length co32 (ji21) (of_decide_eq_true (by first | (with_reducible assumption) | assumption)) q46 hroom46
                  have hr46 := Kd.C_take (m := ((ji21) : Int).toNat) hC46 (by omega)
                  have hy46 : y255.length = ((ji21) : Int).toNat := (by rw [Ny255.out, List.length_take]; omega)
                  rw [← Ny255.out] at hr46
                  rw [← hy46] at hcut46
                  have HR258 := A_ hr46
                  have HC258 := A_ (show y255.length ≤ co32 from by omega)
                  clear hr46 hC46 hroom46 hi046 hsz46
                  have KY46 := A_ hy46
                  clear hy46
                  have KL46 := A_ (show ((ji21) : Int).toNat ≤ x5_2.length from by omega)
                  replace q46 := eq_true q46
                  have q47 : ((ji28) : Int) ≤ ((x5_2.length : Int) : Int) := of_decide_eq_true (by first | (with_reducible assumption) | assumption)
                  obtain ⟨i047, hi047, _, hsz47, _⟩ := info_parts info23
                  have hroom47 : x5_2.length ≤ co32 := (Kd.R_reads' HO_5.out).2.1
                  have hC47 : Kd.C k23 _ (some ad242) x5_2.length x5_2 := (Kd.R_reads' HO_5.out).2.2
                  have q047 : (0 : Int) ≤ ((ji28) : Int) := of_decide_eq_true (by first | (with_reducible assumption) | assumption)
                  have hcut47 := cut_from (P := Try.prog) 60 23 .i64 Try.underlying60 hi047 3 hsz47 (some ad242) x5_2.length co32 (ji28) q047 q47
                  have hr47 := Kd.C_drop (m := ((ji28) : Int).toNat) (c := co32) hC47 (by omega) hroom47
                  obtain ⟨A47, hA47⟩ : ∃ A1, A1 = (if co32 = ((ji28) : Int).toNat then (some ad242) else ((some ad242) : Option Addr).map (·.add (((ji28) : Int).toNat * 3))) := ⟨_, rfl⟩
                  obtain ⟨c47, hc47⟩ : ∃ c1, c1 = co32 - ((ji28) : Int).toNat := ⟨_, rfl⟩
                  have hy47 : y262.length = x5_2.length - ((ji28) : Int).toNat := (by rw [Ny262.out, List.length_drop] <;> omega)
                  rw [show (x5_2).drop ((ji28) : Int).toNat = y262 from Ny262.out.symm] at hr47
                  replace hr47 : Kd.C k23 _ A47 y262.length y262 := (by rw [hA47]; exact hr47)
                  rw [← hy47, ← hA47, ← hc47] at hcut47
                  have HR265 := A_ hr47
                  have HC265 := A_ (show y262.length ≤ c47 from by rw [hy47, hc47]; exact Nat.sub_le_sub_right hroom47 _)
                  clear hr47 hC47 hroom47 hi047 hsz47 hc47
                  have KY47 := A_ hy47
                  have KA47 := A_ hA47
                  clear hy47 hA47
                  have KL47 := A_ (show ((ji28) : Int).toNat ≤ x5_2.length from by omega)
                  replace q47 := eq_true q47
                  refine start_ (n := 11) (S := fun w' => True) (ds := []) #[f_, f_, f_, f_, f_, f_, f_, f_, f_, f_, f_] (by kernel_rfl) rfl rfl trivial (fun hHeld => ?_); refine with_tabW firkinlaw22_FoldOrders.tab12 firkinlaw22_FoldOrders.bits12 (fun HT_ HW_ => ?_)
                  generalize w44.drew = w45 at HO_5 BK240 HB HR258 HR265 hHeld ⊢
                  refine pure_ (i := 1) (N := some 47) (v := ?_) (a' := ?_) #[f_, t_, f_, f_, f_, f_, f_, f_, f_, f_, f_] rfl rfl (any_of HT_.out (by kernel_rfl)) (fun _ _ _ h => h) (Or.inl ⟨by rfl, ?_⟩) ?_ ?_
                  rotate_left
                  ·intro w'
                   go_simp
                   with_reducible rfl
                  rotate_left
                  ·simp only [Act.put, setIfInBounds_toArray, set_cons_zero, set_cons_succ, i64_w, i32_w]
                   rfl
                  refine pure_ (i := 2) (N := some 48) (v := ?_) (a' := ?_) #[f_, t_, t_, f_, f_, f_, f_, f_, f_, f_, f_] rfl rfl (any_of HT_.out (by kernel_rfl)) (fun _ _ _ h => h) (Or.inl ⟨by rfl, ?_⟩) ?_ ?_
                  rotate_left
                  ·intro w'
                   go_simp
                   with_reducible rfl
                  rotate_left
                  ·simp only [Act.put, setIfInBounds_toArray, set_cons_zero, set_cons_succ, i64_w, i32_w]
                   rfl
                  refine pure_ (i := 3) (N := some 49) (v := ?_) (a' := ?_) #[f_, t_, t_, t_, f_, f_, f_, f_, f_, f_, f_] rfl rfl (any_of HT_.out (by kernel_rfl)) (fun _ _ _ h => h) (Or.inl ⟨by rfl, ?_⟩) ?_ ?_
                  rotate_left
                  ·intro w'
                   go_simp
                   with_reducible rfl
                  rotate_left
                  ·simp only [Act.put, setIfInBounds_toArray, set_cons_zero, set_cons_succ, i64_w, i32_w]
                   rfl
                  refine pure_ (i := 5) (N := some 51) (v := ?_) (a' := ?_) #[f_, t_, t_, t_, f_, t_, f_, f_, f_, f_, f_] rfl rfl (any_of HT_.out (by kernel_rfl)) (fun _ _ _ h => h) (Or.inl ⟨by rfl, ?_⟩) ?_ ?_
                  rotate_left
                  ·intro w'
                   go_simp
                   with_reducible rfl
                  rotate_left
                  ·simp only [Act.put, setIfInBounds_toArray, set_cons_zero, set_cons_succ, i64_w, i32_w]
                   rfl
                  refine pure_ (i := 6) (N := some 52) (v := ?_) (a' := ?_) #[f_, t_, t_, t_, f_, t_, t_, f_, f_, f_, f_] rfl rfl (any_of HT_.out (by kernel_rfl)) (fun _ _ _ h => h) (Or.inl ⟨by rfl, ?_⟩) ?_ ?_
                  rotate_left
                  ·intro w'
                   go_simp
                   with_reducible rfl
                  rotate_left
                  ·simp only [Act.put, setIfInBounds_toArray, set_cons_zero, set_cons_succ, i64_w, i32_w]
                   rfl
                  refine pure_ (i := 7) (N := some 53) (v := ?_) (a' := ?_) #[f_, t_, t_, t_, f_, t_, t_, t_, f_, f_, f_] rfl rfl (any_of HT_.out (by kernel_rfl)) (fun _ _ _ h => h) (Or.inl ⟨by rfl, ?_⟩) ?_ ?_
                  rotate_left
                  ·intro w'
                   go_simp
                   with_reducible rfl
                  rotate_left
                  ·simp only [Act.put, setIfInBounds_toArray, set_cons_zero, set_cons_succ, i64_w, i32_w]
                   rfl
                  refine pure_ (i := 8) (N := some 54) (v := ?_) (a' := ?_) #[f_, t_, t_, t_, f_, t_, t_, t_, t_, f_, f_] rfl rfl (any_of HT_.out (by kernel_rfl)) (fun _ _ _ h => h) (Or.inl ⟨by rfl, ?_⟩) ?_ ?_
                  rotate_left
                  ·intro w'
                   go_simp
                   with_reducible rfl
                  rotate_left
                  ·simp only [Act.put, setIfInBounds_toArray, set_cons_zero, set_cons_succ, i64_w, i32_w]
                   rfl
                  refine one_ (i := 0) (N := some 46) #[t_, t_, t_, t_, f_, t_, t_, t_, t_, f_, f_] rfl rfl (one_of HT_.out (by kernel_rfl)) (by decide) (fun K hK => ?_)
                  refine Kd.R_lit_step k23 _ 23 ?hg (N := 46) ?hd (xs := ([] : List (S23))) (inner := []) (ok := fun _ => True) (okp := fun _ => True) ?hr ?hp (fun _ hk => hk) trivial (Below.refl _ _) (Nat.le_refl _) (by simp) ?_; (case hd => rfl); (case hg => rfl); (case hr => first | (go_simp; done) | (go_simp; rfl)); (case hp => exact (Reps.none _ _))
                  intro v253 w48 ho49 hb hg_ hnew_
                  clear hg_ hnew_
                  (first | rw [← Ny252.out] at ho49 | (simp only [Int.reduceToNat] at ho49; rw [← Ny252.out] at ho49))
                  have n0_ := A_ (Kd.R_elder' (by (with_reducible repeat (first | apply Kd.R_alloc | apply Kd.R_drewN | apply Kd.R_drew)); exact HO_5.out) (Kd.R_base ho49) hb)
                  have n1_ := A_ (Kd.R_lower (Kd.R_new' ho49 (Kd.R_lt (by (with_reducible repeat (first | apply Kd.R_alloc | apply Kd.R_drewN | apply Kd.R_drew)); exact HO_5.out))) (below_size (by repeat (first | (with_reducible first | exact HB.out | apply below_alloc | apply pw_below_drewN | apply below_drew1 | refine below_set ?_ GE240.out) | exact HB.out))))
                  have n2_ := A_ (blk_below (g := gb240) (o := .cells #[.int .i64 t243, .int .i64 t244, .int .i64 t245, .bool t246, .int .i64 t247, .string t248, .bool t249, .int .i64 t250, .string t251] 63 (0, 0)) (by (with_reducible repeat (first | refine blk_drewN ?_ _ | refine blk_drew ?_ | refine blk_alloc ?_ _)); exact BK240.out) hb)
                  have n3_ := A_ (Kd.C_below (by repeat (first | (with_reducible exact HR258.out) | (with_reducible refine Kd.C_alloc ?_ _) | (with_reducible refine Kd.C_drewN ?_ _) | (with_reducible refine Kd.C_drew ?_) | exact HR258.out)) hb)
                  have n4_ := A_ (Kd.C_below (by repeat (first | (with_reducible exact HR265.out) | (with_reducible refine Kd.C_alloc ?_ _) | (with_reducible refine Kd.C_drewN ?_ _) | (with_reducible refine Kd.C_drew ?_) | exact HR265.out)) hb)
                  have n5_ := A_ (below_step (by repeat (first | (with_reducible first | exact HB.out | apply below_alloc | apply pw_below_drewN | apply below_drew1 | refine below_set ?_ GE240.out) | exact HB.out)) hb)
                  clear HO_5
                  clear BK240
                  clear HR258
                  clear HR265
                  clear HB
                  have HO_5 := n0_
                  have HO254 := n1_
                  have BK240 := n2_
                  have HR258 := n3_
                  have HR265 := n4_
                  have HB := n5_
                  clear n0_ n1_ n2_ n3_ n4_ n5_
                  clear hb ho49
                  refine hK.out _ _ trivial (fun hHeld => ?_)
                  clear hK K
                  refine norm_ (a' := ?_) ?_ ?_
                  rotate_left
                  ·show Act.put _ (some 46) _ = _
                   simp only [Act.put, setIfInBounds_toArray, set_cons_zero, set_cons_succ, i64_w, i32_w]
                   rfl
                  refine one_ (i := 4) (N := some 50) #[t_, t_, t_, t_, t_, t_, t_, t_, t_, f_, f_] rfl rfl (one_of HT_.out (by kernel_rfl)) (by decide) (fun K hK => ?_)
                  refine Kd.R_append_rows_step k23 (w0 := w) w.heap.size (by rfl) (.tmp 46) (.tmp 49) 60 23 (.agg #[(.bool false), (.int .i64 0), (.string ⟨#[]⟩)]) 32 rfl Try.underlying60 info23 rfl (by decide) (by omega) v253 y252 y255 _ _ _ (fun k_ => some k_ ≠ (.slice (some ad242) x5_2.length co32 : Value).ownBlock) (fun _ => False) rfl rfl ?aO ?aR (fun _ _ h => h) (fun _ h => h.elim) ?aF ?aB ?aS ?aL ?_
                  (case aR => repeat (first | exact (by repeat (first | (with_reducible exact HR258.out) | (with_reducible refine Kd.C_alloc ?_ _) | (with_reducible refine Kd.C_drewN ?_ _) | (with_reducible refine Kd.C_drew ?_) | exact HR258.out)) | (with_reducible refine Kd.C_alloc ?_ _) | (with_reducible refine Kd.C_drewN ?_ _) | (with_reducible refine Kd.C_drew ?_)))
                  (case aB => exact (by repeat (first | (with_reducible first | exact HB.out | apply below_alloc | apply pw_below_drewN | apply below_drew1 | refine below_set ?_ GE240.out) | exact HB.out)))
                  (case aF => exact (fun k_ hk => Kd.fresh' (Kd.R_lt (by (with_reducible repeat (first | apply Kd.R_alloc | apply Kd.R_drewN | apply Kd.R_drew)); exact HO_5.out)) k_ hk))
                  (case aO => exact (by (with_reducible repeat (first | apply Kd.R_alloc | apply Kd.R_drewN | apply Kd.R_drew)); exact Kd.R_mono HO254.out (fun _ hk => hk.2)))
                  (case aS => exact (below_size (by repeat (first | (with_reducible first | exact HB.out | apply below_alloc | apply pw_below_drewN | apply below_drew1 | refine below_set ?_ GE240.out) | exact HB.out))))
                  (case aL => have := LMc27.out; omega)
                  intro v260 w50 ho hb hg hat
                  rw [← Ny259.out] at ho
                  have n0_ := A_ (Kd.R_after (ok := (fun _ => True)) (by (with_reducible repeat (first | apply Kd.R_alloc | apply Kd.R_drewN | apply Kd.R_drew)); exact HO_5.out) hg hat)
                  have n1_ := A_ (blk_grown (g := gb240) (o := .cells #[.int .i64 t243, .int .i64 t244, .int .i64 t245, .bool t246, .int .i64 t247, .string t248, .bool t249, .int .i64 t250, .string t251] 63 (0, 0)) (by (with_reducible repeat (first | refine blk_drewN ?_ _ | refine blk_drew ?_ | refine blk_alloc ?_ _)); exact BK240.out) hg (Kd.R_ne HO254.out BK240.out (by decide)))
                  have n2_ := A_ (hb)
                  have n3_ := A_ ((show Kd.C k23 w50 (some ad242) y255.length y255 from by rw [Ny255.out]; exact Kd.C_take (m := ((ji21) : Int).toNat) ((Kd.R_reads' (Kd.R_after (ok := (fun _ => True)) (by (with_reducible repeat (first | apply Kd.R_alloc | apply Kd.R_drewN | apply Kd.R_drew)); exact HO_5.out) hg hat)).2.2) KL46.out))
                  have n4_ := A_ ((show Kd.C k23 w50 A47 y262.length y262 from by rw [Ny262.out, KA47.out]; exact Kd.C_drop (m := ((ji28) : Int).toNat) (c := co32) ((Kd.R_reads' (Kd.R_after (ok := (fun _ => True)) (by (with_reducible repeat (first | apply Kd.R_alloc | apply Kd.R_drewN | apply Kd.R_drew)); exact HO_5.out) hg hat)).2.2) KL47.out ((Kd.R_reads' (Kd.R_after (ok := (fun _ => True)) (by (with_reducible repeat (first | apply Kd.R_alloc | apply Kd.R_drewN | apply Kd.R_drew)); exact HO_5.out) hg hat)).2.1)))
                  have n5_ := A_ (ho)
                  clear HO_5
                  clear BK240
                  clear HB
                  clear HR258
                  clear HR265
                  clear HO254
                  have HO_5 := n0_
                  have BK240 := n1_
                  have HB := n2_
                  have HR258 := n3_
                  have HR265 := n4_
                  have HO261 := n5_
                  clear n0_ n1_ n2_ n3_ n4_ n5_
                  clear ho hb hg hat
                  refine hK.out _ _ trivial (fun hHeld => ?_)
                  clear hK K
                  refine norm_ (a' := ?_) ?_ ?_
                  rotate_left
                  ·show Act.put _ (some 50) _ = _
                   simp only [Act.put, setIfInBounds_toArray, set_cons_zero, set_cons_succ, i64_w, i32_w]
                   rfl
                  refine one_ (i := 9) (N := some 55) #[t_, t_, t_, t_, t_, t_, t_, t_, t_, t_, f_] rfl rfl (one_of HT_.out (by kernel_rfl)) (by decide) (fun K hK => ?_)
                  refine Kd.R_append_rows_step k23 (w0 := w) w.heap.size (by rfl) (.tmp 50) (.tmp 54) 60 23 (.agg #[(.bool false), (.int .i64 0), (.string ⟨#[]⟩)]) 32 rfl Try.underlying60 info23 rfl (by decide) (by omega) v260 y259 y262 _ _ _ (fun k_ => some k_ ≠ (.slice (some ad242) x5_2.length co32 : Value).ownBlock) (fun _ => False) rfl rfl ?aO ?aR (fun _ _ h => h) (fun _ h => h.elim) ?aF ?aB ?aS ?aL ?_
                  (case aR => repeat (first | exact (by repeat (first | (with_reducible exact HR265.out) | (with_reducible refine Kd.C_alloc ?_ _) | (with_reducible refine Kd.C_drewN ?_ _) | (with_reducible refine Kd.C_drew ?_) | exact HR265.out)) | (with_reducible refine Kd.C_alloc ?_ _) | (with_reducible refine Kd.C_drewN ?_ _) | (with_reducible refine Kd.C_drew ?_)))
                  (case aB => exact (by repeat (first | (with_reducible first | exact HB.out | apply below_alloc | apply pw_below_drewN | apply below_drew1 | refine below_set ?_ GE240.out) | exact HB.out)))
                  (case aF => exact (fun k_ hk => Kd.fresh' (Kd.R_lt (by (with_reducible repeat (first | apply Kd.R_alloc | apply Kd.R_drewN | apply Kd.R_drew)); exact HO_5.out)) k_ hk))
                  (case aO => exact (by (with_reducible repeat (first | apply Kd.R_alloc | apply Kd.R_drewN | apply Kd.R_drew)); exact HO261.out))
                  (case aS => exact (below_size (by repeat (first | (with_reducible first | exact HB.out | apply below_alloc | apply pw_below_drewN | apply below_drew1 | refine below_set ?_ GE240.out) | exact HB.out))))
                  (case aL => have := LMc31.out; omega)
                  intro v267 w51 ho hb hg hat
                  rw [← Ny266.out] at ho
                  have n0_ := A_ (Kd.R_after (ok := (fun _ => True)) (by (with_reducible repeat (first | apply Kd.R_alloc | apply Kd.R_drewN | apply Kd.R_drew)); exact HO_5.out) hg hat)
                  have n1_ := A_ (blk_grown (g := gb240) (o := .cells #[.int .i64 t243, .int .i64 t244, .int .i64 t245, .bool t246, .int .i64 t247, .string t248, .bool t249, .int .i64 t250, .string t251] 63 (0, 0)) (by (with_reducible repeat (first | refine blk_drewN ?_ _ | refine blk_drew ?_ | refine blk_alloc ?_ _)); exact BK240.out) hg (Kd.R_ne HO261.out BK240.out (by decide)))
                  have n2_ := A_ (hb)
                  have n3_ := A_ ((show Kd.C k23 w51 (some ad242) y255.length y255 from by rw [Ny255.out]; exact Kd.C_take (m := ((ji21) : Int).toNat) ((Kd.R_reads' (Kd.R_after (ok := (fun _ => True)) (by (with_reducible repeat (first | apply Kd.R_alloc | apply Kd.R_drewN | apply Kd.R_drew)); exact HO_5.out) hg hat)).2.2) KL46.out))
                  have n4_ := A_ ((show Kd.C k23 w51 A47 y262.length y262 from by rw [Ny262.out, KA47.out]; exact Kd.C_drop (m := ((ji28) : Int).toNat) (c := co32) ((Kd.R_reads' (Kd.R_after (ok := (fun _ => True)) (by (with_reducible repeat (first | apply Kd.R_alloc | apply Kd.R_drewN | apply Kd.R_drew)); exact HO_5.out) hg hat)).2.2) KL47.out ((Kd.R_reads' (Kd.R_after (ok := (fun _ => True)) (by (with_reducible repeat (first | apply Kd.R_alloc | apply Kd.R_drewN | apply Kd.R_drew)); exact HO_5.out) hg hat)).2.1)))
                  have n5_ := A_ (ho)
                  clear HO_5
                  clear BK240
                  clear HB
                  clear HR258
                  clear HR265
                  clear HO261
                  have HO_5 := n0_
                  have BK240 := n1_
                  have HB := n2_
                  have HR258 := n3_
                  have HR265 := n4_
                  have HO268 := n5_
                  clear n0_ n1_ n2_ n3_ n4_ n5_
                  clear ho hb hg hat
                  refine hK.out _ _ trivial (fun hHeld => ?_)
                  clear hK K
                  refine norm_ (a' := ?_) ?_ ?_
                  rotate_left
                  ·show Act.put _ (some 55) _ = _
                   simp only [Act.put, setIfInBounds_toArray, set_cons_zero, set_cons_succ, i64_w, i32_w]
                   rfl
                  refine pure_ (i := 10) (N := some 5) (v := ?_) (a' := ?_) #[t_, t_, t_, t_, t_, t_, t_, t_, t_, t_, t_] rfl rfl (any_of HT_.out (by kernel_rfl)) (fun _ _ _ h => h) (Or.inl ⟨by rfl, ?_⟩) ?_ ?_
                  rotate_left
                  ·intro w'
                   go_simp
                   with_reducible rfl
                  rotate_left
                  ·simp only [Act.put, setIfInBounds_toArray, set_cons_zero, set_cons_succ, i64_w, i32_w]
                   rfl
                  refine done_ (done_of HT_.out (by kernel_rfl)) ?_
                  try go_wp2
                  go_roundg k2
                  case measure => have := HJ2.out; have := HK2.out; omega
                  case rel => exact ⟨(y266), (wrap64 (x7_2 + 1)), (t243), (t244), (t245), (t246), (t247), (t248), (t249), (t250), (t251), (by first | rfl | (simp; done) | (simp [*]; done)), H', ⟨by have := HJ2.out; have := HK2.out; omega⟩, ⟨by (with_reducible repeat (first | apply Kd.R_alloc | apply Kd.R_drewN | apply Kd.R_drew)); exact Kd.R_mono HO268.out (fun _ hk => trivial)⟩, ⟨by (with_reducible repeat (first | refine blk_drewN ?_ _ | refine blk_drew ?_ | refine blk_alloc ?_ _)); exact BK240.out⟩, ⟨by repeat (first | (with_reducible first | exact HB.out | apply below_alloc | apply pw_below_drewN | apply below_drew1 | refine below_set ?_ GE240.out) | exact HB.out)⟩⟩
                 ·rw [if_neg c31] at H
                  exact absurd H (by simp)
                ·rw [if_neg c30] at H
                 exact absurd H (by simp)
               ·rw [if_neg c29] at H
                exact absurd H (by simp)
              ·rw [if_neg c27] at H
               exact absurd H (by simp)
             ·rw [if_neg c26] at H
              exact absurd H (by simp)
            ·rw [if_neg c23] at H
             exact absurd H (by simp)
           ·rw [if_neg c22] at H
            exact absurd H (by simp)
         ·rw [if_neg c19] at H
          exact absurd H (by simp)
        ·rw [if_neg c18] at H
         have c18b0 : decide (x7_2 < (l1.length : Int)) = false := decide_eq_false c18
         clear c18
         by_cases c52 : 0 < (x5_2.length : Int)
         ·rw [if_pos c52] at H
          have c52b0 : decide (0 < (x5_2.length : Int)) = true := decide_eq_true c52
          have c52b1 : decide (0 < x5_2.length) = true := decide_eq_true (by omega)
          clear c52
          replace H := Option.bind_eq_some_iff.mp H
          obtain ⟨⟨t270, t271, t272, t273, t274, t275, t276, t277, t278⟩, A530, H⟩ := H
          replace H : ((some (([] : List (S23)) : List (S23))).bind fun y279 => (if 0 ≤ (x5_2.length : Int) then ((some (x5_2.take 0 : List (S23))).bind fun y282 => (if y279.length + y282.length < 4398046511104 then ((some (y279 ++ y282 : List (S23))).bind fun y286 => (if 1 ≤ (x5_2.length : Int) then ((some (x5_2.drop 1 : List (S23))).bind fun y289 => (if y286.length + y289.length < 4398046511104 then (firkinlaw22_FoldOrders.l0 k2 l0 l1 (y286 ++ y289) (wrap64 (x7_2 + 1)) t270 t271 t272 t273 t274 t275 t276 t277 t278) else (none))) else (none))) else (none))) else (none))) = some r := H
          have A53 := A_ A530
          clear A530
          obtain ⟨y279, hy279⟩ : ∃ y_ : List (S23), y_ = (([] : List (S23))) := ⟨_, rfl⟩
          replace H : (if 0 ≤ (x5_2.length : Int) then ((some (x5_2.take 0 : List (S23))).bind fun y282 => (if y279.length + y282.length < 4398046511104 then ((some (y279 ++ y282 : List (S23))).bind fun y286 => (if 1 ≤ (x5_2.length : Int) then ((some (x5_2.drop 1 : List (S23))).bind fun y289 => (if y286.length + y289.length < 4398046511104 then (firkinlaw22_FoldOrders.l0 k2 l0 l1 (y286 ++ y289) (wrap64 (x7_2 + 1)) t270 t271 t272 t273 t274 t275 t276 t277 t278) else (none))) else (none))) else (none))) else (none)) = some r := by first | (rw [hy279]; with_reducible exact H) | (have H2_ := (Option.bind_some _ _).symm.trans H; rw [hy279]; with_reducible exact H2_) | (have H2_ := (Option.bind_some _ _).symm.trans H; with_reducible exact H2_) | with_reducible exact H | (rw [hy279]; exact H) | exact H
          have Ny279 := A_ hy279
          clear hy279
          by_cases c54 : 0 ≤ (x5_2.length : Int)
          ·rw [if_pos c54] at H
           have c54b0 := eq_true c54
           have c54b1 : decide (0 ≤ (x5_2.length : Int)) = true := decide_eq_true c54
           clear c54
           obtain ⟨y282, hy282⟩ : ∃ y_ : List (S23), y_ = (x5_2.take 0) := ⟨_, rfl⟩
           replace H : (if y279.length + y282.length < 4398046511104 then ((some (y279 ++ y282 : List (S23))).bind fun y286 => (if 1 ≤ (x5_2.length : Int) then ((some (x5_2.drop 1 : List (S23))).bind fun y289 => (if y286.length + y289.length < 4398046511104 then (firkinlaw22_FoldOrders.l0 k2 l0 l1 (y286 ++ y289) (wrap64 (x7_2 + 1)) t270 t271 t272 t273 t274 t275 t276 t277 t278) else (none))) else (none))) else (none)) = some r := by first | (rw [hy282]; with_reducible exact H) | (have H2_ := (Option.bind_some _ _).symm.trans H; rw [hy282]; with_reducible exact H2_) | (have H2_ := (Option.bind_some _ _).symm.trans H; with_reducible exact H2_) | with_reducible exact H | (rw [hy282]; exact H) | exact H
           have Ny282 := A_ hy282
           clear hy282
           by_cases c55 : y279.length + y282.length < 4398046511104
           ·rw [if_pos c55] at H
            have LMc55 := A_ c55
            clear c55
            obtain ⟨y286, hy286⟩ : ∃ y_ : List (S23), y_ = (y279 ++ y282) := ⟨_, rfl⟩
            replace H : (if 1 ≤ (x5_2.length : Int) then ((some (x5_2.drop 1 : List (S23))).bind fun y289 => (if y286.length + y289.length < 4398046511104 then (firkinlaw22_FoldOrders.l0 k2 l0 l1 (y286 ++ y289) (wrap64 (x7_2 + 1)) t270 t271 t272 t273 t274 t275 t276 t277 t278) else (none))) else (none)) = some r := by first | (rw [hy286]; with_reducible exact H) | (have H2_ := (Option.bind_some _ _).symm.trans H; rw [hy286]; with_reducible exact H2_) | (have H2_ := (Option.bind_some _ _).symm.trans H; with_reducible exact H2_) | with_reducible exact H | (rw [hy286]; exact H) | exact H
            have Ny286 := A_ hy286
            clear hy286
            by_cases c56 : 1 ≤ (x5_2.length : Int)
            ·rw [if_pos c56] at H
             have c56b0 := eq_true c56
             have c56b1 : decide (1 ≤ (x5_2.length : Int)) = true := decide_eq_true c56
             clear c56
             obtain ⟨y289, hy289⟩ : ∃ y_ : List (S23), y_ = (x5_2.drop 1) := ⟨_, rfl⟩
             replace H : (if y286.length + y289.length < 4398046511104 then (firkinlaw22_FoldOrders.l0 k2 l0 l1 (y286 ++ y289) (wrap64 (x7_2 + 1)) t270 t271 t272 t273 t274 t275 t276 t277 t278) else (none)) = some r := by first | (rw [hy289]; with_reducible exact H) | (have H2_ := (Option.bind_some _ _).symm.trans H; rw [hy289]; with_reducible exact H2_) | (have H2_ := (Option.bind_some _ _).symm.trans H; with_reducible exact H2_) | with_reducible exact H | (rw [hy289]; exact H) | exact H
             have Ny289 := A_ hy289
             clear hy289
             by_cases c57 : y286.length + y289.length < 4398046511104
             ·rw [if_pos c57] at H
              have LMc57 := A_ c57
              clear c57
              obtain ⟨y293, hy293⟩ : ∃ y_ : List (S23), y_ = (y286 ++ y289) := ⟨_, rfl⟩
              replace H : (firkinlaw22_FoldOrders.l0 k2 l0 l1 y293 (wrap64 (x7_2 + 1)) t270 t271 t272 t273 t274 t275 t276 t277 t278) = some r := by first | (rw [hy293]; with_reducible exact H) | (have H2_ := (Option.bind_some _ _).symm.trans H; rw [hy293]; with_reducible exact H2_) | (have H2_ := (Option.bind_some _ _).symm.trans H; with_reducible exact H2_) | with_reducible exact H | (rw [hy293]; exact H) | exact H
              have Ny293 := A_ hy293
              clear hy293
              have H' := A_ H
              clear H
              obtain ⟨Ao58, co58, eo58⟩ := Kd.R_slice HO_5.out
              subst eo58
              try go_wp2
              have n0_ := A_ (Kd.R_drew HO_5.out)
              have n1_ := A_ (blk_drew BK240.out)
              have n2_ := A_ (below_drew1 HB.out)
              clear HO_5
              clear BK240
              clear HB
              have HO_5 := n0_
              have BK240 := n1_
              have HB := n2_
              clear n0_ n1_ n2_
              have p269 : 0 ≤ (0 : Int) := (by omega)
              have q269 : 0 < (x5_2.length : Int) := of_decide_eq_true (by first | (with_reducible assumption) | assumption)
              obtain ⟨ad269, e269, hx269_0, hx269_1, hx269_2⟩ := at_T23 (Kd.R_reads' HO_5.out).2.2 0 p269 q269
              cases e269
              have qi269 : (0 < x5_2.length) = True := eq_true (by omega)
              (try rw [show ((0 : Int)).toNat = 0 from rfl] at hx269_0)
              (try rw [show 0 * 3 = 0 from rfl] at hx269_0)
              (try rw [Addr.add_zero'] at hx269_0)
              (try rw [show ((0 : Int)).toNat = 0 from rfl] at hx269_1)
              (try rw [show 0 * 3 = 0 from rfl] at hx269_1)
              (try rw [Addr.add_zero'] at hx269_1)
              (try rw [show ((0 : Int)).toNat = 0 from rfl] at hx269_2)
              (try rw [show 0 * 3 = 0 from rfl] at hx269_2)
              (try rw [Addr.add_zero'] at hx269_2)
              replace p269 := eq_true p269
              replace q269 := eq_true q269
              refine start_ (n := 7) (S := fun w' => w'.cell? ⟨gb240, 0, none⟩ = some (.int .i64 x241000_2) ∧ w'.cell? ⟨gb240, 1, none⟩ = some (.int .i64 x241001_2) ∧ w'.cell? ⟨gb240, 2, none⟩ = some (.int .i64 x241002_2) ∧ w'.cell? ⟨gb240, 3, none⟩ = some (.bool x241003_2) ∧ w'.cell? ⟨gb240, 4, none⟩ = some (.int .i64 x241004_2) ∧ w'.cell? ⟨gb240, 5, none⟩ = some (.string x241005_2) ∧ w'.cell? ⟨gb240, 6, none⟩ = some (.bool x241006_2) ∧ w'.cell? ⟨gb240, 7, none⟩ = some (.int .i64 x241007_2) ∧ w'.cell? ⟨gb240, 8, none⟩ = some (.string x241008_2) ∧ w'.cell? ad269 = some (.bool ((rd_T23 x5_2 0).f0)) ∧ w'.cell? ⟨ad269.block, ad269.off + 1, none⟩ = some (.int .i64 ((rd_T23 x5_2 0).f1)) ∧ w'.cell? ⟨ad269.block, ad269.off + 2, none⟩ = some (.string ((rd_T23 x5_2 0).f2))) (ds := [6]) #[f_, f_, f_, f_, f_, f_, f_] (by kernel_rfl) rfl rfl ⟨(blk_cell BK240.out 0).trans rfl, (blk_cell BK240.out 1).trans rfl, (blk_cell BK240.out 2).trans rfl, (blk_cell BK240.out 3).trans rfl, (blk_cell BK240.out 4).trans rfl, (blk_cell BK240.out 5).trans rfl, (blk_cell BK240.out 6).trans rfl, (blk_cell BK240.out 7).trans rfl, (blk_cell BK240.out 8).trans rfl, hx269_0, hx269_1, hx269_2⟩ (fun hHeld => ?_)
              generalize wr.drew = w59 at HO_5 BK240 HB hx269_0 hx269_1 hx269_2 hHeld ⊢
              refine pure_ (i := 1) (N := some 41) (v := ?_) (a' := ?_) #[f_, t_, f_, f_, f_, f_, f_] rfl rfl (by kernel_rfl) (fun _ _ _ h => h) (Or.inl ⟨by rfl, ?_⟩) ?_ ?_
              rotate_left
              ·intro w'
               go_simp
               with_reducible rfl
              rotate_left
              ·simp only [Act.put, setIfInBounds_toArray, set_cons_zero, set_cons_succ, i64_w, i32_w]
               rfl
              refine pure_ (i := 2) (N := some 42) (v := ?_) (a' := ?_) #[f_, t_, t_, f_, f_, f_, f_] rfl rfl (by kernel_rfl) (fun _ _ _ h => h) (Or.inl ⟨by rfl, ?_⟩) ?_ ?_
              rotate_left
              ·intro w'
               go_simp
               with_reducible rfl
              rotate_left
              ·simp only [Act.put, setIfInBounds_toArray, set_cons_zero, set_cons_succ, i64_w, i32_w]
               rfl
              refine pure_ (i := 3) (N := some 43) (v := ?_) (a' := ?_) #[f_, t_, t_, t_, f_, f_, f_] rfl rfl (by kernel_rfl) (fun _ _ _ h => h) (Or.inl ⟨by rfl, ?_⟩) ?_ ?_
              rotate_left
              ·intro w'
               go_simp
               with_reducible rfl
              rotate_left
              ·simp only [Act.put, setIfInBounds_toArray, set_cons_zero, set_cons_succ, i64_w, i32_w]
               rfl
              refine take_ (i := 0) (N := some 40) (v := ?_) (a' := ?_) #[t_, t_, t_, t_, f_, f_, f_] rfl rfl (by kernel_rfl) (fun _ _ _ h => h) (Or.inl ⟨by rfl, ?_⟩) hHeld ?_ ?_
              rotate_left
              ·rintro w' ⟨s0, s1, s2, s3, s4, s5, s6, s7, s8, s9, s10, s11⟩
               go_simp
               with_reducible rfl
              rotate_left
              ·simp only [Act.put, setIfInBounds_toArray, set_cons_zero, set_cons_succ, i64_w, i32_w]
               rfl
              refine take_ (i := 4) (N := some 44) (v := ?_) (a' := ?_) #[t_, t_, t_, t_, t_, f_, f_] rfl rfl (by kernel_rfl) (fun _ _ _ h => h) (Or.inl ⟨by rfl, ?_⟩) hHeld ?_ ?_
              rotate_left
              ·rintro w' ⟨s0, s1, s2, s3, s4, s5, s6, s7, s8, s9, s10, s11⟩
               go_simp
               with_reducible rfl
              rotate_left
              ·simp only [Act.put, setIfInBounds_toArray, set_cons_zero, set_cons_succ, i64_w, i32_w]
               rfl
              refine one_ (i := 5) (N := some 45) #[t_, t_, t_, t_, t_, t_, f_] rfl rfl (by kernel_rfl) (by decide) (fun K hK => ?_)
              refine goes_ Try.func56 (by kernel_rfl) rfl #[.agg #[.int .i64 x241000_2, .int .i64 x241001_2, .int .i64 x241002_2, .bool x241003_2, .int .i64 x241004_2, .string x241005_2, .bool x241006_2, .int .i64 x241007_2, .string x241008_2], .agg #[.bool ((rd_T23 x5_2 0).f0), .int .i64 ((rd_T23 x5_2 0).f1), .string ((rd_T23 x5_2 0).f2)]] (by rfl) rfl rfl (by (try simp only [List.map_toArray, List.map_cons, List.map_nil]); first | done | rfl | (simp only [List.length_drop, List.length_take]; rfl)) ?_
              with_reducible refine (fold_State_Add.calls k2 x241000_2 x241001_2 x241002_2 x241003_2 x241004_2 x241005_2 x241006_2 x241007_2 x241008_2 ((rd_T23 x5_2 0).f0) ((rd_T23 x5_2 0).f1) ((rd_T23 x5_2 0).f2) t270 t271 t272 t273 t274 t275 t276 t277 t278 _ A53.out).mono ?_
              rintro e w60 ⟨rfl, hb⟩
              have HS9_ := (hb.cell (World.block_lt_of_cell? _ _ (hHeld.2.2.2.2.2.2.2.2.2.1))).trans (hHeld.2.2.2.2.2.2.2.2.2.1)
              have HS10_ := (hb.cell (World.block_lt_of_cell? _ _ (hHeld.2.2.2.2.2.2.2.2.2.2.1))).trans (hHeld.2.2.2.2.2.2.2.2.2.2.1)
              have HS11_ := (hb.cell (World.block_lt_of_cell? _ _ (hHeld.2.2.2.2.2.2.2.2.2.2.2))).trans (hHeld.2.2.2.2.2.2.2.2.2.2.2)
              refine ⟨_, rfl, ?_⟩
              have n0_ := A_ (Kd.R_below (by (with_reducible repeat (first | apply Kd.R_alloc | apply Kd.R_drewN | apply Kd.R_drew)); exact HO_5.out) hb)
              have n1_ := A_ (blk_below (g := gb240) (o := .cells #[.int .i64 x241000_2, .int .i64 x241001_2, .int .i64 x241002_2, .bool x241003_2, .int .i64 x241004_2, .string x241005_2, .bool x241006_2, .int .i64 x241007_2, .string x241008_2] 63 (0, 0)) (by (with_reducible repeat (first | refine blk_drewN ?_ _ | refine blk_drew ?_ | refine blk_alloc ?_ _)); exact BK240.out) hb)
              have n2_ := A_ (below_step (by repeat (first | (with_reducible first | exact HB.out | apply below_alloc | apply pw_below_drewN | apply below_drew1 | refine below_set ?_ GE240.out) | exact HB.out)) hb)
              clear HO_5
              clear BK240
              clear HB
              have HO_5 := n0_
              have BK240 := n1_
              have HB := n2_
              clear n0_ n1_ n2_
              (try clear hb)
              (try clear hb2)
              (try clear hk)
              (try clear hi)
              (try clear A53)
              refine hK.out _ _ ⟨(blk_cell BK240.out 0).trans rfl, (blk_cell BK240.out 1).trans rfl, (blk_cell BK240.out 2).trans rfl, (blk_cell BK240.out 3).trans rfl, (blk_cell BK240.out 4).trans rfl, (blk_cell BK240.out 5).trans rfl, (blk_cell BK240.out 6).trans rfl, (blk_cell BK240.out 7).trans rfl, (blk_cell BK240.out 8).trans rfl, HS9_, HS10_, HS11_⟩ (fun hHeld => ?_)
              clear hK K
              refine norm_ (a' := ?_) ?_ ?_
              rotate_left
              ·show Act.put _ (some 45) _ = _
               simp only [Act.put, setIfInBounds_toArray, set_cons_zero, set_cons_succ, i64_w, i32_w]
               rfl
              refine last_ (i := 6) (N := none) #[t_, t_, t_, t_, t_, t_, t_] rfl rfl (by kernel_rfl) (by decide) (fun K hK => ?_)
              have hs61 : w60.cell? ⟨gb240, 0, none⟩ = some (.int .i64 x241000_2) := (blk_cell BK240.out 0).trans rfl
              have hfs61 := blk_frozen BK240.out 0
              have hs62 : w60.cell? ⟨gb240, 1, none⟩ = some (.int .i64 x241001_2) := (blk_cell BK240.out 1).trans rfl
              have hfs62 := blk_frozen BK240.out 1
              have hs63 : w60.cell? ⟨gb240, 2, none⟩ = some (.int .i64 x241002_2) := (blk_cell BK240.out 2).trans rfl
              have hfs63 := blk_frozen BK240.out 2
              have hs64 : w60.cell? ⟨gb240, 3, none⟩ = some (.bool x241003_2) := (blk_cell BK240.out 3).trans rfl
              have hfs64 := blk_frozen BK240.out 3
              have hs65 : w60.cell? ⟨gb240, 4, none⟩ = some (.int .i64 x241004_2) := (blk_cell BK240.out 4).trans rfl
              have hfs65 := blk_frozen BK240.out 4
              have hs66 : w60.cell? ⟨gb240, 5, none⟩ = some (.string x241005_2) := (blk_cell BK240.out 5).trans rfl
              have hfs66 := blk_frozen BK240.out 5
              have hs67 : w60.cell? ⟨gb240, 6, none⟩ = some (.bool x241006_2) := (blk_cell BK240.out 6).trans rfl
              have hfs67 := blk_frozen BK240.out 6
              have hs68 : w60.cell? ⟨gb240, 7, none⟩ = some (.int .i64 x241007_2) := (blk_cell BK240.out 7).trans rfl
              have hfs68 := blk_frozen BK240.out 7
              have hs69 : w60.cell? ⟨gb240, 8, none⟩ = some (.string x241008_2) := (blk_cell BK240.out 8).trans rfl
              have hfs69 := blk_frozen BK240.out 8
              refine skip_ (w1 := ?_) (by rfl) rfl ?_ ?_
              rotate_left
              ·go_simp
               rfl
              refine hK.out _ _ ?_
              clear hK K
              refine done_ (by kernel_rfl) ?_
              try go_wp2
              have n0_ : Aside0 (Kd.R k23 23 (((((((((w60.setCell ⟨gb240, 0, none⟩ (.int .i64 t270)).setCell ⟨gb240, 1, none⟩ (.int .i64 t271)).setCell ⟨gb240, 2, none⟩ (.int .i64 t272)).setCell ⟨gb240, 3, none⟩ (.bool t273)).setCell ⟨gb240, 4, none⟩ (.int .i64 t274)).setCell ⟨gb240, 5, none⟩ (.string t275)).setCell ⟨gb240, 6, none⟩ (.bool t276)).setCell ⟨gb240, 7, none⟩ (.int .i64 t277)).setCell ⟨gb240, 8, none⟩ (.string t278)) w.heap.size (fun _ => True) (.slice (some ad269) x5_2.length co58) x5_2) := ⟨by (with_reducible repeat (first | apply Kd.R_alloc | apply Kd.R_drewN | apply Kd.R_drew)); exact Kd.R_mono (Kd.R_far (p := ⟨gb240, 8, none⟩) (Kd.R_far (p := ⟨gb240, 7, none⟩) (Kd.R_far (p := ⟨gb240, 6, none⟩) (Kd.R_far (p := ⟨gb240, 5, none⟩) (Kd.R_far (p := ⟨gb240, 4, none⟩) (Kd.R_far (p := ⟨gb240, 3, none⟩) (Kd.R_far (p := ⟨gb240, 2, none⟩) (Kd.R_far (p := ⟨gb240, 1, none⟩) (Kd.R_far (p := ⟨gb240, 0, none⟩) (Kd.R_types HO_5.out BK240.out (by decide)) (fun _ hk => hk.2) (.int .i64 t270)) (fun _ hk => hk.2) (.int .i64 t271)) (fun _ hk => hk.2) (.int .i64 t272)) (fun _ hk => hk.2) (.bool t273)) (fun _ hk => hk.2) (.int .i64 t274)) (fun _ hk => hk.2) (.string t275)) (fun _ hk => hk.2) (.bool t276)) (fun _ hk => hk.2) (.int .i64 t277)) (fun _ hk => hk.2) (.string t278)) (fun _ hk => trivial)⟩
              have n1_ : Aside0 ((((((((((w60.setCell ⟨gb240, 0, none⟩ (.int .i64 t270)).setCell ⟨gb240, 1, none⟩ (.int .i64 t271)).setCell ⟨gb240, 2, none⟩ (.int .i64 t272)).setCell ⟨gb240, 3, none⟩ (.bool t273)).setCell ⟨gb240, 4, none⟩ (.int .i64 t274)).setCell ⟨gb240, 5, none⟩ (.string t275)).setCell ⟨gb240, 6, none⟩ (.bool t276)).setCell ⟨gb240, 7, none⟩ (.int .i64 t277)).setCell ⟨gb240, 8, none⟩ (.string t278)).heap[gb240]? = some (.cells #[.int .i64 t270, .int .i64 t271, .int .i64 t272, .bool t273, .int .i64 t274, .string t275, .bool t276, .int .i64 t277, .string t278] 63 (0, 0))) := ⟨by (with_reducible repeat (first | refine blk_drewN ?_ _ | refine blk_drew ?_ | refine blk_alloc ?_ _)); refine blk_put (cs := #[.int .i64 t270, .int .i64 t271, .int .i64 t272, .bool t273, .int .i64 t274, .string t275, .bool t276, .int .i64 t277, .string x241008_2]) ?_ 8 _ rfl; (with_reducible repeat (first | refine blk_drewN ?_ _ | refine blk_drew ?_ | refine blk_alloc ?_ _)); refine blk_put (cs := #[.int .i64 t270, .int .i64 t271, .int .i64 t272, .bool t273, .int .i64 t274, .string t275, .bool t276, .int .i64 x241007_2, .string x241008_2]) ?_ 7 _ rfl; (with_reducible repeat (first | refine blk_drewN ?_ _ | refine blk_drew ?_ | refine blk_alloc ?_ _)); refine blk_put (cs := #[.int .i64 t270, .int .i64 t271, .int .i64 t272, .bool t273, .int .i64 t274, .string t275, .bool x241006_2, .int .i64 x241007_2, .string x241008_2]) ?_ 6 _ rfl; (with_reducible repeat (first | refine blk_drewN ?_ _ | refine blk_drew ?_ | refine blk_alloc ?_ _)); refine blk_put (cs := #[.int .i64 t270, .int .i64 t271, .int .i64 t272, .bool t273, .int .i64 t274, .string x241005_2, .bool x241006_2, .int .i64 x241007_2, .string x241008_2]) ?_ 5 _ rfl; (with_reducible repeat (first | refine blk_drewN ?_ _ | refine blk_drew ?_ | refine blk_alloc ?_ _)); refine blk_put (cs := #[.int .i64 t270, .int .i64 t271, .int .i64 t272, .bool t273, .int .i64 x241004_2, .string x241005_2, .bool x241006_2, .int .i64 x241007_2, .string x241008_2]) ?_ 4 _ rfl; (with_reducible repeat (first | refine blk_drewN ?_ _ | refine blk_drew ?_ | refine blk_alloc ?_ _)); refine blk_put (cs := #[.int .i64 t270, .int .i64 t271, .int .i64 t272, .bool x241003_2, .int .i64 x241004_2, .string x241005_2, .bool x241006_2, .int .i64 x241007_2, .string x241008_2]) ?_ 3 _ rfl; (with_reducible repeat (first | refine blk_drewN ?_ _ | refine blk_drew ?_ | refine blk_alloc ?_ _)); refine blk_put (cs := #[.int .i64 t270, .int .i64 t271, .int .i64 x241002_2, .bool x241003_2, .int .i64 x241004_2, .string x241005_2, .bool x241006_2, .int .i64 x241007_2, .string x241008_2]) ?_ 2 _ rfl; (with_reducible repeat (first | refine blk_drewN ?_ _ | refine blk_drew ?_ | refine blk_alloc ?_ _)); refine blk_put (cs := #[.int .i64 t270, .int .i64 x241001_2, .int .i64 x241002_2, .bool x241003_2, .int .i64 x241004_2, .string x241005_2, .bool x241006_2, .int .i64 x241007_2, .string x241008_2]) ?_ 1 _ rfl; (with_reducible repeat (first | refine blk_drewN ?_ _ | refine blk_drew ?_ | refine blk_alloc ?_ _)); refine blk_put (cs := #[.int .i64 x241000_2, .int .i64 x241001_2, .int .i64 x241002_2, .bool x241003_2, .int .i64 x241004_2, .string x241005_2, .bool x241006_2, .int .i64 x241007_2, .string x241008_2]) ?_ 0 _ rfl; (with_reducible repeat (first | refine blk_drewN ?_ _ | refine blk_drew ?_ | refine blk_alloc ?_ _)); exact BK240.out⟩
              have n2_ : Aside0 (Below w.heap.size w (((((((((w60.setCell ⟨gb240, 0, none⟩ (.int .i64 t270)).setCell ⟨gb240, 1, none⟩ (.int .i64 t271)).setCell ⟨gb240, 2, none⟩ (.int .i64 t272)).setCell ⟨gb240, 3, none⟩ (.bool t273)).setCell ⟨gb240, 4, none⟩ (.int .i64 t274)).setCell ⟨gb240, 5, none⟩ (.string t275)).setCell ⟨gb240, 6, none⟩ (.bool t276)).setCell ⟨gb240, 7, none⟩ (.int .i64 t277)).setCell ⟨gb240, 8, none⟩ (.string t278))) := ⟨by repeat (first | (with_reducible first | exact HB.out | apply below_alloc | apply pw_below_drewN | apply below_drew1 | refine below_set ?_ GE240.out) | exact HB.out)⟩
              (try clear HO_5)
              (try clear BK240)
              (try clear HB)
              generalize (((((((((w60.setCell ⟨gb240, 0, none⟩ (.int .i64 t270)).setCell ⟨gb240, 1, none⟩ (.int .i64 t271)).setCell ⟨gb240, 2, none⟩ (.int .i64 t272)).setCell ⟨gb240, 3, none⟩ (.bool t273)).setCell ⟨gb240, 4, none⟩ (.int .i64 t274)).setCell ⟨gb240, 5, none⟩ (.string t275)).setCell ⟨gb240, 6, none⟩ (.bool t276)).setCell ⟨gb240, 7, none⟩ (.int .i64 t277)).setCell ⟨gb240, 8, none⟩ (.string t278)) = w70 at n0_ n1_ n2_ ⊢
              have HO_5 := n0_
              have BK240 := n1_
              have HB := n2_
              clear n0_ n1_ n2_
              have n0_ := A_ (Kd.R_drew HO_5.out)
              have n1_ := A_ (blk_drew BK240.out)
              have n2_ := A_ (below_drew1 HB.out)
              clear HO_5
              clear BK240
              clear HB
              have HO_5 := n0_
              have BK240 := n1_
              have HB := n2_
              clear n0_ n1_ n2_
              have q72 : (0 : Int) ≤ ((x5_2.length : Int) : Int) := of_decide_eq_true (by first | (with_reducible assumption) | assumption)
              obtain ⟨i072, hi072, _, hsz72, _⟩ := info_parts info23
              have hroom72 : x5_2.length ≤ co58 := (Kd.R_reads' HO_5.out).2.1
              have hC72 : Kd.C k23 _ (some ad269) x5_2.length x5_2 := (Kd.R_reads' HO_5.out).2.2
              have hcut72 := cut_to (P := Try.prog) 60 23 .i64 Try.underlying60 hi072 (some ad269) x5_2.length co58 0 (by omega) q72 hroom72
              have hr72 := Kd.C_take (m := 0) hC72 (by omega)
              have hy72 : y282.length = (0 : Int).toNat := (by rw [Ny282.out, List.length_take]; omega)
              rw [← Ny282.out] at hr72
              rw [← hy72] at hcut72
              have HR285 := A_ hr72
              have HC285 := A_ (show y282.length ≤ co58 from by omega)
              clear hr72 hC72 hroom72 hi072 hsz72
              have KY72 := A_ hy72
              clear hy72
              have KL72 := A_ (show 0 ≤ x5_2.length from by omega)
              replace q72 := eq_true q72
              have q73 : (1 : Int) ≤ ((x5_2.length : Int) : Int) := of_decide_eq_true (by first | (with_reducible assumption) | assumption)
              obtain ⟨i073, hi073, _, hsz73, _⟩ := info_parts info23
              have hroom73 : x5_2.length ≤ co58 := (Kd.R_reads' HO_5.out).2.1
              have hC73 : Kd.C k23 _ (some ad269) x5_2.length x5_2 := (Kd.R_reads' HO_5.out).2.2
              have hcut73 := cut_from (P := Try.prog) 60 23 .i64 Try.underlying60 hi073 3 hsz73 (some ad269) x5_2.length co58 1 (by omega) q73
              have hr73 := Kd.C_drop (m := (1 : Int).toNat) (c := co58) hC73 (by omega) hroom73
              obtain ⟨A73, hA73⟩ : ∃ A1, A1 = (if co58 = (1 : Int).toNat then (some ad269) else ((some ad269) : Option Addr).map (·.add ((1 : Int).toNat * 3))) := ⟨_, rfl⟩
              obtain ⟨c73, hc73⟩ : ∃ c1, c1 = co58 - (1 : Int).toNat := ⟨_, rfl⟩
              have hy73 : y289.length = x5_2.length - (1 : Int).toNat := (by rw [Ny289.out, List.length_drop] <;> omega)
              rw [show (x5_2).drop (1 : Int).toNat = y289 from Ny289.out.symm] at hr73
              replace hr73 : Kd.C k23 _ A73 y289.length y289 := (by rw [hA73]; exact hr73)
              rw [← hy73, ← hA73, ← hc73] at hcut73
              have HR292 := A_ hr73
              have HC292 := A_ (show y289.length ≤ c73 from by rw [hy73, hc73]; exact Nat.sub_le_sub_right hroom73 _)
              clear hr73 hC73 hroom73 hi073 hsz73 hc73
              have KY73 := A_ hy73
              have KA73 := A_ hA73
              clear hy73 hA73
              have KL73 := A_ (show 1 ≤ x5_2.length from by omega)
              replace q73 := eq_true q73
              refine start_ (n := 11) (S := fun w' => True) (ds := []) #[f_, f_, f_, f_, f_, f_, f_, f_, f_, f_, f_] (by kernel_rfl) rfl rfl trivial (fun hHeld => ?_); refine with_tabW firkinlaw22_FoldOrders.tab12 firkinlaw22_FoldOrders.bits12 (fun HT_ HW_ => ?_)
              generalize w70.drew = w71 at HO_5 BK240 HB HR285 HR292 hHeld ⊢
              refine pure_ (i := 1) (N := some 47) (v := ?_) (a' := ?_) #[f_, t_, f_, f_, f_, f_, f_, f_, f_, f_, f_] rfl rfl (any_of HT_.out (by kernel_rfl)) (fun _ _ _ h => h) (Or.inl ⟨by rfl, ?_⟩) ?_ ?_
              rotate_left
              ·intro w'
               go_simp
               with_reducible rfl
              rotate_left
              ·simp only [Act.put, setIfInBounds_toArray, set_cons_zero, set_cons_succ, i64_w, i32_w]
               rfl
              refine pure_ (i := 2) (N := some 48) (v := ?_) (a' := ?_) #[f_, t_, t_, f_, f_, f_, f_, f_, f_, f_, f_] rfl rfl (any_of HT_.out (by kernel_rfl)) (fun _ _ _ h => h) (Or.inl ⟨by rfl, ?_⟩) ?_ ?_
              rotate_left
              ·intro w'
               go_simp
               with_reducible rfl
              rotate_left
              ·simp only [Act.put, setIfInBounds_toArray, set_cons_zero, set_cons_succ, i64_w, i32_w]
               rfl
              refine pure_ (i := 3) (N := some 49) (v := ?_) (a' := ?_) #[f_, t_, t_, t_, f_, f_, f_, f_, f_, f_, f_] rfl rfl (any_of HT_.out (by kernel_rfl)) (fun _ _ _ h => h) (Or.inl ⟨by rfl, ?_⟩) ?_ ?_
              rotate_left
              ·intro w'
               go_simp
               with_reducible rfl
              rotate_left
              ·simp only [Act.put, setIfInBounds_toArray, set_cons_zero, set_cons_succ, i64_w, i32_w]
               rfl
              refine pure_ (i := 5) (N := some 51) (v := ?_) (a' := ?_) #[f_, t_, t_, t_, f_, t_, f_, f_, f_, f_, f_] rfl rfl (any_of HT_.out (by kernel_rfl)) (fun _ _ _ h => h) (Or.inl ⟨by rfl, ?_⟩) ?_ ?_
              rotate_left
              ·intro w'
               go_simp
               with_reducible rfl
              rotate_left
              ·simp only [Act.put, setIfInBounds_toArray, set_cons_zero, set_cons_succ, i64_w, i32_w]
               rfl
              refine pure_ (i := 6) (N := some 52) (v := ?_) (a' := ?_) #[f_, t_, t_, t_, f_, t_, t_, f_, f_, f_, f_] rfl rfl (any_of HT_.out (by kernel_rfl)) (fun _ _ _ h => h) (Or.inl ⟨by rfl, ?_⟩) ?_ ?_
              rotate_left
              ·intro w'
               go_simp
               with_reducible rfl
              rotate_left
              ·simp only [Act.put, setIfInBounds_toArray, set_cons_zero, set_cons_succ, i64_w, i32_w]
               rfl
              refine pure_ (i := 7) (N := some 53) (v := ?_) (a' := ?_) #[f_, t_, t_, t_, f_, t_, t_, t_, f_, f_, f_] rfl rfl (any_of HT_.out (by kernel_rfl)) (fun _ _ _ h => h) (Or.inl ⟨by rfl, ?_⟩) ?_ ?_
              rotate_left
              ·intro w'
               go_simp
               with_reducible rfl
              rotate_left
              ·simp only [Act.put, setIfInBounds_toArray, set_cons_zero, set_cons_succ, i64_w, i32_w]
               rfl
              refine pure_ (i := 8) (N := some 54) (v := ?_) (a' := ?_) #[f_, t_, t_, t_, f_, t_, t_, t_, t_, f_, f_] rfl rfl (any_of HT_.out (by kernel_rfl)) (fun _ _ _ h => h) (Or.inl ⟨by rfl, ?_⟩) ?_ ?_
              rotate_left
              ·intro w'
               go_simp
               with_reducible rfl
              rotate_left
              ·simp only [Act.put, setIfInBounds_toArray, set_cons_zero, set_cons_succ, i64_w, i32_w]
               rfl
              refine one_ (i := 0) (N := some 46) #[t_, t_, t_, t_, f_, t_, t_, t_, t_, f_, f_] rfl rfl (one_of HT_.out (by kernel_rfl)) (by decide) (fun K hK => ?_)
              refine Kd.R_lit_step k23 _ 23 ?hg (N := 46) ?hd (xs := ([] : List (S23))) (inner := []) (ok := fun _ => True) (okp := fun _ => True) ?hr ?hp (fun _ hk => hk) trivial (Below.refl _ _) (Nat.le_refl _) (by simp) ?_; (case hd => rfl); (case hg => rfl); (case hr => first | (go_simp; done) | (go_simp; rfl)); (case hp => exact (Reps.none _ _))
              intro v280 w74 ho75 hb hg_ hnew_
              clear hg_ hnew_
              (first | rw [← Ny279.out] at ho75 | (simp only [Int.reduceToNat] at ho75; rw [← Ny279.out] at ho75))
              have n0_ := A_ (Kd.R_elder' (by (with_reducible repeat (first | apply Kd.R_alloc | apply Kd.R_drewN | apply Kd.R_drew)); exact HO_5.out) (Kd.R_base ho75) hb)
              have n1_ := A_ (Kd.R_lower (Kd.R_new' ho75 (Kd.R_lt (by (with_reducible repeat (first | apply Kd.R_alloc | apply Kd.R_drewN | apply Kd.R_drew)); exact HO_5.out))) (below_size (by repeat (first | (with_reducible first | exact HB.out | apply below_alloc | apply pw_below_drewN | apply below_drew1 | refine below_set ?_ GE240.out) | exact HB.out))))
              have n2_ := A_ (blk_below (g := gb240) (o := .cells #[.int .i64 t270, .int .i64 t271, .int .i64 t272, .bool t273, .int .i64 t274, .string t275, .bool t276, .int .i64 t277, .string t278] 63 (0, 0)) (by (with_reducible repeat (first | refine blk_drewN ?_ _ | refine blk_drew ?_ | refine blk_alloc ?_ _)); exact BK240.out) hb)
              have n3_ := A_ (Kd.C_below (by repeat (first | (with_reducible exact HR285.out) | (with_reducible refine Kd.C_alloc ?_ _) | (with_reducible refine Kd.C_drewN ?_ _) | (with_reducible refine Kd.C_drew ?_) | exact HR285.out)) hb)
              have n4_ := A_ (Kd.C_below (by repeat (first | (with_reducible exact HR292.out) | (with_reducible refine Kd.C_alloc ?_ _) | (with_reducible refine Kd.C_drewN ?_ _) | (with_reducible refine Kd.C_drew ?_) | exact HR292.out)) hb)
              have n5_ := A_ (below_step (by repeat (first | (with_reducible first | exact HB.out | apply below_alloc | apply pw_below_drewN | apply below_drew1 | refine below_set ?_ GE240.out) | exact HB.out)) hb)
              clear HO_5
              clear BK240
              clear HR285
              clear HR292
              clear HB
              have HO_5 := n0_
              have HO281 := n1_
              have BK240 := n2_
              have HR285 := n3_
              have HR292 := n4_
              have HB := n5_
              clear n0_ n1_ n2_ n3_ n4_ n5_
              clear hb ho75
              refine hK.out _ _ trivial (fun hHeld => ?_)
              clear hK K
              refine norm_ (a' := ?_) ?_ ?_
              rotate_left
              ·show Act.put _ (some 46) _ = _
               simp only [Act.put, setIfInBounds_toArray, set_cons_zero, set_cons_succ, i64_w, i32_w]
               rfl
              refine one_ (i := 4) (N := some 50) #[t_, t_, t_, t_, t_, t_, t_, t_, t_, f_, f_] rfl rfl (one_of HT_.out (by kernel_rfl)) (by decide) (fun K hK => ?_)
              refine Kd.R_append_rows_step k23 (w0 := w) w.heap.size (by rfl) (.tmp 46) (.tmp 49) 60 23 (.agg #[(.bool false), (.int .i64 0), (.string ⟨#[]⟩)]) 32 rfl Try.underlying60 info23 rfl (by decide) (by omega) v280 y279 y282 _ _ _ (fun k_ => some k_ ≠ (.slice (some ad269) x5_2.length co58 : Value).ownBlock) (fun _ => False) rfl rfl ?aO ?aR (fun _ _ h => h) (fun _ h => h.elim) ?aF ?aB ?aS ?aL ?_
              (case aR => repeat (first | exact (by repeat (first | (with_reducible exact HR285.out) | (with_reducible refine Kd.C_alloc ?_ _) | (with_reducible refine Kd.C_drewN ?_ _) | (with_reducible refine Kd.C_drew ?_) | exact HR285.out)) | (with_reducible refine Kd.C_alloc ?_ _) | (with_reducible refine Kd.C_drewN ?_ _) | (with_reducible refine Kd.C_drew ?_)))
              (case aB => exact (by repeat (first | (with_reducible first | exact HB.out | apply below_alloc | apply pw_below_drewN | apply below_drew1 | refine below_set ?_ GE240.out) | exact HB.out)))
              (case aF => exact (fun k_ hk => Kd.fresh' (Kd.R_lt (by (with_reducible repeat (first | apply Kd.R_alloc | apply Kd.R_drewN | apply Kd.R_drew)); exact HO_5.out)) k_ hk))
              (case aO => exact (by (with_reducible repeat (first | apply Kd.R_alloc | apply Kd.R_drewN | apply Kd.R_drew)); exact Kd.R_mono HO281.out (fun _ hk => hk.2)))
              (case aS => exact (below_size (by repeat (first | (with_reducible first | exact HB.out | apply below_alloc | apply pw_below_drewN | apply below_drew1 | refine below_set ?_ GE240.out) | exact HB.out))))
              (case aL => have := LMc55.out; omega)
              intro v287 w76 ho hb hg hat
              rw [← Ny286.out] at ho
              have n0_ := A_ (Kd.R_after (ok := (fun _ => True)) (by (with_reducible repeat (first | apply Kd.R_alloc | apply Kd.R_drewN | apply Kd.R_drew)); exact HO_5.out) hg hat)
              have n1_ := A_ (blk_grown (g := gb240) (o := .cells #[.int .i64 t270, .int .i64 t271, .int .i64 t272, .bool t273, .int .i64 t274, .string t275, .bool t276, .int .i64 t277, .string t278] 63 (0, 0)) (by (with_reducible repeat (first | refine blk_drewN ?_ _ | refine blk_drew ?_ | refine blk_alloc ?_ _)); exact BK240.out) hg (Kd.R_ne HO281.out BK240.out (by decide)))
              have n2_ := A_ (hb)
              have n3_ := A_ ((show Kd.C k23 w76 (some ad269) y282.length y282 from by rw [Ny282.out]; exact Kd.C_take (m := 0) ((Kd.R_reads' (Kd.R_after (ok := (fun _ => True)) (by (with_reducible repeat (first | apply Kd.R_alloc | apply Kd.R_drewN | apply Kd.R_drew)); exact HO_5.out) hg hat)).2.2) KL72.out))
              have n4_ := A_ ((show Kd.C k23 w76 A73 y289.length y289 from by rw [Ny289.out, KA73.out]; exact Kd.C_drop (m := 1) (c := co58) ((Kd.R_reads' (Kd.R_after (ok := (fun _ => True)) (by (with_reducible repeat (first | apply Kd.R_alloc | apply Kd.R_drewN | apply Kd.R_drew)); exact HO_5.out) hg hat)).2.2) KL73.out ((Kd.R_reads' (Kd.R_after (ok := (fun _ => True)) (by (with_reducible repeat (first | apply Kd.R_alloc | apply Kd.R_drewN | apply Kd.R_drew)); exact HO_5.out) hg hat)).2.1)))
              have n5_ := A_ (ho)
              clear HO_5
              clear BK240
              clear HB
              clear HR285
              clear HR292
              clear HO281
              have HO_5 := n0_
              have BK240 := n1_
              have HB := n2_
              have HR285 := n3_
              have HR292 := n4_
              have HO288 := n5_
              clear n0_ n1_ n2_ n3_ n4_ n5_
              clear ho hb hg hat
              refine hK.out _ _ trivial (fun hHeld => ?_)
              clear hK K
              refine norm_ (a' := ?_) ?_ ?_
              rotate_left
              ·show Act.put _ (some 50) _ = _
               simp only [Act.put, setIfInBounds_toArray, set_cons_zero, set_cons_succ, i64_w, i32_w]
               rfl
              refine one_ (i := 9) (N := some 55) #[t_, t_, t_, t_, t_, t_, t_, t_, t_, t_, f_] rfl rfl (one_of HT_.out (by kernel_rfl)) (by decide) (fun K hK => ?_)
              refine Kd.R_append_rows_step k23 (w0 := w) w.heap.size (by rfl) (.tmp 50) (.tmp 54) 60 23 (.agg #[(.bool false), (.int .i64 0), (.string ⟨#[]⟩)]) 32 rfl Try.underlying60 info23 rfl (by decide) (by omega) v287 y286 y289 _ _ _ (fun k_ => some k_ ≠ (.slice (some ad269) x5_2.length co58 : Value).ownBlock) (fun _ => False) rfl rfl ?aO ?aR (fun _ _ h => h) (fun _ h => h.elim) ?aF ?aB ?aS ?aL ?_
              (case aR => repeat (first | exact (by repeat (first | (with_reducible exact HR292.out) | (with_reducible refine Kd.C_alloc ?_ _) | (with_reducible refine Kd.C_drewN ?_ _) | (with_reducible refine Kd.C_drew ?_) | exact HR292.out)) | (with_reducible refine Kd.C_alloc ?_ _) | (with_reducible refine Kd.C_drewN ?_ _) | (with_reducible refine Kd.C_drew ?_)))
              (case aB => exact (by repeat (first | (with_reducible first | exact HB.out | apply below_alloc | apply pw_below_drewN | apply below_drew1 | refine below_set ?_ GE240.out) | exact HB.out)))
              (case aF => exact (fun k_ hk => Kd.fresh' (Kd.R_lt (by (with_reducible repeat (first | apply Kd.R_alloc | apply Kd.R_drewN | apply Kd.R_drew)); exact HO_5.out)) k_ hk))
              (case aO => exact (by (with_reducible repeat (first | apply Kd.R_alloc | apply Kd.R_drewN | apply Kd.R_drew)); exact HO288.out))
              (case aS => exact (below_size (by repeat (first | (with_reducible first | exact HB.out | apply below_alloc | apply pw_below_drewN | apply below_drew1 | refine below_set ?_ GE240.out) | exact HB.out))))
              (case aL => have := LMc57.out; omega)
              intro v294 w77 ho hb hg hat
              rw [← Ny293.out] at ho
              have n0_ := A_ (Kd.R_after (ok := (fun _ => True)) (by (with_reducible repeat (first | apply Kd.R_alloc | apply Kd.R_drewN | apply Kd.R_drew)); exact HO_5.out) hg hat)
              have n1_ := A_ (blk_grown (g := gb240) (o := .cells #[.int .i64 t270, .int .i64 t271, .int .i64 t272, .bool t273, .int .i64 t274, .string t275, .bool t276, .int .i64 t277, .string t278] 63 (0, 0)) (by (with_reducible repeat (first | refine blk_drewN ?_ _ | refine blk_drew ?_ | refine blk_alloc ?_ _)); exact BK240.out) hg (Kd.R_ne HO288.out BK240.out (by decide)))
              have n2_ := A_ (hb)
              have n3_ := A_ ((show Kd.C k23 w77 (some ad269) y282.length y282 from by rw [Ny282.out]; exact Kd.C_take (m := 0) ((Kd.R_reads' (Kd.R_after (ok := (fun _ => True)) (by (with_reducible repeat (first | apply Kd.R_alloc | apply Kd.R_drewN | apply Kd.R_drew)); exact HO_5.out) hg hat)).2.2) KL72.out))
              have n4_ := A_ ((show Kd.C k23 w77 A73 y289.length y289 from by rw [Ny289.out, KA73.out]; exact Kd.C_drop (m := 1) (c := co58) ((Kd.R_reads' (Kd.R_after (ok := (fun _ => True)) (by (with_reducible repeat (first | apply Kd.R_alloc | apply Kd.R_drewN | apply Kd.R_drew)); exact HO_5.out) hg hat)).2.2) KL73.out ((Kd.R_reads' (Kd.R_after (ok := (fun _ => True)) (by (with_reducible repeat (first | apply Kd.R_alloc | apply Kd.R_drewN | apply Kd.R_drew)); exact HO_5.out) hg hat)).2.1)))
              have n5_ := A_ (ho)
              clear HO_5
              clear BK240
              clear HB
              clear HR285
              clear HR292
              clear HO288
              have HO_5 := n0_
              have BK240 := n1_
              have HB := n2_
              have HR285 := n3_
              have HR292 := n4_
              have HO295 := n5_
              clear n0_ n1_ n2_ n3_ n4_ n5_
              clear ho hb hg hat
              refine hK.out _ _ trivial (fun hHeld => ?_)
              clear hK K
              refine norm_ (a' := ?_) ?_ ?_
              rotate_left
              ·show Act.put _ (some 55) _ = _
               simp only [Act.put, setIfInBounds_toArray, set_cons_zero, set_cons_succ, i64_w, i32_w]
               rfl
              refine pure_ (i := 10) (N := some 5) (v := ?_) (a' := ?_) #[t_, t_, t_, t_, t_, t_, t_, t_, t_, t_, t_] rfl rfl (any_of HT_.out (by kernel_rfl)) (fun _ _ _ h => h) (Or.inl ⟨by rfl, ?_⟩) ?_ ?_
              rotate_left
              ·intro w'
               go_simp
               with_reducible rfl
              rotate_left
              ·simp only [Act.put, setIfInBounds_toArray, set_cons_zero, set_cons_succ, i64_w, i32_w]
               rfl
              refine done_ (done_of HT_.out (by kernel_rfl)) ?_
              try go_wp2
              go_roundg k2
              case measure => have := HJ2.out; have := HK2.out; omega
              case rel => exact ⟨(y293), (wrap64 (x7_2 + 1)), (t270), (t271), (t272), (t273), (t274), (t275), (t276), (t277), (t278), (by first | rfl | (simp; done) | (simp [*]; done)), H', ⟨by have := HJ2.out; have := HK2.out; omega⟩, ⟨by (with_reducible repeat (first | apply Kd.R_alloc | apply Kd.R_drewN | apply Kd.R_drew)); exact Kd.R_mono HO295.out (fun _ hk => trivial)⟩, ⟨by (with_reducible repeat (first | refine blk_drewN ?_ _ | refine blk_drew ?_ | refine blk_alloc ?_ _)); exact BK240.out⟩, ⟨by repeat (first | (with_reducible first | exact HB.out | apply below_alloc | apply pw_below_drewN | apply below_drew1 | refine below_set ?_ GE240.out) | exact HB.out)⟩⟩
             ·rw [if_neg c57] at H
              exact absurd H (by simp)
            ·rw [if_neg c56] at H
             exact absurd H (by simp)
           ·rw [if_neg c55] at H
            exact absurd H (by simp)
          ·rw [if_neg c54] at H
           exact absurd H (by simp)
         ·rw [if_neg c52] at H
          exact absurd H (by simp)
       ·rw [if_neg c17] at H
        have c17b0 : decide (0 < (x5_2.length : Int)) = false := decide_eq_false c17
        have c17b1 : decide (0 < x5_2.length) = false := decide_eq_false (by omega)
        clear c17
        have H' := A_ H
        clear H
        obtain ⟨Ao78, co78, eo78⟩ := Kd.R_slice HO_5.out
        subst eo78
        go_wp2
        go_loopg [9] k2 (fun kq v9 w' => ∃ (x9_3 : Int), v9 = .int .i64 x9_3 ∧ Aside0 (firkinlaw22_FoldOrders.l1 kq l0 x9_3 x241000_2 x241001_2 x241002_2 x241003_2 x241004_2 x241005_2 x241006_2 x241007_2 x241008_2 = some r) ∧ Aside0 (kq ≤ k2) ∧ Aside0 (w'.heap[gb240]? = some (.cells #[.int .i64 x241000_2, .int .i64 x241001_2, .int .i64 x241002_2, .bool x241003_2, .int .i64 x241004_2, .string x241005_2, .bool x241006_2, .int .i64 x241007_2, .string x241008_2] 63 (0, 0))) ∧ Aside0 (Below w.heap.size w w'))
        case atStart => exact ⟨((-1)), (by first | rfl | (simp; done) | (simp [*]; done)), H', ⟨Nat.le_refl _⟩, ⟨by (with_reducible repeat (first | refine blk_drewN ?_ _ | refine blk_drew ?_ | refine blk_alloc ?_ _)); exact BK240.out⟩, ⟨by repeat (first | (with_reducible first | exact HB.out | apply below_alloc | apply pw_below_drewN | apply below_drew1 | refine below_set ?_ GE240.out) | exact HB.out)⟩⟩
        case round =>
         clear H'
         try clear c1
         try clear c2
         try clear p2
         try clear q2
         try clear hx2
         try clear qi2
         try clear c3
         try clear c5
         try clear p6
         try clear c7
         try clear q7
         try clear c17
         try clear c17b0
         try clear c17b1
         try clear c18
         try clear c18b0
         try clear c19
         try clear c22
         try clear c23
         try clear c26
         try clear p26
         try clear q26
         try clear hx26
         try clear qi26
         try clear c27
         try clear c29
         try clear c30
         try clear c31
         try clear c52
         try clear c52b0
         try clear c52b1
         try clear c54
         try clear c54b0
         try clear c54b1
         try clear c55
         try clear c56
         try clear c56b0
         try clear c56b1
         try clear c57
         try clear p64
         try clear q72
         try clear c73
         try clear q73
         try clear hx269_0
         try clear hx269_1
         try clear hx269_2
         try clear p269
         try clear q269
         try clear q72
         try clear q73
         obtain ⟨x9_3, rfl, HA, HK3, BK240, HB⟩ := hrel
         cases gk with
         | zero => exact absurd HA.out (by simp [firkinlaw22_FoldOrders.l1])
         | succ k3 =>
          have H := HA.out
          clear HA
          simp only [firkinlaw22_FoldOrders.l1] at H
          by_cases c79 : x9_3 ≤ 6
          ·rw [if_pos c79] at H
           have c79b0 : decide (x9_3 ≤ 6) = true := decide_eq_true c79
           clear c79
           replace H := Option.bind_eq_some_iff.mp H
           obtain ⟨⟨t297, t298, t299⟩, A800, H⟩ := H
           replace H : ((firkinlaw22_of.f k3 l0).bind fun bt300 => ((fold_State_Value.f bt300.1 bt300.2.1 bt300.2.2.1 bt300.2.2.2.1 bt300.2.2.2.2.1 bt300.2.2.2.2.2.1 bt300.2.2.2.2.2.2.1 bt300.2.2.2.2.2.2.2.1 bt300.2.2.2.2.2.2.2.2 x9_3).bind fun bt309 => (if (!(t297 == bt309.1) || (!(t298 == bt309.2.1) || (!(t299.toList == bt309.2.2.toList)))) = true then (some false) else (firkinlaw22_FoldOrders.l1 k3 l0 (wrap64 (x9_3 + 1)) x241000_2 x241001_2 x241002_2 x241003_2 x241004_2 x241005_2 x241006_2 x241007_2 x241008_2)))) = some r := H
           have A80 := A_ A800
           clear A800
           replace H := Option.bind_eq_some_iff.mp H
           obtain ⟨⟨t300, t301, t302, t303, t304, t305, t306, t307, t308⟩, A810, H⟩ := H
           replace H : ((fold_State_Value.f t300 t301 t302 t303 t304 t305 t306 t307 t308 x9_3).bind fun bt309 => (if (!(t297 == bt309.1) || (!(t298 == bt309.2.1) || (!(t299.toList == bt309.2.2.toList)))) = true then (some false) else (firkinlaw22_FoldOrders.l1 k3 l0 (wrap64 (x9_3 + 1)) x241000_2 x241001_2 x241002_2 x241003_2 x241004_2 x241005_2 x241006_2 x241007_2 x241008_2))) = some r := H
           have A81 := A_ A810
           clear A810
           replace H := Option.bind_eq_some_iff.mp H
           obtain ⟨⟨t309, t310, t311⟩, A820, H⟩ := H
           replace H : (if (!(t297 == t309) || (!(t298 == t310) || (!(t299.toList == t311.toList)))) = true then (some false) else (firkinlaw22_FoldOrders.l1 k3 l0 (wrap64 (x9_3 + 1)) x241000_2 x241001_2 x241002_2 x241003_2 x241004_2 x241005_2 x241006_2 x241007_2 x241008_2)) = some r := H
           have A82 := A_ A820
           clear A820
           by_cases c83 : (!(t297 == t309) || (!(t298 == t310) || (!(t299.toList == t311.toList)))) = true
           ·rw [if_pos c83] at H
            have c83b0 : (!(t297 == t309) || (!(t298 == t310) || (!(t299.toList == t311.toList)))) = true := c83
            clear c83
            obtain rfl := Option.some.inj H
            have hcz84_0 : wr.cell? ⟨gb240, 0, none⟩ = some (.int .i64 x241000_2) := (blk_cell BK240.out 0).trans rfl
            have hcz84_1 : wr.cell? ⟨gb240, 1, none⟩ = some (.int .i64 x241001_2) := (blk_cell BK240.out 1).trans rfl
            have hcz84_2 : wr.cell? ⟨gb240, 2, none⟩ = some (.int .i64 x241002_2) := (blk_cell BK240.out 2).trans rfl
            have hcz84_3 : wr.cell? ⟨gb240, 3, none⟩ = some (.bool x241003_2) := (blk_cell BK240.out 3).trans rfl
            have hcz84_4 : wr.cell? ⟨gb240, 4, none⟩ = some (.int .i64 x241004_2) := (blk_cell BK240.out 4).trans rfl
            have hcz84_5 : wr.cell? ⟨gb240, 5, none⟩ = some (.string x241005_2) := (blk_cell BK240.out 5).trans rfl
            have hcz84_6 : wr.cell? ⟨gb240, 6, none⟩ = some (.bool x241006_2) := (blk_cell BK240.out 6).trans rfl
            have hcz84_7 : wr.cell? ⟨gb240, 7, none⟩ = some (.int .i64 x241007_2) := (blk_cell BK240.out 7).trans rfl
            have hcz84_8 : wr.cell? ⟨gb240, 8, none⟩ = some (.string x241008_2) := (blk_cell BK240.out 8).trans rfl
            have hfz84_0 := blk_frozen BK240.out 0
            have hfz84_1 := blk_frozen BK240.out 1
            have hfz84_2 := blk_frozen BK240.out 2
            have hfz84_3 := blk_frozen BK240.out 3
            have hfz84_4 := blk_frozen BK240.out 4
            have hfz84_5 := blk_frozen BK240.out 5
            have hfz84_6 := blk_frozen BK240.out 6
            have hfz84_7 := blk_frozen BK240.out 7
            have hfz84_8 := blk_frozen BK240.out 8
            go_wp2_with (first | ((with_reducible refine gate_callee (f := 51) rfl ?_); refine goesL_ (some 62) rfl rfl Try.func51 (by kernel_rfl) rfl #[.agg #[.int .i64 x241000_2, .int .i64 x241001_2, .int .i64 x241002_2, .bool x241003_2, .int .i64 x241004_2, .string x241005_2, .bool x241006_2, .int .i64 x241007_2, .string x241008_2], .int .i64 x9_3] rfl (by (try simp only [List.map_toArray, List.map_cons, List.map_nil]); first | done | rfl | (simp only [List.length_drop, List.length_take]; rfl)) ?_; (with_reducible refine (fold_State_Value.calls x241000_2 x241001_2 x241002_2 x241003_2 x241004_2 x241005_2 x241006_2 x241007_2 x241008_2 x9_3 t297 t298 t299 _ A80.out).mono ?_); rintro e w85 ⟨rfl, hb⟩; refine ⟨_, rfl, ?_⟩; have n0_ := A_ (blk_below (g := gb240) (o := .cells #[.int .i64 x241000_2, .int .i64 x241001_2, .int .i64 x241002_2, .bool x241003_2, .int .i64 x241004_2, .string x241005_2, .bool x241006_2, .int .i64 x241007_2, .string x241008_2] 63 (0, 0)) (by (with_reducible repeat (first | refine blk_drewN ?_ _ | refine blk_drew ?_ | refine blk_alloc ?_ _)); exact BK240.out) hb); have n1_ := A_ (below_step (by repeat (first | (with_reducible first | exact HB.out | apply below_alloc | apply pw_below_drewN | apply below_drew1 | refine below_set ?_ GE240.out) | exact HB.out)) hb); clear BK240; clear HB; have BK240 := n0_; have HB := n1_; clear n0_ n1_; (try clear hb); (try clear hb2); (try clear hk); (try clear hi)) | ((with_reducible refine gate_callee (f := 50) rfl ?_); refine goesL_ (some 64) rfl rfl Try.func50 (by kernel_rfl) rfl #[.slice A0 l0.length c0] rfl (by (try simp only [List.map_toArray, List.map_cons, List.map_nil]); first | done | rfl | (simp only [List.length_drop, List.length_take]; rfl)) ?_; (with_reducible refine (firkinlaw22_of.calls k3 _ _ l0 t300 t301 t302 t303 t304 t305 t306 t307 t308 _ ?side1 ?side2 A81.out).mono ?_); (case side1 => repeat (first | exact (Kd.C_below HR0.out HB.out) | (with_reducible refine Kd.C_alloc ?_ _) | (with_reducible refine Kd.C_drewN ?_ _) | (with_reducible refine Kd.C_drew ?_))); (case side2 => exact HC0.out); rintro e w86 ⟨rfl, hb⟩; refine ⟨_, rfl, ?_⟩; have n0_ := A_ (blk_below (g := gb240) (o := .cells #[.int .i64 x241000_2, .int .i64 x241001_2, .int .i64 x241002_2, .bool x241003_2, .int .i64 x241004_2, .string x241005_2, .bool x241006_2, .int .i64 x241007_2, .string x241008_2] 63 (0, 0)) (by (with_reducible repeat (first | refine blk_drewN ?_ _ | refine blk_drew ?_ | refine blk_alloc ?_ _)); exact BK240.out) hb); have n1_ := A_ (below_step (by repeat (first | (with_reducible first | exact HB.out | apply below_alloc | apply pw_below_drewN | apply below_drew1 | refine below_set ?_ GE240.out) | exact HB.out)) hb); clear BK240; clear HB; have BK240 := n0_; have HB := n1_; clear n0_ n1_; (try clear hb); (try clear hb2); (try clear hk); (try clear hi)) | ((with_reducible refine gate_callee (f := 51) rfl ?_); refine goesL_ (some 66) rfl rfl Try.func51 (by kernel_rfl) rfl #[.agg #[.int .i64 t300, .int .i64 t301, .int .i64 t302, .bool t303, .int .i64 t304, .string t305, .bool t306, .int .i64 t307, .string t308], .int .i64 x9_3] rfl (by (try simp only [List.map_toArray, List.map_cons, List.map_nil]); first | done | rfl | (simp only [List.length_drop, List.length_take]; rfl)) ?_; (with_reducible refine (fold_State_Value.calls t300 t301 t302 t303 t304 t305 t306 t307 t308 x9_3 t309 t310 t311 _ A82.out).mono ?_); rintro e w87 ⟨rfl, hb⟩; refine ⟨_, rfl, ?_⟩; have n0_ := A_ (blk_below (g := gb240) (o := .cells #[.int .i64 x241000_2, .int .i64 x241001_2, .int .i64 x241002_2, .bool x241003_2, .int .i64 x241004_2, .string x241005_2, .bool x241006_2, .int .i64 x241007_2, .string x241008_2] 63 (0, 0)) (by (with_reducible repeat (first | refine blk_drewN ?_ _ | refine blk_drew ?_ | refine blk_alloc ?_ _)); exact BK240.out) hb); have n1_ := A_ (below_step (by repeat (first | (with_reducible first | exact HB.out | apply below_alloc | apply pw_below_drewN | apply below_drew1 | refine below_set ?_ GE240.out) | exact HB.out)) hb); clear BK240; clear HB; have BK240 := n0_; have HB := n1_; clear n0_ n1_; (try clear hb); (try clear hb2); (try clear hk); (try clear hi)))
            go_ret
            exact ⟨by first | rfl | (simp [errW_none, errW_some] <;> rfl) | (simp [*, errW_none, errW_some] <;> rfl), by repeat (first | (with_reducible first | exact HB.out | apply below_alloc | apply pw_below_drewN | apply below_drew1 | refine below_set ?_ GE240.out) | exact HB.out)⟩
           ·rw [if_neg c83] at H
            have c83b0 : (!(t297 == t309) || (!(t298 == t310) || (!(t299.toList == t311.toList)))) = false := by simpa using c83
            clear c83
            have H' := A_ H
            clear H
            have hcz88_0 : wr.cell? ⟨gb240, 0, none⟩ = some (.int .i64 x241000_2) := (blk_cell BK240.out 0).trans rfl
            have hcz88_1 : wr.cell? ⟨gb240, 1, none⟩ = some (.int .i64 x241001_2) := (blk_cell BK240.out 1).trans rfl
            have hcz88_2 : wr.cell? ⟨gb240, 2, none⟩ = some (.int .i64 x241002_2) := (blk_cell BK240.out 2).trans rfl
            have hcz88_3 : wr.cell? ⟨gb240, 3, none⟩ = some (.bool x241003_2) := (blk_cell BK240.out 3).trans rfl
            have hcz88_4 : wr.cell? ⟨gb240, 4, none⟩ = some (.int .i64 x241004_2) := (blk_cell BK240.out 4).trans rfl
            have hcz88_5 : wr.cell? ⟨gb240, 5, none⟩ = some (.string x241005_2) := (blk_cell BK240.out 5).trans rfl
            have hcz88_6 : wr.cell? ⟨gb240, 6, none⟩ = some (.bool x241006_2) := (blk_cell BK240.out 6).trans rfl
            have hcz88_7 : wr.cell? ⟨gb240, 7, none⟩ = some (.int .i64 x241007_2) := (blk_cell BK240.out 7).trans rfl
            have hcz88_8 : wr.cell? ⟨gb240, 8, none⟩ = some (.string x241008_2) := (blk_cell BK240.out 8).trans rfl
            have hfz88_0 := blk_frozen BK240.out 0
            have hfz88_1 := blk_frozen BK240.out 1
            have hfz88_2 := blk_frozen BK240.out 2
            have hfz88_3 := blk_frozen BK240.out 3
            have hfz88_4 := blk_frozen BK240.out 4
            have hfz88_5 := blk_frozen BK240.out 5
            have hfz88_6 := blk_frozen BK240.out 6
            have hfz88_7 := blk_frozen BK240.out 7
            have hfz88_8 := blk_frozen BK240.out 8
            go_wp2_with (first | ((with_reducible refine gate_callee (f := 51) rfl ?_); refine goesL_ (some 62) rfl rfl Try.func51 (by kernel_rfl) rfl #[.agg #[.int .i64 x241000_2, .int .i64 x241001_2, .int .i64 x241002_2, .bool x241003_2, .int .i64 x241004_2, .string x241005_2, .bool x241006_2, .int .i64 x241007_2, .string x241008_2], .int .i64 x9_3] rfl (by (try simp only [List.map_toArray, List.map_cons, List.map_nil]); first | done | rfl | (simp only [List.length_drop, List.length_take]; rfl)) ?_; (with_reducible refine (fold_State_Value.calls x241000_2 x241001_2 x241002_2 x241003_2 x241004_2 x241005_2 x241006_2 x241007_2 x241008_2 x9_3 t297 t298 t299 _ A80.out).mono ?_); rintro e w89 ⟨rfl, hb⟩; refine ⟨_, rfl, ?_⟩; have n0_ := A_ (blk_below (g := gb240) (o := .cells #[.int .i64 x241000_2, .int .i64 x241001_2, .int .i64 x241002_2, .bool x241003_2, .int .i64 x241004_2, .string x241005_2, .bool x241006_2, .int .i64 x241007_2, .string x241008_2] 63 (0, 0)) (by (with_reducible repeat (first | refine blk_drewN ?_ _ | refine blk_drew ?_ | refine blk_alloc ?_ _)); exact BK240.out) hb); have n1_ := A_ (below_step (by repeat (first | (with_reducible first | exact HB.out | apply below_alloc | apply pw_below_drewN | apply below_drew1 | refine below_set ?_ GE240.out) | exact HB.out)) hb); clear BK240; clear HB; have BK240 := n0_; have HB := n1_; clear n0_ n1_; (try clear hb); (try clear hb2); (try clear hk); (try clear hi)) | ((with_reducible refine gate_callee (f := 50) rfl ?_); refine goesL_ (some 64) rfl rfl Try.func50 (by kernel_rfl) rfl #[.slice A0 l0.length c0] rfl (by (try simp only [List.map_toArray, List.map_cons, List.map_nil]); first | done | rfl | (simp only [List.length_drop, List.length_take]; rfl)) ?_; (with_reducible refine (firkinlaw22_of.calls k3 _ _ l0 t300 t301 t302 t303 t304 t305 t306 t307 t308 _ ?side1 ?side2 A81.out).mono ?_); (case side1 => repeat (first | exact (Kd.C_below HR0.out HB.out) | (with_reducible refine Kd.C_alloc ?_ _) | (with_reducible refine Kd.C_drewN ?_ _) | (with_reducible refine Kd.C_drew ?_))); (case side2 => exact HC0.out); rintro e w90 ⟨rfl, hb⟩; refine ⟨_, rfl, ?_⟩; have n0_ := A_ (blk_below (g := gb240) (o := .cells #[.int .i64 x241000_2, .int .i64 x241001_2, .int .i64 x241002_2, .bool x241003_2, .int .i64 x241004_2, .string x241005_2, .bool x241006_2, .int .i64 x241007_2, .string x241008_2] 63 (0, 0)) (by (with_reducible repeat (first | refine blk_drewN ?_ _ | refine blk_drew ?_ | refine blk_alloc ?_ _)); exact BK240.out) hb); have n1_ := A_ (below_step (by repeat (first | (with_reducible first | exact HB.out | apply below_alloc | apply pw_below_drewN | apply below_drew1 | refine below_set ?_ GE240.out) | exact HB.out)) hb); clear BK240; clear HB; have BK240 := n0_; have HB := n1_; clear n0_ n1_; (try clear hb); (try clear hb2); (try clear hk); (try clear hi)) | ((with_reducible refine gate_callee (f := 51) rfl ?_); refine goesL_ (some 66) rfl rfl Try.func51 (by kernel_rfl) rfl #[.agg #[.int .i64 t300, .int .i64 t301, .int .i64 t302, .bool t303, .int .i64 t304, .string t305, .bool t306, .int .i64 t307, .string t308], .int .i64 x9_3] rfl (by (try simp only [List.map_toArray, List.map_cons, List.map_nil]); first | done | rfl | (simp only [List.length_drop, List.length_take]; rfl)) ?_; (with_reducible refine (fold_State_Value.calls t300 t301 t302 t303 t304 t305 t306 t307 t308 x9_3 t309 t310 t311 _ A82.out).mono ?_); rintro e w91 ⟨rfl, hb⟩; refine ⟨_, rfl, ?_⟩; have n0_ := A_ (blk_below (g := gb240) (o := .cells #[.int .i64 x241000_2, .int .i64 x241001_2, .int .i64 x241002_2, .bool x241003_2, .int .i64 x241004_2, .string x241005_2, .bool x241006_2, .int .i64 x241007_2, .string x241008_2] 63 (0, 0)) (by (with_reducible repeat (first | refine blk_drewN ?_ _ | refine blk_drew ?_ | refine blk_alloc ?_ _)); exact BK240.out) hb); have n1_ := A_ (below_step (by repeat (first | (with_reducible first | exact HB.out | apply below_alloc | apply pw_below_drewN | apply below_drew1 | refine below_set ?_ GE240.out) | exact HB.out)) hb); clear BK240; clear HB; have BK240 := n0_; have HB := n1_; clear n0_ n1_; (try clear hb); (try clear hb2); (try clear hk); (try clear hi)))
            go_roundg k3
            case measure => have := HJ2.out; have := HK2.out; have := HK3.out; omega
            case rel => exact ⟨(wrap64 (x9_3 + 1)), (by first | rfl | (simp; done) | (simp [*]; done)), H', ⟨by have := HJ2.out; have := HK2.out; have := HK3.out; omega⟩, ⟨by (with_reducible repeat (first | refine blk_drewN ?_ _ | refine blk_drew ?_ | refine blk_alloc ?_ _)); exact BK240.out⟩, ⟨by repeat (first | (with_reducible first | exact HB.out | apply below_alloc | apply pw_below_drewN | apply below_drew1 | refine below_set ?_ GE240.out) | exact HB.out)⟩⟩
          ·rw [if_neg c79] at H
           have c79b0 : decide (x9_3 ≤ 6) = false := decide_eq_false c79
           clear c79
           replace H := Option.bind_eq_some_iff.mp H
           obtain ⟨t296, A920, H⟩ := H
           replace H : (some t296) = some r := H
           have A92 := A_ A920
           clear A920
           obtain rfl := Option.some.inj H
           go_wp2_with (first | ((with_reducible refine gate_callee (f := 49) rfl ?_); refine goesL_ (some 68) rfl rfl Try.func49 (by kernel_rfl) rfl #[] rfl (by (try simp only [List.map_toArray, List.map_cons, List.map_nil]); first | done | rfl | (simp only [List.length_drop, List.length_take]; rfl)) ?_; (with_reducible refine (firkinlaw22_live.calls k3  t296 _ A92.out).mono ?_); rintro e w93 ⟨rfl, hb⟩; refine ⟨_, rfl, ?_⟩; have n0_ := A_ (blk_below (g := gb240) (o := .cells #[.int .i64 x241000_2, .int .i64 x241001_2, .int .i64 x241002_2, .bool x241003_2, .int .i64 x241004_2, .string x241005_2, .bool x241006_2, .int .i64 x241007_2, .string x241008_2] 63 (0, 0)) (by (with_reducible repeat (first | refine blk_drewN ?_ _ | refine blk_drew ?_ | refine blk_alloc ?_ _)); exact BK240.out) hb); have n1_ := A_ (below_step (by repeat (first | (with_reducible first | exact HB.out | apply below_alloc | apply pw_below_drewN | apply below_drew1 | refine below_set ?_ GE240.out) | exact HB.out)) hb); clear BK240; clear HB; have BK240 := n0_; have HB := n1_; clear n0_ n1_; (try clear hb); (try clear hb2); (try clear hk); (try clear hi)))
           go_ret
           exact ⟨by first | rfl | (simp [errW_none, errW_some] <;> rfl) | (simp [*, errW_none, errW_some] <;> rfl), by repeat (first | (with_reducible first | exact HB.out | apply below_alloc | apply pw_below_drewN | apply below_drew1 | refine below_set ?_ GE240.out) | exact HB.out)⟩
    ·rw [if_neg c9] at H
     exact absurd H (by simp)

end Go.Proofs.Ytkdlfejokahohaa.X
