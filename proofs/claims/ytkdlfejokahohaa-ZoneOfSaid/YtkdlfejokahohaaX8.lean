-- Printed for this claim by a program of this session (wip/xprint.py) over the kit's printer; Lean checks it.
import Derived.Test.YtkdlfejokahohaaX0
import Derived.Test.YtkdlfejokahohaaX2
import Derived.Test.YtkdlfejokahohaaX5
import Derived.Test.YtkdlfejokahohaaX6
import Derived.Test.YtkdlfejokahohaaX7
import Derived.Test.YtkdlfejokahohaaROf
import Derived.Test.YtkdlfejokahohaaZoneJoin
import Derived.Test.YtkdlfejokahohaaZoneOfC
namespace Go.Proofs.Ytkdlfejokahohaa.X
open Go.RowKit Go.Proofs.YtkdlfejokahohaaW.PrintWords Go.Proofs.YtkdlfejokahohaaW.PrintLast Go.Proofs.YtkdlfejokahohaaW.PrintMore
attribute [local go_sem] max2_int min2_int max_two min_two max_three min_three max_four min_four   -- for this text's walks alone
set_option linter.unusedVariables false
set_option linter.unusedSimpArgs false

attribute [local go_sem high] eqA25
/-! ### firkinlaw11_ZoneOf: function 12 -/
mutual
def firkinlaw11_ZoneOf.j0 : Nat → Int → List (S23) → List (S23) → Bool → Option (Bool)
  | 0, _, _, _, _ => none
  | k + 1, x0, x1, x2, x17 => if x17 = true then ((firkinlaw11_live.f).bind fun t151 => (some t151)) else ((zone_Of.f x1).bind fun bt152 => ((zone_Of.f x2).bind fun bt160 => ((firkinref11_Of.f x1).bind fun bt170 => (if (!(bt152.1 == bt170.1) || (!(bt152.2.1 == bt170.2.1) || ((!(bt152.2.2.1 == bt170.2.2.1) || (!(bt152.2.2.2.1 == bt170.2.2.2.1) || (!(bt152.2.2.2.2.1.toList == bt170.2.2.2.2.1.toList)))) || ((!(bt152.2.2.2.2.2.1 == bt170.2.2.2.2.2.1) || (!(bt152.2.2.2.2.2.2.1 == bt170.2.2.2.2.2.2.1) || (!(bt152.2.2.2.2.2.2.2.toList == bt170.2.2.2.2.2.2.2.toList)))))))) = true then (some false) else ((firkinlaw11_may.f k x0 x1).bind fun t178 => (if t178 = true then ((firkinlaw11_may.f k x0 x2).bind fun t179 => (if t179 = true then (if x0 < 1 then (firkinlaw11_ZoneOf.j1 k x0 x1 x2 true bt152.1 bt152.2.1 bt152.2.2.1 bt152.2.2.2.1 bt152.2.2.2.2.1 bt152.2.2.2.2.2.1 bt152.2.2.2.2.2.2.1 bt152.2.2.2.2.2.2.2 bt160.1 bt160.2.1 bt160.2.2.1 bt160.2.2.2.1 bt160.2.2.2.2.1 bt160.2.2.2.2.2.1 bt160.2.2.2.2.2.2.1 bt160.2.2.2.2.2.2.2) else (firkinlaw11_ZoneOf.j1 k x0 x1 x2 (decide (x0 > 3)) bt152.1 bt152.2.1 bt152.2.2.1 bt152.2.2.2.1 bt152.2.2.2.2.1 bt152.2.2.2.2.2.1 bt152.2.2.2.2.2.2.1 bt152.2.2.2.2.2.2.2 bt160.1 bt160.2.1 bt160.2.2.1 bt160.2.2.2.1 bt160.2.2.2.2.1 bt160.2.2.2.2.2.1 bt160.2.2.2.2.2.2.1 bt160.2.2.2.2.2.2.2)) else (firkinlaw11_ZoneOf.j1 k x0 x1 x2 true bt152.1 bt152.2.1 bt152.2.2.1 bt152.2.2.2.1 bt152.2.2.2.2.1 bt152.2.2.2.2.2.1 bt152.2.2.2.2.2.2.1 bt152.2.2.2.2.2.2.2 bt160.1 bt160.2.1 bt160.2.2.1 bt160.2.2.2.1 bt160.2.2.2.2.1 bt160.2.2.2.2.2.1 bt160.2.2.2.2.2.2.1 bt160.2.2.2.2.2.2.2))) else (firkinlaw11_ZoneOf.j1 k x0 x1 x2 true bt152.1 bt152.2.1 bt152.2.2.1 bt152.2.2.2.1 bt152.2.2.2.2.1 bt152.2.2.2.2.2.1 bt152.2.2.2.2.2.2.1 bt152.2.2.2.2.2.2.2 bt160.1 bt160.2.1 bt160.2.2.1 bt160.2.2.2.1 bt160.2.2.2.2.1 bt160.2.2.2.2.2.1 bt160.2.2.2.2.2.2.1 bt160.2.2.2.2.2.2.2)))))))
def firkinlaw11_ZoneOf.j1 : Nat → Int → List (S23) → List (S23) → Bool → Int → Int → Bool → Int → ByteArray → Bool → Int → ByteArray → Int → Int → Bool → Int → ByteArray → Bool → Int → ByteArray → Option (Bool)
  | 0, _, _, _, _, _, _, _, _, _, _, _, _, _, _, _, _, _, _, _, _ => none
  | k + 1, x0, x1, x2, x44, x169000, x169001, x169002, x169003, x169004, x169005, x169006, x169007, x170000, x170001, x170002, x170003, x170004, x170005, x170006, x170007 => if x44 = true then ((firkinlaw11_live.f).bind fun t180 => (some t180)) else (firkinlaw11_ZoneOf.l0 k x0 x1 x2 0 x169000 x169001 x169002 x169003 x169004 x169005 x169006 x169007 x170000 x170001 x170002 x170003 x170004 x170005 x170006 x170007)
def firkinlaw11_ZoneOf.l0 : Nat → Int → List (S23) → List (S23) → Int → Int → Int → Bool → Int → ByteArray → Bool → Int → ByteArray → Int → Int → Bool → Int → ByteArray → Bool → Int → ByteArray → Option (Bool)
  | 0, _, _, _, _, _, _, _, _, _, _, _, _, _, _, _, _, _, _, _, _ => none
  | k + 1, x0, x1, x2, x9, x169000, x169001, x169002, x169003, x169004, x169005, x169006, x169007, x170000, x170001, x170002, x170003, x170004, x170005, x170006, x170007 => if x9 < (x1.length : Int) then (if 0 ≤ x9 then ((zone_Has.f k x169000 x169001 x169002 x169003 x169004 x169005 x169006 x169007 ((rd_T23 x1 x9).f0) ((rd_T23 x1 x9).f1) ((rd_T23 x1 x9).f2)).bind fun t182 => (if t182 = true then (firkinlaw11_ZoneOf.l0 k x0 x1 x2 (wrap64 (x9 + 1)) x169000 x169001 x169002 x169003 x169004 x169005 x169006 x169007 x170000 x170001 x170002 x170003 x170004 x170005 x170006 x170007) else (some false))) else (none)) else ((zone_May.f k x0 x169000 x169001 x169002 x169003 x169004 x169005 x169006 x169007).bind fun t183 => (if t183 = true then ((zone_Join.f x169000 x169001 x169002 x169003 x169004 x169005 x169006 x169007 x170000 x170001 x170002 x170003 x170004 x170005 x170006 x170007).bind fun bt184 => ((some (([] : List (S23)) : List (S23))).bind fun y192 => (if y192.length + x1.length < 4398046511104 then ((some (y192 ++ x1 : List (S23))).bind fun y195 => (if y195.length + x2.length < 4398046511104 then ((firkinref11_Of.f (y195 ++ x2)).bind fun bt201 => (if (bt184.1 == bt201.1 && (bt184.2.1 == bt201.2.1 && ((bt184.2.2.1 == bt201.2.2.1 && (bt184.2.2.2.1 == bt201.2.2.2.1 && (bt184.2.2.2.2.1.toList == bt201.2.2.2.2.1.toList))) && ((bt184.2.2.2.2.2.1 == bt201.2.2.2.2.2.1 && (bt184.2.2.2.2.2.2.1 == bt201.2.2.2.2.2.2.1 && (bt184.2.2.2.2.2.2.2.toList == bt201.2.2.2.2.2.2.2.toList))))))) = true then ((firkinlaw11_live.f).bind fun t209 => (some t209)) else (some false))) else (none))) else (none)))) else (some false)))
end
def firkinlaw11_ZoneOf.f (k : Nat) (a0 : Int) (l1 : List (S23)) (l2 : List (S23)) : Option (Bool) := (firkinlaw10_Small.f k l1).bind fun t149 => (if t149 = true then ((firkinlaw10_Small.f k l2).bind fun t150 => (firkinlaw11_ZoneOf.j0 k a0 l1 l2 (!t150))) else (firkinlaw11_ZoneOf.j0 k a0 l1 l2 true))
theorem firkinlaw11_ZoneOf.mono_l : ∀ k, (∀ y0 y1 y2 y3, LeO (firkinlaw11_ZoneOf.j0 k y0 y1 y2 y3) (firkinlaw11_ZoneOf.j0 (k + 1) y0 y1 y2 y3)) ∧ (∀ y0 y1 y2 y3 y4 y5 y6 y7 y8 y9 y10 y11 y12 y13 y14 y15 y16 y17 y18 y19, LeO (firkinlaw11_ZoneOf.j1 k y0 y1 y2 y3 y4 y5 y6 y7 y8 y9 y10 y11 y12 y13 y14 y15 y16 y17 y18 y19) (firkinlaw11_ZoneOf.j1 (k + 1) y0 y1 y2 y3 y4 y5 y6 y7 y8 y9 y10 y11 y12 y13 y14 y15 y16 y17 y18 y19)) ∧ (∀ y0 y1 y2 y3 y4 y5 y6 y7 y8 y9 y10 y11 y12 y13 y14 y15 y16 y17 y18 y19, LeO (firkinlaw11_ZoneOf.l0 k y0 y1 y2 y3 y4 y5 y6 y7 y8 y9 y10 y11 y12 y13 y14 y15 y16 y17 y18 y19) (firkinlaw11_ZoneOf.l0 (k + 1) y0 y1 y2 y3 y4 y5 y6 y7 y8 y9 y10 y11 y12 y13 y14 y15 y16 y17 y18 y19))
  | 0 => ⟨fun _ _ _ _ r h => by simp [firkinlaw11_ZoneOf.j0] at h, fun _ _ _ _ _ _ _ _ _ _ _ _ _ _ _ _ _ _ _ _ r h => by simp [firkinlaw11_ZoneOf.j1] at h, fun _ _ _ _ _ _ _ _ _ _ _ _ _ _ _ _ _ _ _ _ r h => by simp [firkinlaw11_ZoneOf.l0] at h⟩
  | k + 1 => by
    obtain ⟨ih0, ih1, ih2⟩ := firkinlaw11_ZoneOf.mono_l k
    refine ⟨?_, ?_, ?_⟩
    · intro y0 y1 y2 y3
      unfold firkinlaw11_ZoneOf.j0
      repeat' first
      | (with_reducible exact ih0 _ _ _ _)
      | (with_reducible exact ih1 _ _ _ _ _ _ _ _ _ _ _ _ _ _ _ _ _ _ _ _)
      | (with_reducible exact ih2 _ _ _ _ _ _ _ _ _ _ _ _ _ _ _ _ _ _ _ _)
      | (with_reducible exact firkinlaw10_Small.mono _ _)
      | (with_reducible exact firkinlaw11_may.mono _ _ _)
      | (with_reducible exact zone_Has.mono _ _ _ _ _ _ _ _ _ _ _ _)
      | (with_reducible exact zone_May.mono _ _ _ _ _ _ _ _ _ _)
      | (with_reducible exact LeO.refl _)
      | (with_reducible exact LeO.none _)
      | (with_reducible refine LeO.ite ?_ ?_)
      | (with_reducible refine LeO.bind ?_ (fun _ => ?_))
      | exact ih0 _ _ _ _
      | exact ih1 _ _ _ _ _ _ _ _ _ _ _ _ _ _ _ _ _ _ _ _
      | exact ih2 _ _ _ _ _ _ _ _ _ _ _ _ _ _ _ _ _ _ _ _
      | exact firkinlaw10_Small.mono _ _
      | exact firkinlaw11_may.mono _ _ _
      | exact zone_Has.mono _ _ _ _ _ _ _ _ _ _ _ _
      | exact zone_May.mono _ _ _ _ _ _ _ _ _ _
      | exact LeO.none _
      | refine LeO.ite ?_ ?_
      | refine LeO.bind ?_ (fun _ => ?_)
    · intro y0 y1 y2 y3 y4 y5 y6 y7 y8 y9 y10 y11 y12 y13 y14 y15 y16 y17 y18 y19
      unfold firkinlaw11_ZoneOf.j1
      repeat' first
      | (with_reducible exact ih0 _ _ _ _)
      | (with_reducible exact ih1 _ _ _ _ _ _ _ _ _ _ _ _ _ _ _ _ _ _ _ _)
      | (with_reducible exact ih2 _ _ _ _ _ _ _ _ _ _ _ _ _ _ _ _ _ _ _ _)
      | (with_reducible exact firkinlaw10_Small.mono _ _)
      | (with_reducible exact firkinlaw11_may.mono _ _ _)
      | (with_reducible exact zone_Has.mono _ _ _ _ _ _ _ _ _ _ _ _)
      | (with_reducible exact zone_May.mono _ _ _ _ _ _ _ _ _ _)
      | (with_reducible exact LeO.refl _)
      | (with_reducible exact LeO.none _)
      | (with_reducible refine LeO.ite ?_ ?_)
      | (with_reducible refine LeO.bind ?_ (fun _ => ?_))
      | exact ih0 _ _ _ _
      | exact ih1 _ _ _ _ _ _ _ _ _ _ _ _ _ _ _ _ _ _ _ _
      | exact ih2 _ _ _ _ _ _ _ _ _ _ _ _ _ _ _ _ _ _ _ _
      | exact firkinlaw10_Small.mono _ _
      | exact firkinlaw11_may.mono _ _ _
      | exact zone_Has.mono _ _ _ _ _ _ _ _ _ _ _ _
      | exact zone_May.mono _ _ _ _ _ _ _ _ _ _
      | exact LeO.none _
      | refine LeO.ite ?_ ?_
      | refine LeO.bind ?_ (fun _ => ?_)
    · intro y0 y1 y2 y3 y4 y5 y6 y7 y8 y9 y10 y11 y12 y13 y14 y15 y16 y17 y18 y19
      unfold firkinlaw11_ZoneOf.l0
      repeat' first
      | (with_reducible exact ih0 _ _ _ _)
      | (with_reducible exact ih1 _ _ _ _ _ _ _ _ _ _ _ _ _ _ _ _ _ _ _ _)
      | (with_reducible exact ih2 _ _ _ _ _ _ _ _ _ _ _ _ _ _ _ _ _ _ _ _)
      | (with_reducible exact firkinlaw10_Small.mono _ _)
      | (with_reducible exact firkinlaw11_may.mono _ _ _)
      | (with_reducible exact zone_Has.mono _ _ _ _ _ _ _ _ _ _ _ _)
      | (with_reducible exact zone_May.mono _ _ _ _ _ _ _ _ _ _)
      | (with_reducible exact LeO.refl _)
      | (with_reducible exact LeO.none _)
      | (with_reducible refine LeO.ite ?_ ?_)
      | (with_reducible refine LeO.bind ?_ (fun _ => ?_))
      | exact ih0 _ _ _ _
      | exact ih1 _ _ _ _ _ _ _ _ _ _ _ _ _ _ _ _ _ _ _ _
      | exact ih2 _ _ _ _ _ _ _ _ _ _ _ _ _ _ _ _ _ _ _ _
      | exact firkinlaw10_Small.mono _ _
      | exact firkinlaw11_may.mono _ _ _
      | exact zone_Has.mono _ _ _ _ _ _ _ _ _ _ _ _
      | exact zone_May.mono _ _ _ _ _ _ _ _ _ _
      | exact LeO.none _
      | refine LeO.ite ?_ ?_
      | refine LeO.bind ?_ (fun _ => ?_)
theorem firkinlaw11_ZoneOf.mono : ∀ a0 a1 a2 k, LeO (firkinlaw11_ZoneOf.f k a0 a1 a2) (firkinlaw11_ZoneOf.f (k + 1) a0 a1 a2) := by
  intro a0 a1 a2 k
  obtain ⟨ih0, ih1, ih2⟩ := firkinlaw11_ZoneOf.mono_l k
  unfold firkinlaw11_ZoneOf.f
  repeat' first
      | (with_reducible exact ih0 _ _ _ _)
      | (with_reducible exact ih1 _ _ _ _ _ _ _ _ _ _ _ _ _ _ _ _ _ _ _ _)
      | (with_reducible exact ih2 _ _ _ _ _ _ _ _ _ _ _ _ _ _ _ _ _ _ _ _)
      | (with_reducible exact firkinlaw10_Small.mono _ _)
      | (with_reducible exact firkinlaw11_may.mono _ _ _)
      | (with_reducible exact zone_Has.mono _ _ _ _ _ _ _ _ _ _ _ _)
      | (with_reducible exact zone_May.mono _ _ _ _ _ _ _ _ _ _)
      | (with_reducible exact LeO.refl _)
      | (with_reducible exact LeO.none _)
      | (with_reducible refine LeO.ite ?_ ?_)
      | (with_reducible refine LeO.bind ?_ (fun _ => ?_))
      | exact ih0 _ _ _ _
      | exact ih1 _ _ _ _ _ _ _ _ _ _ _ _ _ _ _ _ _ _ _ _
      | exact ih2 _ _ _ _ _ _ _ _ _ _ _ _ _ _ _ _ _ _ _ _
      | exact firkinlaw10_Small.mono _ _
      | exact firkinlaw11_may.mono _ _ _
      | exact zone_Has.mono _ _ _ _ _ _ _ _ _ _ _ _
      | exact zone_May.mono _ _ _ _ _ _ _ _ _ _
      | exact LeO.none _
      | refine LeO.ite ?_ ?_
      | refine LeO.bind ?_ (fun _ => ?_)
set_option maxHeartbeats 8000000 in
set_option maxRecDepth 100000 in
theorem firkinlaw11_ZoneOf.calls (k : Nat) (a0 : Int) (A1 : Option Addr) (c1 : Nat) (l1 : List (S23)) (A2 : Option Addr) (c2 : Nat) (l2 : List (S23)) (r : Bool) (w : World) (hr1 : Kd.C k23 w A1 l1.length l1) (hc1 : l1.length ≤ c1) (hr2 : Kd.C k23 w A2 l2.length l2) (hc2 : l2.length ≤ c2) (h : firkinlaw11_ZoneOf.f k a0 l1 l2 = some r) :
    Calls Try.prog 12 #[.int .i64 a0, .slice A1 l1.length c1, .slice A2 l2.length c2] w fun e w' => e = .returned (.bool r) ∧ Below w.heap.size w w' := by
  have hu25 := Try.underlying25
  have hu23 := Try.underlying23
  have HR1 := Aside0.mk hr1
  have HC1 := Aside0.mk hc1
  clear hr1 hc1
  have HR2 := Aside0.mk hr2
  have HC2 := Aside0.mk hc2
  clear hr2 hc2
  have HB := Aside0.mk (Below.refl w.heap.size w)
  have H : ((firkinlaw10_Small.f k l1).bind fun t149 => (if t149 = true then ((firkinlaw10_Small.f k l2).bind fun t150 => (firkinlaw11_ZoneOf.j0 k a0 l1 l2 (!t150))) else (firkinlaw11_ZoneOf.j0 k a0 l1 l2 true))) = some r := h
  clear h
  have HC4 := Aside0.mk H
  clear H
  go_enter Try.func12, Try.ntmps12
  go_upto_region 1 with (fail)
  go_cut [17] (fun v17 wc => ∃ (kq : Nat) (x17_3 : Bool), v17 = .bool x17_3 ∧ Aside0 (firkinlaw11_ZoneOf.j0 kq a0 l1 l2 x17_3 = some r) ∧ Aside0 (kq ≤ k) ∧ Aside0 (Below w.heap.size w wc))
  case first =>
    have H := HC4.out
    clear HC4
    replace H := Option.bind_eq_some_iff.mp H
    obtain ⟨t149, A50, H⟩ := H
    replace H : (if t149 = true then ((firkinlaw10_Small.f k l2).bind fun t150 => (firkinlaw11_ZoneOf.j0 k a0 l1 l2 (!t150))) else (firkinlaw11_ZoneOf.j0 k a0 l1 l2 true)) = some r := H
    have A5 := Aside0.mk A50
    clear A50
    by_cases c6 : t149 = true
    · subst c6
      have H1 : ((firkinlaw10_Small.f k l2).bind fun t150 => (firkinlaw11_ZoneOf.j0 k a0 l1 l2 (!t150))) = some r := by rw [if_pos rfl] at H; exact H
      clear H
      have H := H1
      clear H1
      replace H := Option.bind_eq_some_iff.mp H
      obtain ⟨t150, A70, H⟩ := H
      replace H : (firkinlaw11_ZoneOf.j0 k a0 l1 l2 (!t150)) = some r := H
      have A7 := Aside0.mk A70
      clear A70
      have H' := Aside0.mk H
      clear H
      go_wp2_with (first | ((with_reducible refine gate_callee (f := 48) rfl ?_); refine goesL_ (some 11) rfl rfl Try.func48 (by kernel_rfl) rfl #[.slice A1 l1.length c1] rfl (by (try simp only [List.map_toArray, List.map_cons, List.map_nil]); first | done | rfl | (simp only [List.length_drop, List.length_take]; rfl)) ?_; (with_reducible refine (firkinlaw10_Small.calls k _ _ l1 true _ ?side1 ?side2 A5.out).mono ?_); (case side1 => repeat (first | exact (Kd.C_below HR1.out HB.out) | (with_reducible refine Kd.C_alloc ?_ _) | (with_reducible refine Kd.C_drewN ?_ _) | (with_reducible refine Kd.C_drew ?_))); (case side2 => exact HC1.out); rintro e w' ⟨rfl, ⟨nd, rfl⟩⟩; refine ⟨_, rfl, ?_⟩) | (go_at_call 48; (with_reducible refine (firkinlaw10_Small.calls k _ _ l2 t150 _ ?side1 ?side2 A7.out).mono ?_); (case side1 => repeat (first | exact (Kd.C_below HR2.out (by repeat (first | (with_reducible first | exact HB.out | apply below_alloc | apply pw_below_drewN | apply below_drew1) | exact HB.out))) | (with_reducible refine Kd.C_alloc ?_ _) | (with_reducible refine Kd.C_drewN ?_ _) | (with_reducible refine Kd.C_drew ?_))); (case side2 => exact HC2.out); rintro e w' ⟨rfl, ⟨nd, rfl⟩⟩; (try clear A7)))
      go_meet
      case rel => exact ⟨_, (!t150), (by first | rfl | (simp; done) | (simp [*]; done)), H', ⟨by first | omega | exact Nat.le_refl _⟩, ⟨by repeat (first | (with_reducible first | exact HB.out | apply below_alloc | apply pw_below_drewN | apply below_drew1) | exact HB.out)⟩⟩
    · replace c6 := Bool.eq_false_iff.mpr c6
      subst c6
      have H1 : (firkinlaw11_ZoneOf.j0 k a0 l1 l2 true) = some r := by rw [if_neg (show ¬ (false = true) by decide)] at H; exact H
      clear H
      have H := H1
      clear H1
      have H' := Aside0.mk H
      clear H
      go_wp2_with (first | ((with_reducible refine gate_callee (f := 48) rfl ?_); refine goesL_ (some 11) rfl rfl Try.func48 (by kernel_rfl) rfl #[.slice A1 l1.length c1] rfl (by (try simp only [List.map_toArray, List.map_cons, List.map_nil]); first | done | rfl | (simp only [List.length_drop, List.length_take]; rfl)) ?_; (with_reducible refine (firkinlaw10_Small.calls k _ _ l1 false _ ?side1 ?side2 A5.out).mono ?_); (case side1 => repeat (first | exact (Kd.C_below HR1.out HB.out) | (with_reducible refine Kd.C_alloc ?_ _) | (with_reducible refine Kd.C_drewN ?_ _) | (with_reducible refine Kd.C_drew ?_))); (case side2 => exact HC1.out); rintro e w' ⟨rfl, ⟨nd, rfl⟩⟩; refine ⟨_, rfl, ?_⟩))
      go_meet
      case rel => exact ⟨_, (true), (by first | rfl | (simp; done) | (simp [*]; done)), H', ⟨by first | omega | exact Nat.le_refl _⟩, ⟨by repeat (first | (with_reducible first | exact HB.out | apply below_alloc | apply pw_below_drewN | apply below_drew1) | exact HB.out)⟩⟩
  case rest =>
    clear HC4
    try clear c1
    try clear c2
    try clear p2
    try clear c4
    try clear c6
    obtain ⟨kq, x17_3, rfl, HA, HJ3, HB⟩ := hcut
    cases kq with
    | zero => exact absurd HA.out (by simp [firkinlaw11_ZoneOf.j0])
    | succ kj3 =>
      have H := HA.out
      clear HA
      simp only [firkinlaw11_ZoneOf.j0] at H
      by_cases c8 : x17_3 = true
      · subst c8
        have H1 : ((firkinlaw11_live.f).bind fun t151 => (some t151)) = some r := by rw [if_pos rfl] at H; exact H
        clear H
        have H := H1
        clear H1
        replace H := Option.bind_eq_some_iff.mp H
        obtain ⟨t151, A90, H⟩ := H
        replace H : (some t151) = some r := H
        have A9 := Aside0.mk A90
        clear A90
        obtain rfl := Option.some.inj H
        go_wp2_with (first | ((with_reducible refine gate_callee (f := 15) rfl ?_); refine goesL_ (some 18) rfl rfl Try.func15 (by kernel_rfl) rfl #[] rfl (by (try simp only [List.map_toArray, List.map_cons, List.map_nil]); first | done | rfl | (simp only [List.length_drop, List.length_take]; rfl)) ?_; (with_reducible refine (firkinlaw11_live.calls  t151 _ A9.out).mono ?_); rintro e w10 ⟨rfl, hb⟩; refine ⟨_, rfl, ?_⟩; have n0_ := Aside0.mk (below_step (by repeat (first | (with_reducible first | exact HB.out | apply below_alloc | apply pw_below_drewN | apply below_drew1) | exact HB.out)) hb); clear HB; have HB := n0_; clear n0_; (try clear hb); (try clear hb2); (try clear hk); (try clear hi)))
        go_ret
        exact ⟨by first | rfl | (simp [errW_none, errW_some] <;> rfl) | (simp [*, errW_none, errW_some] <;> rfl), by repeat (first | (with_reducible first | exact HB.out | apply below_alloc | apply pw_below_drewN | apply below_drew1) | exact HB.out)⟩
      · replace c8 := Bool.eq_false_iff.mpr c8
        subst c8
        have H1 : ((zone_Of.f l1).bind fun bt152 => ((zone_Of.f l2).bind fun bt160 => ((firkinref11_Of.f l1).bind fun bt170 => (if (!(bt152.1 == bt170.1) || (!(bt152.2.1 == bt170.2.1) || ((!(bt152.2.2.1 == bt170.2.2.1) || (!(bt152.2.2.2.1 == bt170.2.2.2.1) || (!(bt152.2.2.2.2.1.toList == bt170.2.2.2.2.1.toList)))) || ((!(bt152.2.2.2.2.2.1 == bt170.2.2.2.2.2.1) || (!(bt152.2.2.2.2.2.2.1 == bt170.2.2.2.2.2.2.1) || (!(bt152.2.2.2.2.2.2.2.toList == bt170.2.2.2.2.2.2.2.toList)))))))) = true then (some false) else ((firkinlaw11_may.f kj3 a0 l1).bind fun t178 => (if t178 = true then ((firkinlaw11_may.f kj3 a0 l2).bind fun t179 => (if t179 = true then (if a0 < 1 then (firkinlaw11_ZoneOf.j1 kj3 a0 l1 l2 true bt152.1 bt152.2.1 bt152.2.2.1 bt152.2.2.2.1 bt152.2.2.2.2.1 bt152.2.2.2.2.2.1 bt152.2.2.2.2.2.2.1 bt152.2.2.2.2.2.2.2 bt160.1 bt160.2.1 bt160.2.2.1 bt160.2.2.2.1 bt160.2.2.2.2.1 bt160.2.2.2.2.2.1 bt160.2.2.2.2.2.2.1 bt160.2.2.2.2.2.2.2) else (firkinlaw11_ZoneOf.j1 kj3 a0 l1 l2 (decide (a0 > 3)) bt152.1 bt152.2.1 bt152.2.2.1 bt152.2.2.2.1 bt152.2.2.2.2.1 bt152.2.2.2.2.2.1 bt152.2.2.2.2.2.2.1 bt152.2.2.2.2.2.2.2 bt160.1 bt160.2.1 bt160.2.2.1 bt160.2.2.2.1 bt160.2.2.2.2.1 bt160.2.2.2.2.2.1 bt160.2.2.2.2.2.2.1 bt160.2.2.2.2.2.2.2)) else (firkinlaw11_ZoneOf.j1 kj3 a0 l1 l2 true bt152.1 bt152.2.1 bt152.2.2.1 bt152.2.2.2.1 bt152.2.2.2.2.1 bt152.2.2.2.2.2.1 bt152.2.2.2.2.2.2.1 bt152.2.2.2.2.2.2.2 bt160.1 bt160.2.1 bt160.2.2.1 bt160.2.2.2.1 bt160.2.2.2.2.1 bt160.2.2.2.2.2.1 bt160.2.2.2.2.2.2.1 bt160.2.2.2.2.2.2.2))) else (firkinlaw11_ZoneOf.j1 kj3 a0 l1 l2 true bt152.1 bt152.2.1 bt152.2.2.1 bt152.2.2.2.1 bt152.2.2.2.2.1 bt152.2.2.2.2.2.1 bt152.2.2.2.2.2.2.1 bt152.2.2.2.2.2.2.2 bt160.1 bt160.2.1 bt160.2.2.1 bt160.2.2.2.1 bt160.2.2.2.2.1 bt160.2.2.2.2.2.1 bt160.2.2.2.2.2.2.1 bt160.2.2.2.2.2.2.2))))))) = some r := by rw [if_neg (show ¬ (false = true) by decide)] at H; exact H
        clear H
        have H := H1
        clear H1
        replace H := Option.bind_eq_some_iff.mp H
        obtain ⟨⟨t152, t153, t154, t155, t156, t157, t158, t159⟩, A110, H⟩ := H
        replace H : ((zone_Of.f l2).bind fun bt160 => ((firkinref11_Of.f l1).bind fun bt170 => (if (!(t152 == bt170.1) || (!(t153 == bt170.2.1) || ((!(t154 == bt170.2.2.1) || (!(t155 == bt170.2.2.2.1) || (!(t156.toList == bt170.2.2.2.2.1.toList)))) || ((!(t157 == bt170.2.2.2.2.2.1) || (!(t158 == bt170.2.2.2.2.2.2.1) || (!(t159.toList == bt170.2.2.2.2.2.2.2.toList)))))))) = true then (some false) else ((firkinlaw11_may.f kj3 a0 l1).bind fun t178 => (if t178 = true then ((firkinlaw11_may.f kj3 a0 l2).bind fun t179 => (if t179 = true then (if a0 < 1 then (firkinlaw11_ZoneOf.j1 kj3 a0 l1 l2 true t152 t153 t154 t155 t156 t157 t158 t159 bt160.1 bt160.2.1 bt160.2.2.1 bt160.2.2.2.1 bt160.2.2.2.2.1 bt160.2.2.2.2.2.1 bt160.2.2.2.2.2.2.1 bt160.2.2.2.2.2.2.2) else (firkinlaw11_ZoneOf.j1 kj3 a0 l1 l2 (decide (a0 > 3)) t152 t153 t154 t155 t156 t157 t158 t159 bt160.1 bt160.2.1 bt160.2.2.1 bt160.2.2.2.1 bt160.2.2.2.2.1 bt160.2.2.2.2.2.1 bt160.2.2.2.2.2.2.1 bt160.2.2.2.2.2.2.2)) else (firkinlaw11_ZoneOf.j1 kj3 a0 l1 l2 true t152 t153 t154 t155 t156 t157 t158 t159 bt160.1 bt160.2.1 bt160.2.2.1 bt160.2.2.2.1 bt160.2.2.2.2.1 bt160.2.2.2.2.2.1 bt160.2.2.2.2.2.2.1 bt160.2.2.2.2.2.2.2))) else (firkinlaw11_ZoneOf.j1 kj3 a0 l1 l2 true t152 t153 t154 t155 t156 t157 t158 t159 bt160.1 bt160.2.1 bt160.2.2.1 bt160.2.2.2.1 bt160.2.2.2.2.1 bt160.2.2.2.2.2.1 bt160.2.2.2.2.2.2.1 bt160.2.2.2.2.2.2.2)))))) = some r := H
        have A11 := Aside0.mk A110
        clear A110
        replace H := Option.bind_eq_some_iff.mp H
        obtain ⟨⟨t160, t161, t162, t163, t164, t165, t166, t167⟩, A120, H⟩ := H
        replace H : ((firkinref11_Of.f l1).bind fun bt170 => (if (!(t152 == bt170.1) || (!(t153 == bt170.2.1) || ((!(t154 == bt170.2.2.1) || (!(t155 == bt170.2.2.2.1) || (!(t156.toList == bt170.2.2.2.2.1.toList)))) || ((!(t157 == bt170.2.2.2.2.2.1) || (!(t158 == bt170.2.2.2.2.2.2.1) || (!(t159.toList == bt170.2.2.2.2.2.2.2.toList)))))))) = true then (some false) else ((firkinlaw11_may.f kj3 a0 l1).bind fun t178 => (if t178 = true then ((firkinlaw11_may.f kj3 a0 l2).bind fun t179 => (if t179 = true then (if a0 < 1 then (firkinlaw11_ZoneOf.j1 kj3 a0 l1 l2 true t152 t153 t154 t155 t156 t157 t158 t159 t160 t161 t162 t163 t164 t165 t166 t167) else (firkinlaw11_ZoneOf.j1 kj3 a0 l1 l2 (decide (a0 > 3)) t152 t153 t154 t155 t156 t157 t158 t159 t160 t161 t162 t163 t164 t165 t166 t167)) else (firkinlaw11_ZoneOf.j1 kj3 a0 l1 l2 true t152 t153 t154 t155 t156 t157 t158 t159 t160 t161 t162 t163 t164 t165 t166 t167))) else (firkinlaw11_ZoneOf.j1 kj3 a0 l1 l2 true t152 t153 t154 t155 t156 t157 t158 t159 t160 t161 t162 t163 t164 t165 t166 t167))))) = some r := H
        have A12 := Aside0.mk A120
        clear A120
        replace H := Option.bind_eq_some_iff.mp H
        obtain ⟨⟨t170, t171, t172, t173, t174, t175, t176, t177⟩, A130, H⟩ := H
        replace H : (if (!(t152 == t170) || (!(t153 == t171) || ((!(t154 == t172) || (!(t155 == t173) || (!(t156.toList == t174.toList)))) || ((!(t157 == t175) || (!(t158 == t176) || (!(t159.toList == t177.toList)))))))) = true then (some false) else ((firkinlaw11_may.f kj3 a0 l1).bind fun t178 => (if t178 = true then ((firkinlaw11_may.f kj3 a0 l2).bind fun t179 => (if t179 = true then (if a0 < 1 then (firkinlaw11_ZoneOf.j1 kj3 a0 l1 l2 true t152 t153 t154 t155 t156 t157 t158 t159 t160 t161 t162 t163 t164 t165 t166 t167) else (firkinlaw11_ZoneOf.j1 kj3 a0 l1 l2 (decide (a0 > 3)) t152 t153 t154 t155 t156 t157 t158 t159 t160 t161 t162 t163 t164 t165 t166 t167)) else (firkinlaw11_ZoneOf.j1 kj3 a0 l1 l2 true t152 t153 t154 t155 t156 t157 t158 t159 t160 t161 t162 t163 t164 t165 t166 t167))) else (firkinlaw11_ZoneOf.j1 kj3 a0 l1 l2 true t152 t153 t154 t155 t156 t157 t158 t159 t160 t161 t162 t163 t164 t165 t166 t167)))) = some r := H
        have A13 := Aside0.mk A130
        clear A130
        by_cases c14 : (!(t152 == t170) || (!(t153 == t171) || ((!(t154 == t172) || (!(t155 == t173) || (!(t156.toList == t174.toList)))) || ((!(t157 == t175) || (!(t158 == t176) || (!(t159.toList == t177.toList)))))))) = true
        · rw [if_pos c14] at H
          have c14b0 : (!(t152 == t170) || (!(t153 == t171) || ((!(t154 == t172) || (!(t155 == t173) || (!(t156.toList == t174.toList)))) || ((!(t157 == t175) || (!(t158 == t176) || (!(t159.toList == t177.toList)))))))) = true := c14
          clear c14
          obtain rfl := Option.some.inj H
          try go_wp2_with (first | ((with_reducible refine gate_callee (f := 57) rfl ?_); refine goesL_ (some 20) rfl rfl Try.func57 (by kernel_rfl) rfl #[.slice A1 l1.length c1] rfl (by (try simp only [List.map_toArray, List.map_cons, List.map_nil]); first | done | rfl | (simp only [List.length_drop, List.length_take]; rfl)) ?_; (with_reducible refine (zone_Of.calls _ _ l1 t152 t153 t154 t155 t156 t157 t158 t159 _ ?side1 ?side2 A11.out).mono ?_); (case side1 => repeat (first | exact (Kd.C_below HR1.out HB.out) | (with_reducible refine Kd.C_alloc ?_ _) | (with_reducible refine Kd.C_drewN ?_ _) | (with_reducible refine Kd.C_drew ?_))); (case side2 => exact HC1.out); rintro e w15 ⟨rfl, hb⟩; refine ⟨_, rfl, ?_⟩; have n0_ := Aside0.mk (below_step (by repeat (first | (with_reducible first | exact HB.out | apply below_alloc | apply pw_below_drewN | apply below_drew1) | exact HB.out)) hb); clear HB; have HB := n0_; clear n0_; (try clear hb); (try clear hb2); (try clear hk); (try clear hi)) | ((with_reducible refine gate_callee (f := 57) rfl ?_); refine goesL_ (some 22) rfl rfl Try.func57 (by kernel_rfl) rfl #[.slice A2 l2.length c2] rfl (by (try simp only [List.map_toArray, List.map_cons, List.map_nil]); first | done | rfl | (simp only [List.length_drop, List.length_take]; rfl)) ?_; (with_reducible refine (zone_Of.calls _ _ l2 t160 t161 t162 t163 t164 t165 t166 t167 _ ?side1 ?side2 A12.out).mono ?_); (case side1 => repeat (first | exact (Kd.C_below HR2.out HB.out) | (with_reducible refine Kd.C_alloc ?_ _) | (with_reducible refine Kd.C_drewN ?_ _) | (with_reducible refine Kd.C_drew ?_))); (case side2 => exact HC2.out); rintro e w16 ⟨rfl, hb⟩; refine ⟨_, rfl, ?_⟩; have n0_ := Aside0.mk (below_step (by repeat (first | (with_reducible first | exact HB.out | apply below_alloc | apply pw_below_drewN | apply below_drew1) | exact HB.out)) hb); clear HB; have HB := n0_; clear n0_; (try clear hb); (try clear hb2); (try clear hk); (try clear hi)) | ((with_reducible refine gate_dst (N := 7) rfl ?_); (try (refine gate_guard (by rfl) ?_; dsimp only)); refine box_event ?hg (N := 7) ?hd (cs := #[.int .i64 0, .int .i64 0, .bool false, .int .i64 0, .string (⟨#[]⟩ : ByteArray), .bool false, .int .i64 0, .string (⟨#[]⟩ : ByteArray)]) (t := 25) ?hr ?_; (case hd => rfl); (case hg => rfl); (case hr => first | (go_simp; done) | (go_simp; rfl)); intro gb168 hg w17 hbox hb; have n0_ := Aside0.mk (below_step (by repeat (first | (with_reducible first | exact HB.out | apply below_alloc | apply pw_below_drewN | apply below_drew1) | exact HB.out)) hb); have n1_ := Aside0.mk (hbox); have n2_ := Aside0.mk ((by rw [hg]; exact (below_size (by repeat (first | (with_reducible first | exact HB.out | apply below_alloc | apply pw_below_drewN | apply below_drew1) | exact HB.out))) : w.heap.size ≤ gb168)); have n3_ := Aside0.mk ((by rw [hg]; exact (below_size (by repeat (first | (with_reducible first | exact HB.out | apply below_alloc | apply pw_below_drewN | apply below_drew1) | exact HB.out))) : w.heap.size ≤ gb168)); clear HB; have HB := n0_; have BK168 := n1_; have GW168 := n2_; have GE168 := n3_; clear n0_ n1_ n2_ n3_; clear hb hbox hg) | ((with_reducible refine gate_dst (N := 8) rfl ?_); (try (refine gate_guard (by rfl) ?_; dsimp only)); refine box_event ?hg (N := 8) ?hd (cs := #[.int .i64 0, .int .i64 0, .bool false, .int .i64 0, .string (⟨#[]⟩ : ByteArray), .bool false, .int .i64 0, .string (⟨#[]⟩ : ByteArray)]) (t := 25) ?hr ?_; (case hd => rfl); (case hg => rfl); (case hr => first | (go_simp; done) | (go_simp; rfl)); intro gb169 hg w18 hbox hb; have n0_ := Aside0.mk (blk_below (g := gb168) (o := .cells #[.int .i64 0, .int .i64 0, .bool false, .int .i64 0, .string (⟨#[]⟩ : ByteArray), .bool false, .int .i64 0, .string (⟨#[]⟩ : ByteArray)] 25 (0, 0)) (by (with_reducible repeat (first | refine blk_drewN ?_ _ | refine blk_drew ?_ | refine blk_alloc ?_ _)); exact BK168.out) hb); have n1_ := Aside0.mk (below_step (by repeat (first | (with_reducible first | exact HB.out | apply below_alloc | apply pw_below_drewN | apply below_drew1 | refine below_set ?_ GE168.out) | exact HB.out)) hb); have n2_ := Aside0.mk (hbox); have n3_ := Aside0.mk ((by rw [hg]; exact (below_size (by repeat (first | (with_reducible first | exact HB.out | apply below_alloc | apply pw_below_drewN | apply below_drew1 | refine below_set ?_ GE168.out) | exact HB.out))) : w.heap.size ≤ gb169)); have n4_ := Aside0.mk ((by rw [hg]; exact (below_size (by repeat (first | (with_reducible first | exact HB.out | apply below_alloc | apply pw_below_drewN | apply below_drew1 | refine below_set ?_ GE168.out) | exact HB.out))) : w.heap.size ≤ gb169)); have n5_ := Aside0.mk ((by rw [hg]; exact Nat.ne_of_lt (blk_lt (g := gb168) (o := .cells #[.int .i64 0, .int .i64 0, .bool false, .int .i64 0, .string (⟨#[]⟩ : ByteArray), .bool false, .int .i64 0, .string (⟨#[]⟩ : ByteArray)] 25 (0, 0)) (by (with_reducible repeat (first | refine blk_drewN ?_ _ | refine blk_drew ?_ | refine blk_alloc ?_ _)); exact BK168.out)) : gb168 ≠ gb169)); have n6_ := Aside0.mk ((by rw [hg]; exact Nat.ne_of_gt (blk_lt (g := gb168) (o := .cells #[.int .i64 0, .int .i64 0, .bool false, .int .i64 0, .string (⟨#[]⟩ : ByteArray), .bool false, .int .i64 0, .string (⟨#[]⟩ : ByteArray)] 25 (0, 0)) (by (with_reducible repeat (first | refine blk_drewN ?_ _ | refine blk_drew ?_ | refine blk_alloc ?_ _)); exact BK168.out)) : gb169 ≠ gb168)); clear BK168; clear HB; have BK168 := n0_; have HB := n1_; have BK169 := n2_; have GW169 := n3_; have GE169 := n4_; have NB168_169 := n5_; have NB169_168 := n6_; clear n0_ n1_ n2_ n3_ n4_ n5_ n6_; clear hb hbox hg; have hnb19 := NB168_169.out; have hnc19 := NB169_168.out; have hcz20_0 : w18.cell? ⟨gb168, 0, none⟩ = some (.int .i64 0) := (blk_cell BK168.out 0).trans rfl; have hcz20_1 : w18.cell? ⟨gb168, 1, none⟩ = some (.int .i64 0) := (blk_cell BK168.out 1).trans rfl; have hcz20_2 : w18.cell? ⟨gb168, 2, none⟩ = some (.bool false) := (blk_cell BK168.out 2).trans rfl; have hcz20_3 : w18.cell? ⟨gb168, 3, none⟩ = some (.int .i64 0) := (blk_cell BK168.out 3).trans rfl; have hcz20_4 : w18.cell? ⟨gb168, 4, none⟩ = some (.string (⟨#[]⟩ : ByteArray)) := (blk_cell BK168.out 4).trans rfl; have hcz20_5 : w18.cell? ⟨gb168, 5, none⟩ = some (.bool false) := (blk_cell BK168.out 5).trans rfl; have hcz20_6 : w18.cell? ⟨gb168, 6, none⟩ = some (.int .i64 0) := (blk_cell BK168.out 6).trans rfl; have hcz20_7 : w18.cell? ⟨gb168, 7, none⟩ = some (.string (⟨#[]⟩ : ByteArray)) := (blk_cell BK168.out 7).trans rfl; have hfz20_0 := blk_frozen BK168.out 0; have hfz20_1 := blk_frozen BK168.out 1; have hfz20_2 := blk_frozen BK168.out 2; have hfz20_3 := blk_frozen BK168.out 3; have hfz20_4 := blk_frozen BK168.out 4; have hfz20_5 := blk_frozen BK168.out 5; have hfz20_6 := blk_frozen BK168.out 6; have hfz20_7 := blk_frozen BK168.out 7; have hcz21_0 : w18.cell? ⟨gb169, 0, none⟩ = some (.int .i64 0) := (blk_cell BK169.out 0).trans rfl; have hcz21_1 : w18.cell? ⟨gb169, 1, none⟩ = some (.int .i64 0) := (blk_cell BK169.out 1).trans rfl; have hcz21_2 : w18.cell? ⟨gb169, 2, none⟩ = some (.bool false) := (blk_cell BK169.out 2).trans rfl; have hcz21_3 : w18.cell? ⟨gb169, 3, none⟩ = some (.int .i64 0) := (blk_cell BK169.out 3).trans rfl; have hcz21_4 : w18.cell? ⟨gb169, 4, none⟩ = some (.string (⟨#[]⟩ : ByteArray)) := (blk_cell BK169.out 4).trans rfl; have hcz21_5 : w18.cell? ⟨gb169, 5, none⟩ = some (.bool false) := (blk_cell BK169.out 5).trans rfl; have hcz21_6 : w18.cell? ⟨gb169, 6, none⟩ = some (.int .i64 0) := (blk_cell BK169.out 6).trans rfl; have hcz21_7 : w18.cell? ⟨gb169, 7, none⟩ = some (.string (⟨#[]⟩ : ByteArray)) := (blk_cell BK169.out 7).trans rfl; have hfz21_0 := blk_frozen BK169.out 0; have hfz21_1 := blk_frozen BK169.out 1; have hfz21_2 := blk_frozen BK169.out 2; have hfz21_3 := blk_frozen BK169.out 3; have hfz21_4 := blk_frozen BK169.out 4; have hfz21_5 := blk_frozen BK169.out 5; have hfz21_6 := blk_frozen BK169.out 6; have hfz21_7 := blk_frozen BK169.out 7))
          have n0_ : Aside0 (((((((((((((((((w18.setCell ⟨gb168, 0, none⟩ (.int .i64 t152)).setCell ⟨gb168, 1, none⟩ (.int .i64 t153)).setCell ⟨gb168, 2, none⟩ (.bool t154)).setCell ⟨gb168, 3, none⟩ (.int .i64 t155)).setCell ⟨gb168, 4, none⟩ (.string t156)).setCell ⟨gb168, 5, none⟩ (.bool t157)).setCell ⟨gb168, 6, none⟩ (.int .i64 t158)).setCell ⟨gb168, 7, none⟩ (.string t159)).setCell ⟨gb169, 0, none⟩ (.int .i64 t160)).setCell ⟨gb169, 1, none⟩ (.int .i64 t161)).setCell ⟨gb169, 2, none⟩ (.bool t162)).setCell ⟨gb169, 3, none⟩ (.int .i64 t163)).setCell ⟨gb169, 4, none⟩ (.string t164)).setCell ⟨gb169, 5, none⟩ (.bool t165)).setCell ⟨gb169, 6, none⟩ (.int .i64 t166)).setCell ⟨gb169, 7, none⟩ (.string t167)).heap[gb168]? = some (.cells #[.int .i64 t152, .int .i64 t153, .bool t154, .int .i64 t155, .string t156, .bool t157, .int .i64 t158, .string t159] 25 (0, 0))) := ⟨by (with_reducible repeat (first | refine blk_drewN ?_ _ | refine blk_drew ?_ | refine blk_alloc ?_ _)); refine blk_far ?_ NB168_169.out _; (with_reducible repeat (first | refine blk_drewN ?_ _ | refine blk_drew ?_ | refine blk_alloc ?_ _)); refine blk_far ?_ NB168_169.out _; (with_reducible repeat (first | refine blk_drewN ?_ _ | refine blk_drew ?_ | refine blk_alloc ?_ _)); refine blk_far ?_ NB168_169.out _; (with_reducible repeat (first | refine blk_drewN ?_ _ | refine blk_drew ?_ | refine blk_alloc ?_ _)); refine blk_far ?_ NB168_169.out _; (with_reducible repeat (first | refine blk_drewN ?_ _ | refine blk_drew ?_ | refine blk_alloc ?_ _)); refine blk_far ?_ NB168_169.out _; (with_reducible repeat (first | refine blk_drewN ?_ _ | refine blk_drew ?_ | refine blk_alloc ?_ _)); refine blk_far ?_ NB168_169.out _; (with_reducible repeat (first | refine blk_drewN ?_ _ | refine blk_drew ?_ | refine blk_alloc ?_ _)); refine blk_far ?_ NB168_169.out _; (with_reducible repeat (first | refine blk_drewN ?_ _ | refine blk_drew ?_ | refine blk_alloc ?_ _)); refine blk_far ?_ NB168_169.out _; (with_reducible repeat (first | refine blk_drewN ?_ _ | refine blk_drew ?_ | refine blk_alloc ?_ _)); refine blk_put (cs := #[.int .i64 t152, .int .i64 t153, .bool t154, .int .i64 t155, .string t156, .bool t157, .int .i64 t158, .string (⟨#[]⟩ : ByteArray)]) ?_ 7 _ rfl; (with_reducible repeat (first | refine blk_drewN ?_ _ | refine blk_drew ?_ | refine blk_alloc ?_ _)); refine blk_put (cs := #[.int .i64 t152, .int .i64 t153, .bool t154, .int .i64 t155, .string t156, .bool t157, .int .i64 0, .string (⟨#[]⟩ : ByteArray)]) ?_ 6 _ rfl; (with_reducible repeat (first | refine blk_drewN ?_ _ | refine blk_drew ?_ | refine blk_alloc ?_ _)); refine blk_put (cs := #[.int .i64 t152, .int .i64 t153, .bool t154, .int .i64 t155, .string t156, .bool false, .int .i64 0, .string (⟨#[]⟩ : ByteArray)]) ?_ 5 _ rfl; (with_reducible repeat (first | refine blk_drewN ?_ _ | refine blk_drew ?_ | refine blk_alloc ?_ _)); refine blk_put (cs := #[.int .i64 t152, .int .i64 t153, .bool t154, .int .i64 t155, .string (⟨#[]⟩ : ByteArray), .bool false, .int .i64 0, .string (⟨#[]⟩ : ByteArray)]) ?_ 4 _ rfl; (with_reducible repeat (first | refine blk_drewN ?_ _ | refine blk_drew ?_ | refine blk_alloc ?_ _)); refine blk_put (cs := #[.int .i64 t152, .int .i64 t153, .bool t154, .int .i64 0, .string (⟨#[]⟩ : ByteArray), .bool false, .int .i64 0, .string (⟨#[]⟩ : ByteArray)]) ?_ 3 _ rfl; (with_reducible repeat (first | refine blk_drewN ?_ _ | refine blk_drew ?_ | refine blk_alloc ?_ _)); refine blk_put (cs := #[.int .i64 t152, .int .i64 t153, .bool false, .int .i64 0, .string (⟨#[]⟩ : ByteArray), .bool false, .int .i64 0, .string (⟨#[]⟩ : ByteArray)]) ?_ 2 _ rfl; (with_reducible repeat (first | refine blk_drewN ?_ _ | refine blk_drew ?_ | refine blk_alloc ?_ _)); refine blk_put (cs := #[.int .i64 t152, .int .i64 0, .bool false, .int .i64 0, .string (⟨#[]⟩ : ByteArray), .bool false, .int .i64 0, .string (⟨#[]⟩ : ByteArray)]) ?_ 1 _ rfl; (with_reducible repeat (first | refine blk_drewN ?_ _ | refine blk_drew ?_ | refine blk_alloc ?_ _)); refine blk_put (cs := #[.int .i64 0, .int .i64 0, .bool false, .int .i64 0, .string (⟨#[]⟩ : ByteArray), .bool false, .int .i64 0, .string (⟨#[]⟩ : ByteArray)]) ?_ 0 _ rfl; (with_reducible repeat (first | refine blk_drewN ?_ _ | refine blk_drew ?_ | refine blk_alloc ?_ _)); exact BK168.out⟩
          have n1_ : Aside0 (((((((((((((((((w18.setCell ⟨gb168, 0, none⟩ (.int .i64 t152)).setCell ⟨gb168, 1, none⟩ (.int .i64 t153)).setCell ⟨gb168, 2, none⟩ (.bool t154)).setCell ⟨gb168, 3, none⟩ (.int .i64 t155)).setCell ⟨gb168, 4, none⟩ (.string t156)).setCell ⟨gb168, 5, none⟩ (.bool t157)).setCell ⟨gb168, 6, none⟩ (.int .i64 t158)).setCell ⟨gb168, 7, none⟩ (.string t159)).setCell ⟨gb169, 0, none⟩ (.int .i64 t160)).setCell ⟨gb169, 1, none⟩ (.int .i64 t161)).setCell ⟨gb169, 2, none⟩ (.bool t162)).setCell ⟨gb169, 3, none⟩ (.int .i64 t163)).setCell ⟨gb169, 4, none⟩ (.string t164)).setCell ⟨gb169, 5, none⟩ (.bool t165)).setCell ⟨gb169, 6, none⟩ (.int .i64 t166)).setCell ⟨gb169, 7, none⟩ (.string t167)).heap[gb169]? = some (.cells #[.int .i64 t160, .int .i64 t161, .bool t162, .int .i64 t163, .string t164, .bool t165, .int .i64 t166, .string t167] 25 (0, 0))) := ⟨by (with_reducible repeat (first | refine blk_drewN ?_ _ | refine blk_drew ?_ | refine blk_alloc ?_ _)); refine blk_put (cs := #[.int .i64 t160, .int .i64 t161, .bool t162, .int .i64 t163, .string t164, .bool t165, .int .i64 t166, .string (⟨#[]⟩ : ByteArray)]) ?_ 7 _ rfl; (with_reducible repeat (first | refine blk_drewN ?_ _ | refine blk_drew ?_ | refine blk_alloc ?_ _)); refine blk_put (cs := #[.int .i64 t160, .int .i64 t161, .bool t162, .int .i64 t163, .string t164, .bool t165, .int .i64 0, .string (⟨#[]⟩ : ByteArray)]) ?_ 6 _ rfl; (with_reducible repeat (first | refine blk_drewN ?_ _ | refine blk_drew ?_ | refine blk_alloc ?_ _)); refine blk_put (cs := #[.int .i64 t160, .int .i64 t161, .bool t162, .int .i64 t163, .string t164, .bool false, .int .i64 0, .string (⟨#[]⟩ : ByteArray)]) ?_ 5 _ rfl; (with_reducible repeat (first | refine blk_drewN ?_ _ | refine blk_drew ?_ | refine blk_alloc ?_ _)); refine blk_put (cs := #[.int .i64 t160, .int .i64 t161, .bool t162, .int .i64 t163, .string (⟨#[]⟩ : ByteArray), .bool false, .int .i64 0, .string (⟨#[]⟩ : ByteArray)]) ?_ 4 _ rfl; (with_reducible repeat (first | refine blk_drewN ?_ _ | refine blk_drew ?_ | refine blk_alloc ?_ _)); refine blk_put (cs := #[.int .i64 t160, .int .i64 t161, .bool t162, .int .i64 0, .string (⟨#[]⟩ : ByteArray), .bool false, .int .i64 0, .string (⟨#[]⟩ : ByteArray)]) ?_ 3 _ rfl; (with_reducible repeat (first | refine blk_drewN ?_ _ | refine blk_drew ?_ | refine blk_alloc ?_ _)); refine blk_put (cs := #[.int .i64 t160, .int .i64 t161, .bool false, .int .i64 0, .string (⟨#[]⟩ : ByteArray), .bool false, .int .i64 0, .string (⟨#[]⟩ : ByteArray)]) ?_ 2 _ rfl; (with_reducible repeat (first | refine blk_drewN ?_ _ | refine blk_drew ?_ | refine blk_alloc ?_ _)); refine blk_put (cs := #[.int .i64 t160, .int .i64 0, .bool false, .int .i64 0, .string (⟨#[]⟩ : ByteArray), .bool false, .int .i64 0, .string (⟨#[]⟩ : ByteArray)]) ?_ 1 _ rfl; (with_reducible repeat (first | refine blk_drewN ?_ _ | refine blk_drew ?_ | refine blk_alloc ?_ _)); refine blk_put (cs := #[.int .i64 0, .int .i64 0, .bool false, .int .i64 0, .string (⟨#[]⟩ : ByteArray), .bool false, .int .i64 0, .string (⟨#[]⟩ : ByteArray)]) ?_ 0 _ rfl; (with_reducible repeat (first | refine blk_drewN ?_ _ | refine blk_drew ?_ | refine blk_alloc ?_ _)); refine blk_far ?_ NB169_168.out _; (with_reducible repeat (first | refine blk_drewN ?_ _ | refine blk_drew ?_ | refine blk_alloc ?_ _)); refine blk_far ?_ NB169_168.out _; (with_reducible repeat (first | refine blk_drewN ?_ _ | refine blk_drew ?_ | refine blk_alloc ?_ _)); refine blk_far ?_ NB169_168.out _; (with_reducible repeat (first | refine blk_drewN ?_ _ | refine blk_drew ?_ | refine blk_alloc ?_ _)); refine blk_far ?_ NB169_168.out _; (with_reducible repeat (first | refine blk_drewN ?_ _ | refine blk_drew ?_ | refine blk_alloc ?_ _)); refine blk_far ?_ NB169_168.out _; (with_reducible repeat (first | refine blk_drewN ?_ _ | refine blk_drew ?_ | refine blk_alloc ?_ _)); refine blk_far ?_ NB169_168.out _; (with_reducible repeat (first | refine blk_drewN ?_ _ | refine blk_drew ?_ | refine blk_alloc ?_ _)); refine blk_far ?_ NB169_168.out _; (with_reducible repeat (first | refine blk_drewN ?_ _ | refine blk_drew ?_ | refine blk_alloc ?_ _)); refine blk_far ?_ NB169_168.out _; (with_reducible repeat (first | refine blk_drewN ?_ _ | refine blk_drew ?_ | refine blk_alloc ?_ _)); exact BK169.out⟩
          have n2_ : Aside0 (Below w.heap.size w ((((((((((((((((w18.setCell ⟨gb168, 0, none⟩ (.int .i64 t152)).setCell ⟨gb168, 1, none⟩ (.int .i64 t153)).setCell ⟨gb168, 2, none⟩ (.bool t154)).setCell ⟨gb168, 3, none⟩ (.int .i64 t155)).setCell ⟨gb168, 4, none⟩ (.string t156)).setCell ⟨gb168, 5, none⟩ (.bool t157)).setCell ⟨gb168, 6, none⟩ (.int .i64 t158)).setCell ⟨gb168, 7, none⟩ (.string t159)).setCell ⟨gb169, 0, none⟩ (.int .i64 t160)).setCell ⟨gb169, 1, none⟩ (.int .i64 t161)).setCell ⟨gb169, 2, none⟩ (.bool t162)).setCell ⟨gb169, 3, none⟩ (.int .i64 t163)).setCell ⟨gb169, 4, none⟩ (.string t164)).setCell ⟨gb169, 5, none⟩ (.bool t165)).setCell ⟨gb169, 6, none⟩ (.int .i64 t166)).setCell ⟨gb169, 7, none⟩ (.string t167))) := ⟨by repeat (first | (with_reducible first | exact HB.out | apply below_alloc | apply pw_below_drewN | apply below_drew1 | refine below_set ?_ GE168.out | refine below_set ?_ GE169.out) | exact HB.out)⟩
          (try clear BK168)
          (try clear BK169)
          (try clear HB)
          generalize ((((((((((((((((w18.setCell ⟨gb168, 0, none⟩ (.int .i64 t152)).setCell ⟨gb168, 1, none⟩ (.int .i64 t153)).setCell ⟨gb168, 2, none⟩ (.bool t154)).setCell ⟨gb168, 3, none⟩ (.int .i64 t155)).setCell ⟨gb168, 4, none⟩ (.string t156)).setCell ⟨gb168, 5, none⟩ (.bool t157)).setCell ⟨gb168, 6, none⟩ (.int .i64 t158)).setCell ⟨gb168, 7, none⟩ (.string t159)).setCell ⟨gb169, 0, none⟩ (.int .i64 t160)).setCell ⟨gb169, 1, none⟩ (.int .i64 t161)).setCell ⟨gb169, 2, none⟩ (.bool t162)).setCell ⟨gb169, 3, none⟩ (.int .i64 t163)).setCell ⟨gb169, 4, none⟩ (.string t164)).setCell ⟨gb169, 5, none⟩ (.bool t165)).setCell ⟨gb169, 6, none⟩ (.int .i64 t166)).setCell ⟨gb169, 7, none⟩ (.string t167)) = w22 at n0_ n1_ n2_ ⊢
          have BK168 := n0_
          have BK169 := n1_
          have HB := n2_
          clear n0_ n1_ n2_
          have n0_ := Aside0.mk (blk_drew BK168.out)
          have n1_ := Aside0.mk (blk_drew BK169.out)
          have n2_ := Aside0.mk (below_drew1 HB.out)
          clear BK168
          clear BK169
          clear HB
          have BK168 := n0_
          have BK169 := n1_
          have HB := n2_
          clear n0_ n1_ n2_
          refine start_ (n := 4) (S := fun w' => w'.cell? ⟨gb168, 0, none⟩ = some (.int .i64 t152) ∧ w'.cell? ⟨gb168, 1, none⟩ = some (.int .i64 t153) ∧ w'.cell? ⟨gb168, 2, none⟩ = some (.bool t154) ∧ w'.cell? ⟨gb168, 3, none⟩ = some (.int .i64 t155) ∧ w'.cell? ⟨gb168, 4, none⟩ = some (.string t156) ∧ w'.cell? ⟨gb168, 5, none⟩ = some (.bool t157) ∧ w'.cell? ⟨gb168, 6, none⟩ = some (.int .i64 t158) ∧ w'.cell? ⟨gb168, 7, none⟩ = some (.string t159)) (ds := []) #[false, false, false, false] (by kernel_rfl) rfl rfl ⟨(blk_cell BK168.out 0).trans rfl, (blk_cell BK168.out 1).trans rfl, (blk_cell BK168.out 2).trans rfl, (blk_cell BK168.out 3).trans rfl, (blk_cell BK168.out 4).trans rfl, (blk_cell BK168.out 5).trans rfl, (blk_cell BK168.out 6).trans rfl, (blk_cell BK168.out 7).trans rfl⟩ (fun hHeld => ?_)
          generalize w22.drew = w23 at BK168 BK169 HB hHeld ⊢
          refine pure_ (i := 1) (N := some 24) (v := ?_) (a' := ?_) #[false, true, false, false] rfl rfl (by kernel_rfl) (fun _ _ _ h => h) (Or.inl ⟨by rfl, ?_⟩) ?_ ?_
          rotate_left
          · intro w'
            go_simp
            with_reducible rfl
          rotate_left
          · simp only [Act.put, List.setIfInBounds_toArray, List.set_cons_zero, List.set_cons_succ, i64_w, i32_w]
            rfl
          refine take_ (i := 0) (N := some 23) (v := ?_) (a' := ?_) #[true, true, false, false] rfl rfl (by kernel_rfl) (fun _ _ _ h => h) (Or.inl ⟨by rfl, ?_⟩) hHeld ?_ ?_
          rotate_left
          · rintro w' ⟨s0, s1, s2, s3, s4, s5, s6, s7⟩
            go_simp
            with_reducible rfl
          rotate_left
          · simp only [Act.put, List.setIfInBounds_toArray, List.set_cons_zero, List.set_cons_succ, i64_w, i32_w]
            rfl
          refine one_ (i := 2) (N := some 25) #[true, true, true, false] rfl rfl (by kernel_rfl) (by decide) (fun K hK => ?_)
          refine goes_ Try.func58 (by kernel_rfl) rfl #[.slice A1 l1.length c1] (by rfl) rfl rfl (by (try simp only [List.map_toArray, List.map_cons, List.map_nil]); first | done | rfl | (simp only [List.length_drop, List.length_take]; rfl)) ?_
          with_reducible refine (firkinref11_Of.calls _ _ l1 t170 t171 t172 t173 t174 t175 t176 t177 _ ?side1 ?side2 A13.out).mono ?_
          (case side1 => repeat (first | exact (Kd.C_below HR1.out HB.out) | (with_reducible refine Kd.C_alloc ?_ _) | (with_reducible refine Kd.C_drewN ?_ _) | (with_reducible refine Kd.C_drew ?_)))
          (case side2 => exact HC1.out)
          rintro e w24 ⟨rfl, hb⟩
          refine ⟨_, rfl, ?_⟩
          have n0_ := Aside0.mk (blk_below (g := gb168) (o := .cells #[.int .i64 t152, .int .i64 t153, .bool t154, .int .i64 t155, .string t156, .bool t157, .int .i64 t158, .string t159] 25 (0, 0)) (by (with_reducible repeat (first | refine blk_drewN ?_ _ | refine blk_drew ?_ | refine blk_alloc ?_ _)); exact BK168.out) hb)
          have n1_ := Aside0.mk (blk_below (g := gb169) (o := .cells #[.int .i64 t160, .int .i64 t161, .bool t162, .int .i64 t163, .string t164, .bool t165, .int .i64 t166, .string t167] 25 (0, 0)) (by (with_reducible repeat (first | refine blk_drewN ?_ _ | refine blk_drew ?_ | refine blk_alloc ?_ _)); exact BK169.out) hb)
          have n2_ := Aside0.mk (below_step (by repeat (first | (with_reducible first | exact HB.out | apply below_alloc | apply pw_below_drewN | apply below_drew1 | refine below_set ?_ GE168.out | refine below_set ?_ GE169.out) | exact HB.out)) hb)
          clear BK168
          clear BK169
          clear HB
          have BK168 := n0_
          have BK169 := n1_
          have HB := n2_
          clear n0_ n1_ n2_
          (try clear hb)
          (try clear hb2)
          (try clear hk)
          (try clear hi)
          (try clear A13)
          refine hK.out _ _ ⟨(blk_cell BK168.out 0).trans rfl, (blk_cell BK168.out 1).trans rfl, (blk_cell BK168.out 2).trans rfl, (blk_cell BK168.out 3).trans rfl, (blk_cell BK168.out 4).trans rfl, (blk_cell BK168.out 5).trans rfl, (blk_cell BK168.out 6).trans rfl, (blk_cell BK168.out 7).trans rfl⟩ (fun hHeld => ?_)
          clear hK K
          refine norm_ (a' := ?_) ?_ ?_
          rotate_left
          · show Act.put _ (some 25) _ = _
            simp only [Act.put, List.setIfInBounds_toArray, List.set_cons_zero, List.set_cons_succ, i64_w, i32_w]
            rfl
          refine pure_ (i := 3) (N := some 26) (v := ?_) (a' := ?_) #[true, true, true, true] rfl rfl (by kernel_rfl) (fun _ _ _ h => h) (Or.inl ⟨by rfl, ?_⟩) ?_ ?_
          rotate_left
          · intro w'
            go_simp
            with_reducible rfl
          rotate_left
          · simp only [Act.put, List.setIfInBounds_toArray, List.set_cons_zero, List.set_cons_succ, i64_w, i32_w]
            rfl
          refine done_ (by kernel_rfl) ?_
          try go_wp2
          go_ret
          exact ⟨by first | rfl | (simp [errW_none, errW_some] <;> rfl) | (simp [*, errW_none, errW_some] <;> rfl), by repeat (first | (with_reducible first | exact HB.out | apply below_alloc | apply pw_below_drewN | apply below_drew1 | refine below_set ?_ GE168.out | refine below_set ?_ GE169.out) | exact HB.out)⟩
        · rw [if_neg c14] at H
          have c14b0 : (!(t152 == t170) || (!(t153 == t171) || ((!(t154 == t172) || (!(t155 == t173) || (!(t156.toList == t174.toList)))) || ((!(t157 == t175) || (!(t158 == t176) || (!(t159.toList == t177.toList)))))))) = false := by simpa using c14
          clear c14
          have HC25 := Aside0.mk H
          clear H
          try go_wp2_with (first | ((with_reducible refine gate_callee (f := 57) rfl ?_); refine goesL_ (some 20) rfl rfl Try.func57 (by kernel_rfl) rfl #[.slice A1 l1.length c1] rfl (by (try simp only [List.map_toArray, List.map_cons, List.map_nil]); first | done | rfl | (simp only [List.length_drop, List.length_take]; rfl)) ?_; (with_reducible refine (zone_Of.calls _ _ l1 t152 t153 t154 t155 t156 t157 t158 t159 _ ?side1 ?side2 A11.out).mono ?_); (case side1 => repeat (first | exact (Kd.C_below HR1.out HB.out) | (with_reducible refine Kd.C_alloc ?_ _) | (with_reducible refine Kd.C_drewN ?_ _) | (with_reducible refine Kd.C_drew ?_))); (case side2 => exact HC1.out); rintro e w26 ⟨rfl, hb⟩; refine ⟨_, rfl, ?_⟩; have n0_ := Aside0.mk (below_step (by repeat (first | (with_reducible first | exact HB.out | apply below_alloc | apply pw_below_drewN | apply below_drew1) | exact HB.out)) hb); clear HB; have HB := n0_; clear n0_; (try clear hb); (try clear hb2); (try clear hk); (try clear hi)) | ((with_reducible refine gate_callee (f := 57) rfl ?_); refine goesL_ (some 22) rfl rfl Try.func57 (by kernel_rfl) rfl #[.slice A2 l2.length c2] rfl (by (try simp only [List.map_toArray, List.map_cons, List.map_nil]); first | done | rfl | (simp only [List.length_drop, List.length_take]; rfl)) ?_; (with_reducible refine (zone_Of.calls _ _ l2 t160 t161 t162 t163 t164 t165 t166 t167 _ ?side1 ?side2 A12.out).mono ?_); (case side1 => repeat (first | exact (Kd.C_below HR2.out HB.out) | (with_reducible refine Kd.C_alloc ?_ _) | (with_reducible refine Kd.C_drewN ?_ _) | (with_reducible refine Kd.C_drew ?_))); (case side2 => exact HC2.out); rintro e w27 ⟨rfl, hb⟩; refine ⟨_, rfl, ?_⟩; have n0_ := Aside0.mk (below_step (by repeat (first | (with_reducible first | exact HB.out | apply below_alloc | apply pw_below_drewN | apply below_drew1) | exact HB.out)) hb); clear HB; have HB := n0_; clear n0_; (try clear hb); (try clear hb2); (try clear hk); (try clear hi)) | ((with_reducible refine gate_dst (N := 7) rfl ?_); (try (refine gate_guard (by rfl) ?_; dsimp only)); refine box_event ?hg (N := 7) ?hd (cs := #[.int .i64 0, .int .i64 0, .bool false, .int .i64 0, .string (⟨#[]⟩ : ByteArray), .bool false, .int .i64 0, .string (⟨#[]⟩ : ByteArray)]) (t := 25) ?hr ?_; (case hd => rfl); (case hg => rfl); (case hr => first | (go_simp; done) | (go_simp; rfl)); intro gb168 hg w28 hbox hb; have n0_ := Aside0.mk (below_step (by repeat (first | (with_reducible first | exact HB.out | apply below_alloc | apply pw_below_drewN | apply below_drew1) | exact HB.out)) hb); have n1_ := Aside0.mk (hbox); have n2_ := Aside0.mk ((by rw [hg]; exact (below_size (by repeat (first | (with_reducible first | exact HB.out | apply below_alloc | apply pw_below_drewN | apply below_drew1) | exact HB.out))) : w.heap.size ≤ gb168)); have n3_ := Aside0.mk ((by rw [hg]; exact (below_size (by repeat (first | (with_reducible first | exact HB.out | apply below_alloc | apply pw_below_drewN | apply below_drew1) | exact HB.out))) : w.heap.size ≤ gb168)); clear HB; have HB := n0_; have BK168 := n1_; have GW168 := n2_; have GE168 := n3_; clear n0_ n1_ n2_ n3_; clear hb hbox hg) | ((with_reducible refine gate_dst (N := 8) rfl ?_); (try (refine gate_guard (by rfl) ?_; dsimp only)); refine box_event ?hg (N := 8) ?hd (cs := #[.int .i64 0, .int .i64 0, .bool false, .int .i64 0, .string (⟨#[]⟩ : ByteArray), .bool false, .int .i64 0, .string (⟨#[]⟩ : ByteArray)]) (t := 25) ?hr ?_; (case hd => rfl); (case hg => rfl); (case hr => first | (go_simp; done) | (go_simp; rfl)); intro gb169 hg w29 hbox hb; have n0_ := Aside0.mk (blk_below (g := gb168) (o := .cells #[.int .i64 0, .int .i64 0, .bool false, .int .i64 0, .string (⟨#[]⟩ : ByteArray), .bool false, .int .i64 0, .string (⟨#[]⟩ : ByteArray)] 25 (0, 0)) (by (with_reducible repeat (first | refine blk_drewN ?_ _ | refine blk_drew ?_ | refine blk_alloc ?_ _)); exact BK168.out) hb); have n1_ := Aside0.mk (below_step (by repeat (first | (with_reducible first | exact HB.out | apply below_alloc | apply pw_below_drewN | apply below_drew1 | refine below_set ?_ GE168.out) | exact HB.out)) hb); have n2_ := Aside0.mk (hbox); have n3_ := Aside0.mk ((by rw [hg]; exact (below_size (by repeat (first | (with_reducible first | exact HB.out | apply below_alloc | apply pw_below_drewN | apply below_drew1 | refine below_set ?_ GE168.out) | exact HB.out))) : w.heap.size ≤ gb169)); have n4_ := Aside0.mk ((by rw [hg]; exact (below_size (by repeat (first | (with_reducible first | exact HB.out | apply below_alloc | apply pw_below_drewN | apply below_drew1 | refine below_set ?_ GE168.out) | exact HB.out))) : w.heap.size ≤ gb169)); have n5_ := Aside0.mk ((by rw [hg]; exact Nat.ne_of_lt (blk_lt (g := gb168) (o := .cells #[.int .i64 0, .int .i64 0, .bool false, .int .i64 0, .string (⟨#[]⟩ : ByteArray), .bool false, .int .i64 0, .string (⟨#[]⟩ : ByteArray)] 25 (0, 0)) (by (with_reducible repeat (first | refine blk_drewN ?_ _ | refine blk_drew ?_ | refine blk_alloc ?_ _)); exact BK168.out)) : gb168 ≠ gb169)); have n6_ := Aside0.mk ((by rw [hg]; exact Nat.ne_of_gt (blk_lt (g := gb168) (o := .cells #[.int .i64 0, .int .i64 0, .bool false, .int .i64 0, .string (⟨#[]⟩ : ByteArray), .bool false, .int .i64 0, .string (⟨#[]⟩ : ByteArray)] 25 (0, 0)) (by (with_reducible repeat (first | refine blk_drewN ?_ _ | refine blk_drew ?_ | refine blk_alloc ?_ _)); exact BK168.out)) : gb169 ≠ gb168)); clear BK168; clear HB; have BK168 := n0_; have HB := n1_; have BK169 := n2_; have GW169 := n3_; have GE169 := n4_; have NB168_169 := n5_; have NB169_168 := n6_; clear n0_ n1_ n2_ n3_ n4_ n5_ n6_; clear hb hbox hg; have hnb30 := NB168_169.out; have hnc30 := NB169_168.out; have hcz31_0 : w29.cell? ⟨gb168, 0, none⟩ = some (.int .i64 0) := (blk_cell BK168.out 0).trans rfl; have hcz31_1 : w29.cell? ⟨gb168, 1, none⟩ = some (.int .i64 0) := (blk_cell BK168.out 1).trans rfl; have hcz31_2 : w29.cell? ⟨gb168, 2, none⟩ = some (.bool false) := (blk_cell BK168.out 2).trans rfl; have hcz31_3 : w29.cell? ⟨gb168, 3, none⟩ = some (.int .i64 0) := (blk_cell BK168.out 3).trans rfl; have hcz31_4 : w29.cell? ⟨gb168, 4, none⟩ = some (.string (⟨#[]⟩ : ByteArray)) := (blk_cell BK168.out 4).trans rfl; have hcz31_5 : w29.cell? ⟨gb168, 5, none⟩ = some (.bool false) := (blk_cell BK168.out 5).trans rfl; have hcz31_6 : w29.cell? ⟨gb168, 6, none⟩ = some (.int .i64 0) := (blk_cell BK168.out 6).trans rfl; have hcz31_7 : w29.cell? ⟨gb168, 7, none⟩ = some (.string (⟨#[]⟩ : ByteArray)) := (blk_cell BK168.out 7).trans rfl; have hfz31_0 := blk_frozen BK168.out 0; have hfz31_1 := blk_frozen BK168.out 1; have hfz31_2 := blk_frozen BK168.out 2; have hfz31_3 := blk_frozen BK168.out 3; have hfz31_4 := blk_frozen BK168.out 4; have hfz31_5 := blk_frozen BK168.out 5; have hfz31_6 := blk_frozen BK168.out 6; have hfz31_7 := blk_frozen BK168.out 7; have hcz32_0 : w29.cell? ⟨gb169, 0, none⟩ = some (.int .i64 0) := (blk_cell BK169.out 0).trans rfl; have hcz32_1 : w29.cell? ⟨gb169, 1, none⟩ = some (.int .i64 0) := (blk_cell BK169.out 1).trans rfl; have hcz32_2 : w29.cell? ⟨gb169, 2, none⟩ = some (.bool false) := (blk_cell BK169.out 2).trans rfl; have hcz32_3 : w29.cell? ⟨gb169, 3, none⟩ = some (.int .i64 0) := (blk_cell BK169.out 3).trans rfl; have hcz32_4 : w29.cell? ⟨gb169, 4, none⟩ = some (.string (⟨#[]⟩ : ByteArray)) := (blk_cell BK169.out 4).trans rfl; have hcz32_5 : w29.cell? ⟨gb169, 5, none⟩ = some (.bool false) := (blk_cell BK169.out 5).trans rfl; have hcz32_6 : w29.cell? ⟨gb169, 6, none⟩ = some (.int .i64 0) := (blk_cell BK169.out 6).trans rfl; have hcz32_7 : w29.cell? ⟨gb169, 7, none⟩ = some (.string (⟨#[]⟩ : ByteArray)) := (blk_cell BK169.out 7).trans rfl; have hfz32_0 := blk_frozen BK169.out 0; have hfz32_1 := blk_frozen BK169.out 1; have hfz32_2 := blk_frozen BK169.out 2; have hfz32_3 := blk_frozen BK169.out 3; have hfz32_4 := blk_frozen BK169.out 4; have hfz32_5 := blk_frozen BK169.out 5; have hfz32_6 := blk_frozen BK169.out 6; have hfz32_7 := blk_frozen BK169.out 7))
          have n0_ : Aside0 (((((((((((((((((w29.setCell ⟨gb168, 0, none⟩ (.int .i64 t152)).setCell ⟨gb168, 1, none⟩ (.int .i64 t153)).setCell ⟨gb168, 2, none⟩ (.bool t154)).setCell ⟨gb168, 3, none⟩ (.int .i64 t155)).setCell ⟨gb168, 4, none⟩ (.string t156)).setCell ⟨gb168, 5, none⟩ (.bool t157)).setCell ⟨gb168, 6, none⟩ (.int .i64 t158)).setCell ⟨gb168, 7, none⟩ (.string t159)).setCell ⟨gb169, 0, none⟩ (.int .i64 t160)).setCell ⟨gb169, 1, none⟩ (.int .i64 t161)).setCell ⟨gb169, 2, none⟩ (.bool t162)).setCell ⟨gb169, 3, none⟩ (.int .i64 t163)).setCell ⟨gb169, 4, none⟩ (.string t164)).setCell ⟨gb169, 5, none⟩ (.bool t165)).setCell ⟨gb169, 6, none⟩ (.int .i64 t166)).setCell ⟨gb169, 7, none⟩ (.string t167)).heap[gb168]? = some (.cells #[.int .i64 t152, .int .i64 t153, .bool t154, .int .i64 t155, .string t156, .bool t157, .int .i64 t158, .string t159] 25 (0, 0))) := ⟨by (with_reducible repeat (first | refine blk_drewN ?_ _ | refine blk_drew ?_ | refine blk_alloc ?_ _)); refine blk_far ?_ NB168_169.out _; (with_reducible repeat (first | refine blk_drewN ?_ _ | refine blk_drew ?_ | refine blk_alloc ?_ _)); refine blk_far ?_ NB168_169.out _; (with_reducible repeat (first | refine blk_drewN ?_ _ | refine blk_drew ?_ | refine blk_alloc ?_ _)); refine blk_far ?_ NB168_169.out _; (with_reducible repeat (first | refine blk_drewN ?_ _ | refine blk_drew ?_ | refine blk_alloc ?_ _)); refine blk_far ?_ NB168_169.out _; (with_reducible repeat (first | refine blk_drewN ?_ _ | refine blk_drew ?_ | refine blk_alloc ?_ _)); refine blk_far ?_ NB168_169.out _; (with_reducible repeat (first | refine blk_drewN ?_ _ | refine blk_drew ?_ | refine blk_alloc ?_ _)); refine blk_far ?_ NB168_169.out _; (with_reducible repeat (first | refine blk_drewN ?_ _ | refine blk_drew ?_ | refine blk_alloc ?_ _)); refine blk_far ?_ NB168_169.out _; (with_reducible repeat (first | refine blk_drewN ?_ _ | refine blk_drew ?_ | refine blk_alloc ?_ _)); refine blk_far ?_ NB168_169.out _; (with_reducible repeat (first | refine blk_drewN ?_ _ | refine blk_drew ?_ | refine blk_alloc ?_ _)); refine blk_put (cs := #[.int .i64 t152, .int .i64 t153, .bool t154, .int .i64 t155, .string t156, .bool t157, .int .i64 t158, .string (⟨#[]⟩ : ByteArray)]) ?_ 7 _ rfl; (with_reducible repeat (first | refine blk_drewN ?_ _ | refine blk_drew ?_ | refine blk_alloc ?_ _)); refine blk_put (cs := #[.int .i64 t152, .int .i64 t153, .bool t154, .int .i64 t155, .string t156, .bool t157, .int .i64 0, .string (⟨#[]⟩ : ByteArray)]) ?_ 6 _ rfl; (with_reducible repeat (first | refine blk_drewN ?_ _ | refine blk_drew ?_ | refine blk_alloc ?_ _)); refine blk_put (cs := #[.int .i64 t152, .int .i64 t153, .bool t154, .int .i64 t155, .string t156, .bool false, .int .i64 0, .string (⟨#[]⟩ : ByteArray)]) ?_ 5 _ rfl; (with_reducible repeat (first | refine blk_drewN ?_ _ | refine blk_drew ?_ | refine blk_alloc ?_ _)); refine blk_put (cs := #[.int .i64 t152, .int .i64 t153, .bool t154, .int .i64 t155, .string (⟨#[]⟩ : ByteArray), .bool false, .int .i64 0, .string (⟨#[]⟩ : ByteArray)]) ?_ 4 _ rfl; (with_reducible repeat (first | refine blk_drewN ?_ _ | refine blk_drew ?_ | refine blk_alloc ?_ _)); refine blk_put (cs := #[.int .i64 t152, .int .i64 t153, .bool t154, .int .i64 0, .string (⟨#[]⟩ : ByteArray), .bool false, .int .i64 0, .string (⟨#[]⟩ : ByteArray)]) ?_ 3 _ rfl; (with_reducible repeat (first | refine blk_drewN ?_ _ | refine blk_drew ?_ | refine blk_alloc ?_ _)); refine blk_put (cs := #[.int .i64 t152, .int .i64 t153, .bool false, .int .i64 0, .string (⟨#[]⟩ : ByteArray), .bool false, .int .i64 0, .string (⟨#[]⟩ : ByteArray)]) ?_ 2 _ rfl; (with_reducible repeat (first | refine blk_drewN ?_ _ | refine blk_drew ?_ | refine blk_alloc ?_ _)); refine blk_put (cs := #[.int .i64 t152, .int .i64 0, .bool false, .int .i64 0, .string (⟨#[]⟩ : ByteArray), .bool false, .int .i64 0, .string (⟨#[]⟩ : ByteArray)]) ?_ 1 _ rfl; (with_reducible repeat (first | refine blk_drewN ?_ _ | refine blk_drew ?_ | refine blk_alloc ?_ _)); refine blk_put (cs := #[.int .i64 0, .int .i64 0, .bool false, .int .i64 0, .string (⟨#[]⟩ : ByteArray), .bool false, .int .i64 0, .string (⟨#[]⟩ : ByteArray)]) ?_ 0 _ rfl; (with_reducible repeat (first | refine blk_drewN ?_ _ | refine blk_drew ?_ | refine blk_alloc ?_ _)); exact BK168.out⟩
          have n1_ : Aside0 (((((((((((((((((w29.setCell ⟨gb168, 0, none⟩ (.int .i64 t152)).setCell ⟨gb168, 1, none⟩ (.int .i64 t153)).setCell ⟨gb168, 2, none⟩ (.bool t154)).setCell ⟨gb168, 3, none⟩ (.int .i64 t155)).setCell ⟨gb168, 4, none⟩ (.string t156)).setCell ⟨gb168, 5, none⟩ (.bool t157)).setCell ⟨gb168, 6, none⟩ (.int .i64 t158)).setCell ⟨gb168, 7, none⟩ (.string t159)).setCell ⟨gb169, 0, none⟩ (.int .i64 t160)).setCell ⟨gb169, 1, none⟩ (.int .i64 t161)).setCell ⟨gb169, 2, none⟩ (.bool t162)).setCell ⟨gb169, 3, none⟩ (.int .i64 t163)).setCell ⟨gb169, 4, none⟩ (.string t164)).setCell ⟨gb169, 5, none⟩ (.bool t165)).setCell ⟨gb169, 6, none⟩ (.int .i64 t166)).setCell ⟨gb169, 7, none⟩ (.string t167)).heap[gb169]? = some (.cells #[.int .i64 t160, .int .i64 t161, .bool t162, .int .i64 t163, .string t164, .bool t165, .int .i64 t166, .string t167] 25 (0, 0))) := ⟨by (with_reducible repeat (first | refine blk_drewN ?_ _ | refine blk_drew ?_ | refine blk_alloc ?_ _)); refine blk_put (cs := #[.int .i64 t160, .int .i64 t161, .bool t162, .int .i64 t163, .string t164, .bool t165, .int .i64 t166, .string (⟨#[]⟩ : ByteArray)]) ?_ 7 _ rfl; (with_reducible repeat (first | refine blk_drewN ?_ _ | refine blk_drew ?_ | refine blk_alloc ?_ _)); refine blk_put (cs := #[.int .i64 t160, .int .i64 t161, .bool t162, .int .i64 t163, .string t164, .bool t165, .int .i64 0, .string (⟨#[]⟩ : ByteArray)]) ?_ 6 _ rfl; (with_reducible repeat (first | refine blk_drewN ?_ _ | refine blk_drew ?_ | refine blk_alloc ?_ _)); refine blk_put (cs := #[.int .i64 t160, .int .i64 t161, .bool t162, .int .i64 t163, .string t164, .bool false, .int .i64 0, .string (⟨#[]⟩ : ByteArray)]) ?_ 5 _ rfl; (with_reducible repeat (first | refine blk_drewN ?_ _ | refine blk_drew ?_ | refine blk_alloc ?_ _)); refine blk_put (cs := #[.int .i64 t160, .int .i64 t161, .bool t162, .int .i64 t163, .string (⟨#[]⟩ : ByteArray), .bool false, .int .i64 0, .string (⟨#[]⟩ : ByteArray)]) ?_ 4 _ rfl; (with_reducible repeat (first | refine blk_drewN ?_ _ | refine blk_drew ?_ | refine blk_alloc ?_ _)); refine blk_put (cs := #[.int .i64 t160, .int .i64 t161, .bool t162, .int .i64 0, .string (⟨#[]⟩ : ByteArray), .bool false, .int .i64 0, .string (⟨#[]⟩ : ByteArray)]) ?_ 3 _ rfl; (with_reducible repeat (first | refine blk_drewN ?_ _ | refine blk_drew ?_ | refine blk_alloc ?_ _)); refine blk_put (cs := #[.int .i64 t160, .int .i64 t161, .bool false, .int .i64 0, .string (⟨#[]⟩ : ByteArray), .bool false, .int .i64 0, .string (⟨#[]⟩ : ByteArray)]) ?_ 2 _ rfl; (with_reducible repeat (first | refine blk_drewN ?_ _ | refine blk_drew ?_ | refine blk_alloc ?_ _)); refine blk_put (cs := #[.int .i64 t160, .int .i64 0, .bool false, .int .i64 0, .string (⟨#[]⟩ : ByteArray), .bool false, .int .i64 0, .string (⟨#[]⟩ : ByteArray)]) ?_ 1 _ rfl; (with_reducible repeat (first | refine blk_drewN ?_ _ | refine blk_drew ?_ | refine blk_alloc ?_ _)); refine blk_put (cs := #[.int .i64 0, .int .i64 0, .bool false, .int .i64 0, .string (⟨#[]⟩ : ByteArray), .bool false, .int .i64 0, .string (⟨#[]⟩ : ByteArray)]) ?_ 0 _ rfl; (with_reducible repeat (first | refine blk_drewN ?_ _ | refine blk_drew ?_ | refine blk_alloc ?_ _)); refine blk_far ?_ NB169_168.out _; (with_reducible repeat (first | refine blk_drewN ?_ _ | refine blk_drew ?_ | refine blk_alloc ?_ _)); refine blk_far ?_ NB169_168.out _; (with_reducible repeat (first | refine blk_drewN ?_ _ | refine blk_drew ?_ | refine blk_alloc ?_ _)); refine blk_far ?_ NB169_168.out _; (with_reducible repeat (first | refine blk_drewN ?_ _ | refine blk_drew ?_ | refine blk_alloc ?_ _)); refine blk_far ?_ NB169_168.out _; (with_reducible repeat (first | refine blk_drewN ?_ _ | refine blk_drew ?_ | refine blk_alloc ?_ _)); refine blk_far ?_ NB169_168.out _; (with_reducible repeat (first | refine blk_drewN ?_ _ | refine blk_drew ?_ | refine blk_alloc ?_ _)); refine blk_far ?_ NB169_168.out _; (with_reducible repeat (first | refine blk_drewN ?_ _ | refine blk_drew ?_ | refine blk_alloc ?_ _)); refine blk_far ?_ NB169_168.out _; (with_reducible repeat (first | refine blk_drewN ?_ _ | refine blk_drew ?_ | refine blk_alloc ?_ _)); refine blk_far ?_ NB169_168.out _; (with_reducible repeat (first | refine blk_drewN ?_ _ | refine blk_drew ?_ | refine blk_alloc ?_ _)); exact BK169.out⟩
          have n2_ : Aside0 (Below w.heap.size w ((((((((((((((((w29.setCell ⟨gb168, 0, none⟩ (.int .i64 t152)).setCell ⟨gb168, 1, none⟩ (.int .i64 t153)).setCell ⟨gb168, 2, none⟩ (.bool t154)).setCell ⟨gb168, 3, none⟩ (.int .i64 t155)).setCell ⟨gb168, 4, none⟩ (.string t156)).setCell ⟨gb168, 5, none⟩ (.bool t157)).setCell ⟨gb168, 6, none⟩ (.int .i64 t158)).setCell ⟨gb168, 7, none⟩ (.string t159)).setCell ⟨gb169, 0, none⟩ (.int .i64 t160)).setCell ⟨gb169, 1, none⟩ (.int .i64 t161)).setCell ⟨gb169, 2, none⟩ (.bool t162)).setCell ⟨gb169, 3, none⟩ (.int .i64 t163)).setCell ⟨gb169, 4, none⟩ (.string t164)).setCell ⟨gb169, 5, none⟩ (.bool t165)).setCell ⟨gb169, 6, none⟩ (.int .i64 t166)).setCell ⟨gb169, 7, none⟩ (.string t167))) := ⟨by repeat (first | (with_reducible first | exact HB.out | apply below_alloc | apply pw_below_drewN | apply below_drew1 | refine below_set ?_ GE168.out | refine below_set ?_ GE169.out) | exact HB.out)⟩
          (try clear BK168)
          (try clear BK169)
          (try clear HB)
          generalize ((((((((((((((((w29.setCell ⟨gb168, 0, none⟩ (.int .i64 t152)).setCell ⟨gb168, 1, none⟩ (.int .i64 t153)).setCell ⟨gb168, 2, none⟩ (.bool t154)).setCell ⟨gb168, 3, none⟩ (.int .i64 t155)).setCell ⟨gb168, 4, none⟩ (.string t156)).setCell ⟨gb168, 5, none⟩ (.bool t157)).setCell ⟨gb168, 6, none⟩ (.int .i64 t158)).setCell ⟨gb168, 7, none⟩ (.string t159)).setCell ⟨gb169, 0, none⟩ (.int .i64 t160)).setCell ⟨gb169, 1, none⟩ (.int .i64 t161)).setCell ⟨gb169, 2, none⟩ (.bool t162)).setCell ⟨gb169, 3, none⟩ (.int .i64 t163)).setCell ⟨gb169, 4, none⟩ (.string t164)).setCell ⟨gb169, 5, none⟩ (.bool t165)).setCell ⟨gb169, 6, none⟩ (.int .i64 t166)).setCell ⟨gb169, 7, none⟩ (.string t167)) = w33 at n0_ n1_ n2_ ⊢
          have BK168 := n0_
          have BK169 := n1_
          have HB := n2_
          clear n0_ n1_ n2_
          have n0_ := Aside0.mk (blk_drew BK168.out)
          have n1_ := Aside0.mk (blk_drew BK169.out)
          have n2_ := Aside0.mk (below_drew1 HB.out)
          clear BK168
          clear BK169
          clear HB
          have BK168 := n0_
          have BK169 := n1_
          have HB := n2_
          clear n0_ n1_ n2_
          refine start_ (n := 4) (S := fun w' => w'.cell? ⟨gb168, 0, none⟩ = some (.int .i64 t152) ∧ w'.cell? ⟨gb168, 1, none⟩ = some (.int .i64 t153) ∧ w'.cell? ⟨gb168, 2, none⟩ = some (.bool t154) ∧ w'.cell? ⟨gb168, 3, none⟩ = some (.int .i64 t155) ∧ w'.cell? ⟨gb168, 4, none⟩ = some (.string t156) ∧ w'.cell? ⟨gb168, 5, none⟩ = some (.bool t157) ∧ w'.cell? ⟨gb168, 6, none⟩ = some (.int .i64 t158) ∧ w'.cell? ⟨gb168, 7, none⟩ = some (.string t159)) (ds := []) #[false, false, false, false] (by kernel_rfl) rfl rfl ⟨(blk_cell BK168.out 0).trans rfl, (blk_cell BK168.out 1).trans rfl, (blk_cell BK168.out 2).trans rfl, (blk_cell BK168.out 3).trans rfl, (blk_cell BK168.out 4).trans rfl, (blk_cell BK168.out 5).trans rfl, (blk_cell BK168.out 6).trans rfl, (blk_cell BK168.out 7).trans rfl⟩ (fun hHeld => ?_)
          generalize w33.drew = w34 at BK168 BK169 HB hHeld ⊢
          refine pure_ (i := 1) (N := some 24) (v := ?_) (a' := ?_) #[false, true, false, false] rfl rfl (by kernel_rfl) (fun _ _ _ h => h) (Or.inl ⟨by rfl, ?_⟩) ?_ ?_
          rotate_left
          · intro w'
            go_simp
            with_reducible rfl
          rotate_left
          · simp only [Act.put, List.setIfInBounds_toArray, List.set_cons_zero, List.set_cons_succ, i64_w, i32_w]
            rfl
          refine take_ (i := 0) (N := some 23) (v := ?_) (a' := ?_) #[true, true, false, false] rfl rfl (by kernel_rfl) (fun _ _ _ h => h) (Or.inl ⟨by rfl, ?_⟩) hHeld ?_ ?_
          rotate_left
          · rintro w' ⟨s0, s1, s2, s3, s4, s5, s6, s7⟩
            go_simp
            with_reducible rfl
          rotate_left
          · simp only [Act.put, List.setIfInBounds_toArray, List.set_cons_zero, List.set_cons_succ, i64_w, i32_w]
            rfl
          refine one_ (i := 2) (N := some 25) #[true, true, true, false] rfl rfl (by kernel_rfl) (by decide) (fun K hK => ?_)
          refine goes_ Try.func58 (by kernel_rfl) rfl #[.slice A1 l1.length c1] (by rfl) rfl rfl (by (try simp only [List.map_toArray, List.map_cons, List.map_nil]); first | done | rfl | (simp only [List.length_drop, List.length_take]; rfl)) ?_
          with_reducible refine (firkinref11_Of.calls _ _ l1 t170 t171 t172 t173 t174 t175 t176 t177 _ ?side1 ?side2 A13.out).mono ?_
          (case side1 => repeat (first | exact (Kd.C_below HR1.out HB.out) | (with_reducible refine Kd.C_alloc ?_ _) | (with_reducible refine Kd.C_drewN ?_ _) | (with_reducible refine Kd.C_drew ?_)))
          (case side2 => exact HC1.out)
          rintro e w35 ⟨rfl, hb⟩
          refine ⟨_, rfl, ?_⟩
          have n0_ := Aside0.mk (blk_below (g := gb168) (o := .cells #[.int .i64 t152, .int .i64 t153, .bool t154, .int .i64 t155, .string t156, .bool t157, .int .i64 t158, .string t159] 25 (0, 0)) (by (with_reducible repeat (first | refine blk_drewN ?_ _ | refine blk_drew ?_ | refine blk_alloc ?_ _)); exact BK168.out) hb)
          have n1_ := Aside0.mk (blk_below (g := gb169) (o := .cells #[.int .i64 t160, .int .i64 t161, .bool t162, .int .i64 t163, .string t164, .bool t165, .int .i64 t166, .string t167] 25 (0, 0)) (by (with_reducible repeat (first | refine blk_drewN ?_ _ | refine blk_drew ?_ | refine blk_alloc ?_ _)); exact BK169.out) hb)
          have n2_ := Aside0.mk (below_step (by repeat (first | (with_reducible first | exact HB.out | apply below_alloc | apply pw_below_drewN | apply below_drew1 | refine below_set ?_ GE168.out | refine below_set ?_ GE169.out) | exact HB.out)) hb)
          clear BK168
          clear BK169
          clear HB
          have BK168 := n0_
          have BK169 := n1_
          have HB := n2_
          clear n0_ n1_ n2_
          (try clear hb)
          (try clear hb2)
          (try clear hk)
          (try clear hi)
          (try clear A13)
          refine hK.out _ _ ⟨(blk_cell BK168.out 0).trans rfl, (blk_cell BK168.out 1).trans rfl, (blk_cell BK168.out 2).trans rfl, (blk_cell BK168.out 3).trans rfl, (blk_cell BK168.out 4).trans rfl, (blk_cell BK168.out 5).trans rfl, (blk_cell BK168.out 6).trans rfl, (blk_cell BK168.out 7).trans rfl⟩ (fun hHeld => ?_)
          clear hK K
          refine norm_ (a' := ?_) ?_ ?_
          rotate_left
          · show Act.put _ (some 25) _ = _
            simp only [Act.put, List.setIfInBounds_toArray, List.set_cons_zero, List.set_cons_succ, i64_w, i32_w]
            rfl
          refine pure_ (i := 3) (N := some 26) (v := ?_) (a' := ?_) #[true, true, true, true] rfl rfl (by kernel_rfl) (fun _ _ _ h => h) (Or.inl ⟨by rfl, ?_⟩) ?_ ?_
          rotate_left
          · intro w'
            go_simp
            with_reducible rfl
          rotate_left
          · simp only [Act.put, List.setIfInBounds_toArray, List.set_cons_zero, List.set_cons_succ, i64_w, i32_w]
            rfl
          refine done_ (by kernel_rfl) ?_
          go_upto_region 6 with (fail)
          go_cut [44] (fun v44 wc => ∃ (kq : Nat) (x44_24 : Bool), v44 = .bool x44_24 ∧ Aside0 (firkinlaw11_ZoneOf.j1 kq a0 l1 l2 x44_24 t152 t153 t154 t155 t156 t157 t158 t159 t160 t161 t162 t163 t164 t165 t166 t167 = some r) ∧ Aside0 (kq ≤ kj3) ∧ Aside0 (wc.heap[gb168]? = some (.cells #[.int .i64 t152, .int .i64 t153, .bool t154, .int .i64 t155, .string t156, .bool t157, .int .i64 t158, .string t159] 25 (0, 0))) ∧ Aside0 (wc.heap[gb169]? = some (.cells #[.int .i64 t160, .int .i64 t161, .bool t162, .int .i64 t163, .string t164, .bool t165, .int .i64 t166, .string t167] 25 (0, 0))) ∧ Aside0 (Below w.heap.size w wc))
          case first =>
            have H := HC25.out
            clear HC25
            replace H := Option.bind_eq_some_iff.mp H
            obtain ⟨t178, A360, H⟩ := H
            replace H : (if t178 = true then ((firkinlaw11_may.f kj3 a0 l2).bind fun t179 => (if t179 = true then (if a0 < 1 then (firkinlaw11_ZoneOf.j1 kj3 a0 l1 l2 true t152 t153 t154 t155 t156 t157 t158 t159 t160 t161 t162 t163 t164 t165 t166 t167) else (firkinlaw11_ZoneOf.j1 kj3 a0 l1 l2 (decide (a0 > 3)) t152 t153 t154 t155 t156 t157 t158 t159 t160 t161 t162 t163 t164 t165 t166 t167)) else (firkinlaw11_ZoneOf.j1 kj3 a0 l1 l2 true t152 t153 t154 t155 t156 t157 t158 t159 t160 t161 t162 t163 t164 t165 t166 t167))) else (firkinlaw11_ZoneOf.j1 kj3 a0 l1 l2 true t152 t153 t154 t155 t156 t157 t158 t159 t160 t161 t162 t163 t164 t165 t166 t167)) = some r := H
            have A36 := Aside0.mk A360
            clear A360
            by_cases c37 : t178 = true
            · subst c37
              have H1 : ((firkinlaw11_may.f kj3 a0 l2).bind fun t179 => (if t179 = true then (if a0 < 1 then (firkinlaw11_ZoneOf.j1 kj3 a0 l1 l2 true t152 t153 t154 t155 t156 t157 t158 t159 t160 t161 t162 t163 t164 t165 t166 t167) else (firkinlaw11_ZoneOf.j1 kj3 a0 l1 l2 (decide (a0 > 3)) t152 t153 t154 t155 t156 t157 t158 t159 t160 t161 t162 t163 t164 t165 t166 t167)) else (firkinlaw11_ZoneOf.j1 kj3 a0 l1 l2 true t152 t153 t154 t155 t156 t157 t158 t159 t160 t161 t162 t163 t164 t165 t166 t167))) = some r := by rw [if_pos rfl] at H; exact H
              clear H
              have H := H1
              clear H1
              replace H := Option.bind_eq_some_iff.mp H
              obtain ⟨t179, A380, H⟩ := H
              replace H : (if t179 = true then (if a0 < 1 then (firkinlaw11_ZoneOf.j1 kj3 a0 l1 l2 true t152 t153 t154 t155 t156 t157 t158 t159 t160 t161 t162 t163 t164 t165 t166 t167) else (firkinlaw11_ZoneOf.j1 kj3 a0 l1 l2 (decide (a0 > 3)) t152 t153 t154 t155 t156 t157 t158 t159 t160 t161 t162 t163 t164 t165 t166 t167)) else (firkinlaw11_ZoneOf.j1 kj3 a0 l1 l2 true t152 t153 t154 t155 t156 t157 t158 t159 t160 t161 t162 t163 t164 t165 t166 t167)) = some r := H
              have A38 := Aside0.mk A380
              clear A380
              by_cases c39 : t179 = true
              · subst c39
                have H1 : (if a0 < 1 then (firkinlaw11_ZoneOf.j1 kj3 a0 l1 l2 true t152 t153 t154 t155 t156 t157 t158 t159 t160 t161 t162 t163 t164 t165 t166 t167) else (firkinlaw11_ZoneOf.j1 kj3 a0 l1 l2 (decide (a0 > 3)) t152 t153 t154 t155 t156 t157 t158 t159 t160 t161 t162 t163 t164 t165 t166 t167)) = some r := by rw [if_pos rfl] at H; exact H
                clear H
                have H := H1
                clear H1
                by_cases c40 : a0 < 1
                · rw [if_pos c40] at H
                  have c40b0 : decide (a0 < 1) = true := decide_eq_true c40
                  clear c40
                  (first | rw [c40b0] | (simp only [i64_w, i32_w]; rw [c40b0]) | skip)
                  have H' := Aside0.mk H
                  clear H
                  go_wp2_with (first | ((with_reducible refine gate_callee (f := 59) rfl ?_); refine goesL_ (some 29) rfl rfl Try.func59 (by kernel_rfl) rfl #[.int .i64 a0, .slice A1 l1.length c1] rfl (by (try simp only [List.map_toArray, List.map_cons, List.map_nil]); first | done | rfl | (simp only [List.length_drop, List.length_take]; rfl)) ?_; (with_reducible refine (firkinlaw11_may.calls kj3 a0 _ _ l1 true _ ?side1 ?side2 A36.out).mono ?_); (case side1 => repeat (first | exact (Kd.C_below HR1.out HB.out) | (with_reducible refine Kd.C_alloc ?_ _) | (with_reducible refine Kd.C_drewN ?_ _) | (with_reducible refine Kd.C_drew ?_))); (case side2 => exact HC1.out); rintro e w41 ⟨rfl, hb⟩; refine ⟨_, rfl, ?_⟩; have n0_ := Aside0.mk (blk_below (g := gb168) (o := .cells #[.int .i64 t152, .int .i64 t153, .bool t154, .int .i64 t155, .string t156, .bool t157, .int .i64 t158, .string t159] 25 (0, 0)) (by (with_reducible repeat (first | refine blk_drewN ?_ _ | refine blk_drew ?_ | refine blk_alloc ?_ _)); exact BK168.out) hb); have n1_ := Aside0.mk (blk_below (g := gb169) (o := .cells #[.int .i64 t160, .int .i64 t161, .bool t162, .int .i64 t163, .string t164, .bool t165, .int .i64 t166, .string t167] 25 (0, 0)) (by (with_reducible repeat (first | refine blk_drewN ?_ _ | refine blk_drew ?_ | refine blk_alloc ?_ _)); exact BK169.out) hb); have n2_ := Aside0.mk (below_step (by repeat (first | (with_reducible first | exact HB.out | apply below_alloc | apply pw_below_drewN | apply below_drew1 | refine below_set ?_ GE168.out | refine below_set ?_ GE169.out) | exact HB.out)) hb); clear BK168; clear BK169; clear HB; have BK168 := n0_; have BK169 := n1_; have HB := n2_; clear n0_ n1_ n2_; (try clear hb); (try clear hb2); (try clear hk); (try clear hi)) | (go_at_call 59; (with_reducible refine (firkinlaw11_may.calls kj3 a0 _ _ l2 true _ ?side1 ?side2 A38.out).mono ?_); (case side1 => repeat (first | exact (Kd.C_below HR2.out HB.out) | (with_reducible refine Kd.C_alloc ?_ _) | (with_reducible refine Kd.C_drewN ?_ _) | (with_reducible refine Kd.C_drew ?_))); (case side2 => exact HC2.out); rintro e w42 ⟨rfl, hb⟩; have n0_ := Aside0.mk (blk_below (g := gb168) (o := .cells #[.int .i64 t152, .int .i64 t153, .bool t154, .int .i64 t155, .string t156, .bool t157, .int .i64 t158, .string t159] 25 (0, 0)) (by (with_reducible repeat (first | refine blk_drewN ?_ _ | refine blk_drew ?_ | refine blk_alloc ?_ _)); exact BK168.out) hb); have n1_ := Aside0.mk (blk_below (g := gb169) (o := .cells #[.int .i64 t160, .int .i64 t161, .bool t162, .int .i64 t163, .string t164, .bool t165, .int .i64 t166, .string t167] 25 (0, 0)) (by (with_reducible repeat (first | refine blk_drewN ?_ _ | refine blk_drew ?_ | refine blk_alloc ?_ _)); exact BK169.out) hb); have n2_ := Aside0.mk (below_step (by repeat (first | (with_reducible first | exact HB.out | apply below_alloc | apply pw_below_drewN | apply below_drew1 | refine below_set ?_ GE168.out | refine below_set ?_ GE169.out) | exact HB.out)) hb); clear BK168; clear BK169; clear HB; have BK168 := n0_; have BK169 := n1_; have HB := n2_; clear n0_ n1_ n2_; (try clear hb); (try clear hb2); (try clear hk); (try clear hi); (try clear A38)))
                  go_meet
                  case rel => exact ⟨_, (true), (by first | rfl | (simp; done) | (simp [*]; done)), H', ⟨by have := HJ3.out; first | omega | exact Nat.le_refl _⟩, ⟨by (with_reducible repeat (first | refine blk_drewN ?_ _ | refine blk_drew ?_ | refine blk_alloc ?_ _)); exact BK168.out⟩, ⟨by (with_reducible repeat (first | refine blk_drewN ?_ _ | refine blk_drew ?_ | refine blk_alloc ?_ _)); exact BK169.out⟩, ⟨by repeat (first | (with_reducible first | exact HB.out | apply below_alloc | apply pw_below_drewN | apply below_drew1 | refine below_set ?_ GE168.out | refine below_set ?_ GE169.out) | exact HB.out)⟩⟩
                · rw [if_neg c40] at H
                  have c40b0 : decide (a0 < 1) = false := decide_eq_false c40
                  clear c40
                  (first | rw [c40b0] | (simp only [i64_w, i32_w]; rw [c40b0]) | skip)
                  have H' := Aside0.mk H
                  clear H
                  go_wp2_with (first | ((with_reducible refine gate_callee (f := 59) rfl ?_); refine goesL_ (some 29) rfl rfl Try.func59 (by kernel_rfl) rfl #[.int .i64 a0, .slice A1 l1.length c1] rfl (by (try simp only [List.map_toArray, List.map_cons, List.map_nil]); first | done | rfl | (simp only [List.length_drop, List.length_take]; rfl)) ?_; (with_reducible refine (firkinlaw11_may.calls kj3 a0 _ _ l1 true _ ?side1 ?side2 A36.out).mono ?_); (case side1 => repeat (first | exact (Kd.C_below HR1.out HB.out) | (with_reducible refine Kd.C_alloc ?_ _) | (with_reducible refine Kd.C_drewN ?_ _) | (with_reducible refine Kd.C_drew ?_))); (case side2 => exact HC1.out); rintro e w43 ⟨rfl, hb⟩; refine ⟨_, rfl, ?_⟩; have n0_ := Aside0.mk (blk_below (g := gb168) (o := .cells #[.int .i64 t152, .int .i64 t153, .bool t154, .int .i64 t155, .string t156, .bool t157, .int .i64 t158, .string t159] 25 (0, 0)) (by (with_reducible repeat (first | refine blk_drewN ?_ _ | refine blk_drew ?_ | refine blk_alloc ?_ _)); exact BK168.out) hb); have n1_ := Aside0.mk (blk_below (g := gb169) (o := .cells #[.int .i64 t160, .int .i64 t161, .bool t162, .int .i64 t163, .string t164, .bool t165, .int .i64 t166, .string t167] 25 (0, 0)) (by (with_reducible repeat (first | refine blk_drewN ?_ _ | refine blk_drew ?_ | refine blk_alloc ?_ _)); exact BK169.out) hb); have n2_ := Aside0.mk (below_step (by repeat (first | (with_reducible first | exact HB.out | apply below_alloc | apply pw_below_drewN | apply below_drew1 | refine below_set ?_ GE168.out | refine below_set ?_ GE169.out) | exact HB.out)) hb); clear BK168; clear BK169; clear HB; have BK168 := n0_; have BK169 := n1_; have HB := n2_; clear n0_ n1_ n2_; (try clear hb); (try clear hb2); (try clear hk); (try clear hi)) | (go_at_call 59; (with_reducible refine (firkinlaw11_may.calls kj3 a0 _ _ l2 true _ ?side1 ?side2 A38.out).mono ?_); (case side1 => repeat (first | exact (Kd.C_below HR2.out HB.out) | (with_reducible refine Kd.C_alloc ?_ _) | (with_reducible refine Kd.C_drewN ?_ _) | (with_reducible refine Kd.C_drew ?_))); (case side2 => exact HC2.out); rintro e w44 ⟨rfl, hb⟩; have n0_ := Aside0.mk (blk_below (g := gb168) (o := .cells #[.int .i64 t152, .int .i64 t153, .bool t154, .int .i64 t155, .string t156, .bool t157, .int .i64 t158, .string t159] 25 (0, 0)) (by (with_reducible repeat (first | refine blk_drewN ?_ _ | refine blk_drew ?_ | refine blk_alloc ?_ _)); exact BK168.out) hb); have n1_ := Aside0.mk (blk_below (g := gb169) (o := .cells #[.int .i64 t160, .int .i64 t161, .bool t162, .int .i64 t163, .string t164, .bool t165, .int .i64 t166, .string t167] 25 (0, 0)) (by (with_reducible repeat (first | refine blk_drewN ?_ _ | refine blk_drew ?_ | refine blk_alloc ?_ _)); exact BK169.out) hb); have n2_ := Aside0.mk (below_step (by repeat (first | (with_reducible first | exact HB.out | apply below_alloc | apply pw_below_drewN | apply below_drew1 | refine below_set ?_ GE168.out | refine below_set ?_ GE169.out) | exact HB.out)) hb); clear BK168; clear BK169; clear HB; have BK168 := n0_; have BK169 := n1_; have HB := n2_; clear n0_ n1_ n2_; (try clear hb); (try clear hb2); (try clear hk); (try clear hi); (try clear A38)))
                  go_meet
                  case rel => exact ⟨_, (decide (a0 > 3)), (by first | rfl | (simp; done) | (simp [*]; done)), H', ⟨by have := HJ3.out; first | omega | exact Nat.le_refl _⟩, ⟨by (with_reducible repeat (first | refine blk_drewN ?_ _ | refine blk_drew ?_ | refine blk_alloc ?_ _)); exact BK168.out⟩, ⟨by (with_reducible repeat (first | refine blk_drewN ?_ _ | refine blk_drew ?_ | refine blk_alloc ?_ _)); exact BK169.out⟩, ⟨by repeat (first | (with_reducible first | exact HB.out | apply below_alloc | apply pw_below_drewN | apply below_drew1 | refine below_set ?_ GE168.out | refine below_set ?_ GE169.out) | exact HB.out)⟩⟩
              · replace c39 := Bool.eq_false_iff.mpr c39
                subst c39
                have H1 : (firkinlaw11_ZoneOf.j1 kj3 a0 l1 l2 true t152 t153 t154 t155 t156 t157 t158 t159 t160 t161 t162 t163 t164 t165 t166 t167) = some r := by rw [if_neg (show ¬ (false = true) by decide)] at H; exact H
                clear H
                have H := H1
                clear H1
                have H' := Aside0.mk H
                clear H
                go_wp2_with (first | ((with_reducible refine gate_callee (f := 59) rfl ?_); refine goesL_ (some 29) rfl rfl Try.func59 (by kernel_rfl) rfl #[.int .i64 a0, .slice A1 l1.length c1] rfl (by (try simp only [List.map_toArray, List.map_cons, List.map_nil]); first | done | rfl | (simp only [List.length_drop, List.length_take]; rfl)) ?_; (with_reducible refine (firkinlaw11_may.calls kj3 a0 _ _ l1 true _ ?side1 ?side2 A36.out).mono ?_); (case side1 => repeat (first | exact (Kd.C_below HR1.out HB.out) | (with_reducible refine Kd.C_alloc ?_ _) | (with_reducible refine Kd.C_drewN ?_ _) | (with_reducible refine Kd.C_drew ?_))); (case side2 => exact HC1.out); rintro e w45 ⟨rfl, hb⟩; refine ⟨_, rfl, ?_⟩; have n0_ := Aside0.mk (blk_below (g := gb168) (o := .cells #[.int .i64 t152, .int .i64 t153, .bool t154, .int .i64 t155, .string t156, .bool t157, .int .i64 t158, .string t159] 25 (0, 0)) (by (with_reducible repeat (first | refine blk_drewN ?_ _ | refine blk_drew ?_ | refine blk_alloc ?_ _)); exact BK168.out) hb); have n1_ := Aside0.mk (blk_below (g := gb169) (o := .cells #[.int .i64 t160, .int .i64 t161, .bool t162, .int .i64 t163, .string t164, .bool t165, .int .i64 t166, .string t167] 25 (0, 0)) (by (with_reducible repeat (first | refine blk_drewN ?_ _ | refine blk_drew ?_ | refine blk_alloc ?_ _)); exact BK169.out) hb); have n2_ := Aside0.mk (below_step (by repeat (first | (with_reducible first | exact HB.out | apply below_alloc | apply pw_below_drewN | apply below_drew1 | refine below_set ?_ GE168.out | refine below_set ?_ GE169.out) | exact HB.out)) hb); clear BK168; clear BK169; clear HB; have BK168 := n0_; have BK169 := n1_; have HB := n2_; clear n0_ n1_ n2_; (try clear hb); (try clear hb2); (try clear hk); (try clear hi)) | (go_at_call 59; (with_reducible refine (firkinlaw11_may.calls kj3 a0 _ _ l2 false _ ?side1 ?side2 A38.out).mono ?_); (case side1 => repeat (first | exact (Kd.C_below HR2.out HB.out) | (with_reducible refine Kd.C_alloc ?_ _) | (with_reducible refine Kd.C_drewN ?_ _) | (with_reducible refine Kd.C_drew ?_))); (case side2 => exact HC2.out); rintro e w46 ⟨rfl, hb⟩; have n0_ := Aside0.mk (blk_below (g := gb168) (o := .cells #[.int .i64 t152, .int .i64 t153, .bool t154, .int .i64 t155, .string t156, .bool t157, .int .i64 t158, .string t159] 25 (0, 0)) (by (with_reducible repeat (first | refine blk_drewN ?_ _ | refine blk_drew ?_ | refine blk_alloc ?_ _)); exact BK168.out) hb); have n1_ := Aside0.mk (blk_below (g := gb169) (o := .cells #[.int .i64 t160, .int .i64 t161, .bool t162, .int .i64 t163, .string t164, .bool t165, .int .i64 t166, .string t167] 25 (0, 0)) (by (with_reducible repeat (first | refine blk_drewN ?_ _ | refine blk_drew ?_ | refine blk_alloc ?_ _)); exact BK169.out) hb); have n2_ := Aside0.mk (below_step (by repeat (first | (with_reducible first | exact HB.out | apply below_alloc | apply pw_below_drewN | apply below_drew1 | refine below_set ?_ GE168.out | refine below_set ?_ GE169.out) | exact HB.out)) hb); clear BK168; clear BK169; clear HB; have BK168 := n0_; have BK169 := n1_; have HB := n2_; clear n0_ n1_ n2_; (try clear hb); (try clear hb2); (try clear hk); (try clear hi); (try clear A38)))
                go_meet
                case rel => exact ⟨_, (true), (by first | rfl | (simp; done) | (simp [*]; done)), H', ⟨by have := HJ3.out; first | omega | exact Nat.le_refl _⟩, ⟨by (with_reducible repeat (first | refine blk_drewN ?_ _ | refine blk_drew ?_ | refine blk_alloc ?_ _)); exact BK168.out⟩, ⟨by (with_reducible repeat (first | refine blk_drewN ?_ _ | refine blk_drew ?_ | refine blk_alloc ?_ _)); exact BK169.out⟩, ⟨by repeat (first | (with_reducible first | exact HB.out | apply below_alloc | apply pw_below_drewN | apply below_drew1 | refine below_set ?_ GE168.out | refine below_set ?_ GE169.out) | exact HB.out)⟩⟩
            · replace c37 := Bool.eq_false_iff.mpr c37
              subst c37
              have H1 : (firkinlaw11_ZoneOf.j1 kj3 a0 l1 l2 true t152 t153 t154 t155 t156 t157 t158 t159 t160 t161 t162 t163 t164 t165 t166 t167) = some r := by rw [if_neg (show ¬ (false = true) by decide)] at H; exact H
              clear H
              have H := H1
              clear H1
              have H' := Aside0.mk H
              clear H
              go_wp2_with (first | ((with_reducible refine gate_callee (f := 59) rfl ?_); refine goesL_ (some 29) rfl rfl Try.func59 (by kernel_rfl) rfl #[.int .i64 a0, .slice A1 l1.length c1] rfl (by (try simp only [List.map_toArray, List.map_cons, List.map_nil]); first | done | rfl | (simp only [List.length_drop, List.length_take]; rfl)) ?_; (with_reducible refine (firkinlaw11_may.calls kj3 a0 _ _ l1 false _ ?side1 ?side2 A36.out).mono ?_); (case side1 => repeat (first | exact (Kd.C_below HR1.out HB.out) | (with_reducible refine Kd.C_alloc ?_ _) | (with_reducible refine Kd.C_drewN ?_ _) | (with_reducible refine Kd.C_drew ?_))); (case side2 => exact HC1.out); rintro e w47 ⟨rfl, hb⟩; refine ⟨_, rfl, ?_⟩; have n0_ := Aside0.mk (blk_below (g := gb168) (o := .cells #[.int .i64 t152, .int .i64 t153, .bool t154, .int .i64 t155, .string t156, .bool t157, .int .i64 t158, .string t159] 25 (0, 0)) (by (with_reducible repeat (first | refine blk_drewN ?_ _ | refine blk_drew ?_ | refine blk_alloc ?_ _)); exact BK168.out) hb); have n1_ := Aside0.mk (blk_below (g := gb169) (o := .cells #[.int .i64 t160, .int .i64 t161, .bool t162, .int .i64 t163, .string t164, .bool t165, .int .i64 t166, .string t167] 25 (0, 0)) (by (with_reducible repeat (first | refine blk_drewN ?_ _ | refine blk_drew ?_ | refine blk_alloc ?_ _)); exact BK169.out) hb); have n2_ := Aside0.mk (below_step (by repeat (first | (with_reducible first | exact HB.out | apply below_alloc | apply pw_below_drewN | apply below_drew1 | refine below_set ?_ GE168.out | refine below_set ?_ GE169.out) | exact HB.out)) hb); clear BK168; clear BK169; clear HB; have BK168 := n0_; have BK169 := n1_; have HB := n2_; clear n0_ n1_ n2_; (try clear hb); (try clear hb2); (try clear hk); (try clear hi)))
              go_meet
              case rel => exact ⟨_, (true), (by first | rfl | (simp; done) | (simp [*]; done)), H', ⟨by have := HJ3.out; first | omega | exact Nat.le_refl _⟩, ⟨by (with_reducible repeat (first | refine blk_drewN ?_ _ | refine blk_drew ?_ | refine blk_alloc ?_ _)); exact BK168.out⟩, ⟨by (with_reducible repeat (first | refine blk_drewN ?_ _ | refine blk_drew ?_ | refine blk_alloc ?_ _)); exact BK169.out⟩, ⟨by repeat (first | (with_reducible first | exact HB.out | apply below_alloc | apply pw_below_drewN | apply below_drew1 | refine below_set ?_ GE168.out | refine below_set ?_ GE169.out) | exact HB.out)⟩⟩
          case rest =>
            clear HC25
            try clear c1
            try clear c2
            try clear p2
            try clear c3
            try clear c4
            try clear c5
            try clear c6
            try clear c8
            try clear c12
            try clear c14
            try clear c14b0
            try clear c15
            try clear c19
            try clear c30
            try clear c37
            try clear c39
            try clear c40
            try clear c40b0
            try clear hcz20_0
            try clear hcz20_1
            try clear hcz20_2
            try clear hcz20_3
            try clear hcz20_4
            try clear hcz20_5
            try clear hcz20_6
            try clear hcz20_7
            try clear hcz21_0
            try clear hcz21_1
            try clear hcz21_2
            try clear hcz21_3
            try clear hcz21_4
            try clear hcz21_5
            try clear hcz21_6
            try clear hcz21_7
            try clear hcz31_0
            try clear hcz31_1
            try clear hcz31_2
            try clear hcz31_3
            try clear hcz31_4
            try clear hcz31_5
            try clear hcz31_6
            try clear hcz31_7
            try clear hcz32_0
            try clear hcz32_1
            try clear hcz32_2
            try clear hcz32_3
            try clear hcz32_4
            try clear hcz32_5
            try clear hcz32_6
            try clear hcz32_7
            try clear hfz20_0
            try clear hfz20_1
            try clear hfz20_2
            try clear hfz20_3
            try clear hfz20_4
            try clear hfz20_5
            try clear hfz20_6
            try clear hfz20_7
            try clear hfz21_0
            try clear hfz21_1
            try clear hfz21_2
            try clear hfz21_3
            try clear hfz21_4
            try clear hfz21_5
            try clear hfz21_6
            try clear hfz21_7
            try clear hfz31_0
            try clear hfz31_1
            try clear hfz31_2
            try clear hfz31_3
            try clear hfz31_4
            try clear hfz31_5
            try clear hfz31_6
            try clear hfz31_7
            try clear hfz32_0
            try clear hfz32_1
            try clear hfz32_2
            try clear hfz32_3
            try clear hfz32_4
            try clear hfz32_5
            try clear hfz32_6
            try clear hfz32_7
            try clear p2
            obtain ⟨kq, x44_24, rfl, HA, HJ24, BK168, BK169, HB⟩ := hcut
            cases kq with
            | zero => exact absurd HA.out (by simp [firkinlaw11_ZoneOf.j1])
            | succ kj24 =>
              have H := HA.out
              clear HA
              simp only [firkinlaw11_ZoneOf.j1] at H
              by_cases c48 : x44_24 = true
              · subst c48
                have H1 : ((firkinlaw11_live.f).bind fun t180 => (some t180)) = some r := by rw [if_pos rfl] at H; exact H
                clear H
                have H := H1
                clear H1
                replace H := Option.bind_eq_some_iff.mp H
                obtain ⟨t180, A490, H⟩ := H
                replace H : (some t180) = some r := H
                have A49 := Aside0.mk A490
                clear A490
                obtain rfl := Option.some.inj H
                go_wp2_with (first | ((with_reducible refine gate_callee (f := 15) rfl ?_); refine goesL_ (some 45) rfl rfl Try.func15 (by kernel_rfl) rfl #[] rfl (by (try simp only [List.map_toArray, List.map_cons, List.map_nil]); first | done | rfl | (simp only [List.length_drop, List.length_take]; rfl)) ?_; (with_reducible refine (firkinlaw11_live.calls  t180 _ A49.out).mono ?_); rintro e w50 ⟨rfl, hb⟩; refine ⟨_, rfl, ?_⟩; have n0_ := Aside0.mk (blk_below (g := gb168) (o := .cells #[.int .i64 t152, .int .i64 t153, .bool t154, .int .i64 t155, .string t156, .bool t157, .int .i64 t158, .string t159] 25 (0, 0)) (by (with_reducible repeat (first | refine blk_drewN ?_ _ | refine blk_drew ?_ | refine blk_alloc ?_ _)); exact BK168.out) hb); have n1_ := Aside0.mk (blk_below (g := gb169) (o := .cells #[.int .i64 t160, .int .i64 t161, .bool t162, .int .i64 t163, .string t164, .bool t165, .int .i64 t166, .string t167] 25 (0, 0)) (by (with_reducible repeat (first | refine blk_drewN ?_ _ | refine blk_drew ?_ | refine blk_alloc ?_ _)); exact BK169.out) hb); have n2_ := Aside0.mk (below_step (by repeat (first | (with_reducible first | exact HB.out | apply below_alloc | apply pw_below_drewN | apply below_drew1 | refine below_set ?_ GE168.out | refine below_set ?_ GE169.out) | exact HB.out)) hb); clear BK168; clear BK169; clear HB; have BK168 := n0_; have BK169 := n1_; have HB := n2_; clear n0_ n1_ n2_; (try clear hb); (try clear hb2); (try clear hk); (try clear hi)))
                go_ret
                exact ⟨by first | rfl | (simp [errW_none, errW_some] <;> rfl) | (simp [*, errW_none, errW_some] <;> rfl), by repeat (first | (with_reducible first | exact HB.out | apply below_alloc | apply pw_below_drewN | apply below_drew1 | refine below_set ?_ GE168.out | refine below_set ?_ GE169.out) | exact HB.out)⟩
              · replace c48 := Bool.eq_false_iff.mpr c48
                subst c48
                have H1 : (firkinlaw11_ZoneOf.l0 kj24 a0 l1 l2 0 t152 t153 t154 t155 t156 t157 t158 t159 t160 t161 t162 t163 t164 t165 t166 t167) = some r := by rw [if_neg (show ¬ (false = true) by decide)] at H; exact H
                clear H
                have H := H1
                clear H1
                have H' := Aside0.mk H
                clear H
                go_wp2
                go_loopg [9] kj24 (fun kq v9 w' => ∃ (x9_3 : Int), v9 = .int .i64 x9_3 ∧ Aside0 (firkinlaw11_ZoneOf.l0 kq a0 l1 l2 x9_3 t152 t153 t154 t155 t156 t157 t158 t159 t160 t161 t162 t163 t164 t165 t166 t167 = some r) ∧ Aside0 (kq ≤ kj24) ∧ Aside0 (w'.heap[gb168]? = some (.cells #[.int .i64 t152, .int .i64 t153, .bool t154, .int .i64 t155, .string t156, .bool t157, .int .i64 t158, .string t159] 25 (0, 0))) ∧ Aside0 (w'.heap[gb169]? = some (.cells #[.int .i64 t160, .int .i64 t161, .bool t162, .int .i64 t163, .string t164, .bool t165, .int .i64 t166, .string t167] 25 (0, 0))) ∧ Aside0 (Below w.heap.size w w'))
                case atStart => exact ⟨(0), (by first | rfl | (simp; done) | (simp [*]; done)), H', ⟨Nat.le_refl _⟩, ⟨by (with_reducible repeat (first | refine blk_drewN ?_ _ | refine blk_drew ?_ | refine blk_alloc ?_ _)); exact BK168.out⟩, ⟨by (with_reducible repeat (first | refine blk_drewN ?_ _ | refine blk_drew ?_ | refine blk_alloc ?_ _)); exact BK169.out⟩, ⟨by repeat (first | (with_reducible first | exact HB.out | apply below_alloc | apply pw_below_drewN | apply below_drew1 | refine below_set ?_ GE168.out | refine below_set ?_ GE169.out) | exact HB.out)⟩⟩
                case round =>
                  clear H'
                  try clear c1
                  try clear c2
                  try clear p2
                  try clear c3
                  try clear c4
                  try clear c5
                  try clear c6
                  try clear c8
                  try clear c12
                  try clear c14
                  try clear c14b0
                  try clear c15
                  try clear c19
                  try clear c30
                  try clear c37
                  try clear c39
                  try clear c40
                  try clear c40b0
                  try clear c48
                  try clear hcz20_0
                  try clear hcz20_1
                  try clear hcz20_2
                  try clear hcz20_3
                  try clear hcz20_4
                  try clear hcz20_5
                  try clear hcz20_6
                  try clear hcz20_7
                  try clear hcz21_0
                  try clear hcz21_1
                  try clear hcz21_2
                  try clear hcz21_3
                  try clear hcz21_4
                  try clear hcz21_5
                  try clear hcz21_6
                  try clear hcz21_7
                  try clear hcz31_0
                  try clear hcz31_1
                  try clear hcz31_2
                  try clear hcz31_3
                  try clear hcz31_4
                  try clear hcz31_5
                  try clear hcz31_6
                  try clear hcz31_7
                  try clear hcz32_0
                  try clear hcz32_1
                  try clear hcz32_2
                  try clear hcz32_3
                  try clear hcz32_4
                  try clear hcz32_5
                  try clear hcz32_6
                  try clear hcz32_7
                  try clear hfz20_0
                  try clear hfz20_1
                  try clear hfz20_2
                  try clear hfz20_3
                  try clear hfz20_4
                  try clear hfz20_5
                  try clear hfz20_6
                  try clear hfz20_7
                  try clear hfz21_0
                  try clear hfz21_1
                  try clear hfz21_2
                  try clear hfz21_3
                  try clear hfz21_4
                  try clear hfz21_5
                  try clear hfz21_6
                  try clear hfz21_7
                  try clear hfz31_0
                  try clear hfz31_1
                  try clear hfz31_2
                  try clear hfz31_3
                  try clear hfz31_4
                  try clear hfz31_5
                  try clear hfz31_6
                  try clear hfz31_7
                  try clear hfz32_0
                  try clear hfz32_1
                  try clear hfz32_2
                  try clear hfz32_3
                  try clear hfz32_4
                  try clear hfz32_5
                  try clear hfz32_6
                  try clear hfz32_7
                  try clear p2
                  obtain ⟨x9_3, rfl, HA, HK3, BK168, BK169, HB⟩ := hrel
                  cases gk with
                  | zero => exact absurd HA.out (by simp [firkinlaw11_ZoneOf.l0])
                  | succ k3 =>
                    have H := HA.out
                    clear HA
                    simp only [firkinlaw11_ZoneOf.l0] at H
                    by_cases c51 : x9_3 < (l1.length : Int)
                    · rw [if_pos c51] at H
                      have c51b0 : decide (x9_3 < (l1.length : Int)) = true := decide_eq_true c51
                      clear c51
                      by_cases c52 : 0 ≤ x9_3
                      · rw [if_pos c52] at H
                        have c52b0 : decide (0 ≤ x9_3) = true := decide_eq_true c52
                        clear c52
                        replace H := Option.bind_eq_some_iff.mp H
                        obtain ⟨t182, A530, H⟩ := H
                        replace H : (if t182 = true then (firkinlaw11_ZoneOf.l0 k3 a0 l1 l2 (wrap64 (x9_3 + 1)) t152 t153 t154 t155 t156 t157 t158 t159 t160 t161 t162 t163 t164 t165 t166 t167) else (some false)) = some r := H
                        have A53 := Aside0.mk A530
                        clear A530
                        by_cases c54 : t182 = true
                        · subst c54
                          have H1 : (firkinlaw11_ZoneOf.l0 k3 a0 l1 l2 (wrap64 (x9_3 + 1)) t152 t153 t154 t155 t156 t157 t158 t159 t160 t161 t162 t163 t164 t165 t166 t167) = some r := by rw [if_pos rfl] at H; exact H
                          clear H
                          have H := H1
                          clear H1
                          have H' := Aside0.mk H
                          clear H
                          try go_wp2
                          have n0_ := Aside0.mk (blk_drew BK168.out)
                          have n1_ := Aside0.mk (blk_drew BK169.out)
                          have n2_ := Aside0.mk (below_drew1 HB.out)
                          clear BK168
                          clear BK169
                          clear HB
                          have BK168 := n0_
                          have BK169 := n1_
                          have HB := n2_
                          clear n0_ n1_ n2_
                          have p181 : 0 ≤ (x9_3 : Int) := of_decide_eq_true (by first | (with_reducible assumption) | assumption)
                          have q181 : x9_3 < (l1.length : Int) := of_decide_eq_true (by first | (with_reducible assumption) | assumption)
                          obtain ⟨ad181, e181, hx181_0, hx181_1, hx181_2⟩ := at_T23 HR1.out x9_3 p181 q181
                          have hw181_2 := hx181_2
                          have hw181_1 := hx181_1
                          have hw181_0 := hx181_0
                          cases e181
                          replace hx181_0 := (HB.out.cell (World.block_lt_of_cell? w _ hx181_0)).trans hx181_0
                          replace hx181_1 := (HB.out.cell (World.block_lt_of_cell? w _ hx181_1)).trans hx181_1
                          replace hx181_2 := (HB.out.cell (World.block_lt_of_cell? w _ hx181_2)).trans hx181_2
                          replace p181 := eq_true p181
                          replace q181 := eq_true q181
                          refine start_ (n := 7) (S := fun w' => w'.cell? ⟨gb168, 0, none⟩ = some (.int .i64 t152) ∧ w'.cell? ⟨gb168, 1, none⟩ = some (.int .i64 t153) ∧ w'.cell? ⟨gb168, 2, none⟩ = some (.bool t154) ∧ w'.cell? ⟨gb168, 3, none⟩ = some (.int .i64 t155) ∧ w'.cell? ⟨gb168, 4, none⟩ = some (.string t156) ∧ w'.cell? ⟨gb168, 5, none⟩ = some (.bool t157) ∧ w'.cell? ⟨gb168, 6, none⟩ = some (.int .i64 t158) ∧ w'.cell? ⟨gb168, 7, none⟩ = some (.string t159) ∧ w'.cell? (ad181.add ((x9_3).toNat * 3)) = some (.bool ((rd_T23 l1 x9_3).f0)) ∧ w'.cell? ⟨(ad181.add ((x9_3).toNat * 3)).block, (ad181.add ((x9_3).toNat * 3)).off + 1, none⟩ = some (.int .i64 ((rd_T23 l1 x9_3).f1)) ∧ w'.cell? ⟨(ad181.add ((x9_3).toNat * 3)).block, (ad181.add ((x9_3).toNat * 3)).off + 2, none⟩ = some (.string ((rd_T23 l1 x9_3).f2))) (ds := []) #[false, false, false, false, false, false, false] (by kernel_rfl) rfl rfl ⟨(blk_cell BK168.out 0).trans rfl, (blk_cell BK168.out 1).trans rfl, (blk_cell BK168.out 2).trans rfl, (blk_cell BK168.out 3).trans rfl, (blk_cell BK168.out 4).trans rfl, (blk_cell BK168.out 5).trans rfl, (blk_cell BK168.out 6).trans rfl, (blk_cell BK168.out 7).trans rfl, ((HB.out.cell (World.block_lt_of_cell? w _ hw181_0)).trans hw181_0), ((HB.out.cell (World.block_lt_of_cell? w _ hw181_1)).trans hw181_1), ((HB.out.cell (World.block_lt_of_cell? w _ hw181_2)).trans hw181_2)⟩ (fun hHeld => ?_)
                          generalize wr.drew = w55 at BK168 BK169 HB hx181_0 hx181_1 hx181_2 hHeld ⊢
                          refine pure_ (i := 1) (N := some 53) (v := ?_) (a' := ?_) #[false, true, false, false, false, false, false] rfl rfl (by kernel_rfl) (fun _ _ _ h => h) (Or.inl ⟨by rfl, ?_⟩) ?_ ?_
                          rotate_left
                          · intro w'
                            go_simp
                            with_reducible rfl
                          rotate_left
                          · simp only [Act.put, List.setIfInBounds_toArray, List.set_cons_zero, List.set_cons_succ, i64_w, i32_w]
                            rfl
                          refine pure_ (i := 2) (N := some 54) (v := ?_) (a' := ?_) #[false, true, true, false, false, false, false] rfl rfl (by kernel_rfl) (fun _ _ _ h => h) (Or.inl ⟨by rfl, ?_⟩) ?_ ?_
                          rotate_left
                          · intro w'
                            go_simp
                            with_reducible rfl
                          rotate_left
                          · simp only [Act.put, List.setIfInBounds_toArray, List.set_cons_zero, List.set_cons_succ, i64_w, i32_w]
                            rfl
                          refine pure_ (i := 3) (N := some 55) (v := ?_) (a' := ?_) #[false, true, true, true, false, false, false] rfl rfl (by kernel_rfl) (fun _ _ _ h => h) (Or.inl ⟨by rfl, ?_⟩) ?_ ?_
                          rotate_left
                          · intro w'
                            go_simp
                            with_reducible rfl
                          rotate_left
                          · simp only [Act.put, List.setIfInBounds_toArray, List.set_cons_zero, List.set_cons_succ, i64_w, i32_w]
                            rfl
                          refine take_ (i := 0) (N := some 52) (v := ?_) (a' := ?_) #[true, true, true, true, false, false, false] rfl rfl (by kernel_rfl) (fun _ _ _ h => h) (Or.inl ⟨by rfl, ?_⟩) hHeld ?_ ?_
                          rotate_left
                          · rintro w' ⟨s0, s1, s2, s3, s4, s5, s6, s7, s8, s9, s10⟩
                            go_simp
                            with_reducible rfl
                          rotate_left
                          · simp only [Act.put, List.setIfInBounds_toArray, List.set_cons_zero, List.set_cons_succ, i64_w, i32_w]
                            rfl
                          refine take_ (i := 4) (N := some 56) (v := ?_) (a' := ?_) #[true, true, true, true, true, false, false] rfl rfl (by kernel_rfl) (fun _ _ _ h => h) (Or.inl ⟨by rfl, ?_⟩) hHeld ?_ ?_
                          rotate_left
                          · rintro w' ⟨s0, s1, s2, s3, s4, s5, s6, s7, s8, s9, s10⟩
                            go_simp
                            with_reducible rfl
                          rotate_left
                          · simp only [Act.put, List.setIfInBounds_toArray, List.set_cons_zero, List.set_cons_succ, i64_w, i32_w]
                            rfl
                          refine one_ (i := 5) (N := some 57) #[true, true, true, true, true, true, false] rfl rfl (by kernel_rfl) (by decide) (fun K hK => ?_)
                          refine goes_ Try.func18 (by kernel_rfl) rfl #[.agg #[.int .i64 t152, .int .i64 t153, .bool t154, .int .i64 t155, .string t156, .bool t157, .int .i64 t158, .string t159], .agg #[.bool ((rd_T23 l1 x9_3).f0), .int .i64 ((rd_T23 l1 x9_3).f1), .string ((rd_T23 l1 x9_3).f2)]] (by rfl) rfl rfl (by (try simp only [List.map_toArray, List.map_cons, List.map_nil]); first | done | rfl | (simp only [List.length_drop, List.length_take]; rfl)) ?_
                          with_reducible refine (zone_Has.calls k3 t152 t153 t154 t155 t156 t157 t158 t159 ((rd_T23 l1 x9_3).f0) ((rd_T23 l1 x9_3).f1) ((rd_T23 l1 x9_3).f2) true _ A53.out).mono ?_
                          rintro e w56 ⟨rfl, hb⟩
                          refine ⟨_, rfl, ?_⟩
                          have n0_ := Aside0.mk (blk_below (g := gb168) (o := .cells #[.int .i64 t152, .int .i64 t153, .bool t154, .int .i64 t155, .string t156, .bool t157, .int .i64 t158, .string t159] 25 (0, 0)) (by (with_reducible repeat (first | refine blk_drewN ?_ _ | refine blk_drew ?_ | refine blk_alloc ?_ _)); exact BK168.out) hb)
                          have n1_ := Aside0.mk (blk_below (g := gb169) (o := .cells #[.int .i64 t160, .int .i64 t161, .bool t162, .int .i64 t163, .string t164, .bool t165, .int .i64 t166, .string t167] 25 (0, 0)) (by (with_reducible repeat (first | refine blk_drewN ?_ _ | refine blk_drew ?_ | refine blk_alloc ?_ _)); exact BK169.out) hb)
                          have n2_ := Aside0.mk (below_step (by repeat (first | (with_reducible first | exact HB.out | apply below_alloc | apply pw_below_drewN | apply below_drew1 | refine below_set ?_ GE168.out | refine below_set ?_ GE169.out) | exact HB.out)) hb)
                          clear BK168
                          clear BK169
                          clear HB
                          have BK168 := n0_
                          have BK169 := n1_
                          have HB := n2_
                          clear n0_ n1_ n2_
                          (try clear hb)
                          (try clear hb2)
                          (try clear hk)
                          (try clear hi)
                          refine hK.out _ _ ⟨(blk_cell BK168.out 0).trans rfl, (blk_cell BK168.out 1).trans rfl, (blk_cell BK168.out 2).trans rfl, (blk_cell BK168.out 3).trans rfl, (blk_cell BK168.out 4).trans rfl, (blk_cell BK168.out 5).trans rfl, (blk_cell BK168.out 6).trans rfl, (blk_cell BK168.out 7).trans rfl, ((HB.out.cell (World.block_lt_of_cell? w _ hw181_0)).trans hw181_0), ((HB.out.cell (World.block_lt_of_cell? w _ hw181_1)).trans hw181_1), ((HB.out.cell (World.block_lt_of_cell? w _ hw181_2)).trans hw181_2)⟩ (fun hHeld => ?_)
                          clear hK K
                          refine norm_ (a' := ?_) ?_ ?_
                          rotate_left
                          · show Act.put _ (some 57) _ = _
                            simp only [Act.put, List.setIfInBounds_toArray, List.set_cons_zero, List.set_cons_succ, i64_w, i32_w]
                            rfl
                          refine pure_ (i := 6) (N := some 58) (v := ?_) (a' := ?_) #[true, true, true, true, true, true, true] rfl rfl (by kernel_rfl) (fun _ _ _ h => h) (Or.inl ⟨by rfl, ?_⟩) ?_ ?_
                          rotate_left
                          · intro w'
                            go_simp
                            with_reducible rfl
                          rotate_left
                          · simp only [Act.put, List.setIfInBounds_toArray, List.set_cons_zero, List.set_cons_succ, i64_w, i32_w]
                            rfl
                          refine done_ (by kernel_rfl) ?_
                          try go_wp2
                          go_roundg k3
                          case measure => have := HJ3.out; have := HJ24.out; have := HK3.out; omega
                          case rel => exact ⟨(wrap64 (x9_3 + 1)), (by first | rfl | (simp; done) | (simp [*]; done)), H', ⟨by have := HJ3.out; have := HJ24.out; have := HK3.out; omega⟩, ⟨by (with_reducible repeat (first | refine blk_drewN ?_ _ | refine blk_drew ?_ | refine blk_alloc ?_ _)); exact BK168.out⟩, ⟨by (with_reducible repeat (first | refine blk_drewN ?_ _ | refine blk_drew ?_ | refine blk_alloc ?_ _)); exact BK169.out⟩, ⟨by repeat (first | (with_reducible first | exact HB.out | apply below_alloc | apply pw_below_drewN | apply below_drew1 | refine below_set ?_ GE168.out | refine below_set ?_ GE169.out) | exact HB.out)⟩⟩
                        · replace c54 := Bool.eq_false_iff.mpr c54
                          subst c54
                          have H1 : (some false) = some r := by rw [if_neg (show ¬ (false = true) by decide)] at H; exact H
                          clear H
                          have H := H1
                          clear H1
                          obtain rfl := Option.some.inj H
                          try go_wp2
                          have n0_ := Aside0.mk (blk_drew BK168.out)
                          have n1_ := Aside0.mk (blk_drew BK169.out)
                          have n2_ := Aside0.mk (below_drew1 HB.out)
                          clear BK168
                          clear BK169
                          clear HB
                          have BK168 := n0_
                          have BK169 := n1_
                          have HB := n2_
                          clear n0_ n1_ n2_
                          have p181 : 0 ≤ (x9_3 : Int) := of_decide_eq_true (by first | (with_reducible assumption) | assumption)
                          have q181 : x9_3 < (l1.length : Int) := of_decide_eq_true (by first | (with_reducible assumption) | assumption)
                          obtain ⟨ad181, e181, hx181_0, hx181_1, hx181_2⟩ := at_T23 HR1.out x9_3 p181 q181
                          have hw181_2 := hx181_2
                          have hw181_1 := hx181_1
                          have hw181_0 := hx181_0
                          cases e181
                          replace hx181_0 := (HB.out.cell (World.block_lt_of_cell? w _ hx181_0)).trans hx181_0
                          replace hx181_1 := (HB.out.cell (World.block_lt_of_cell? w _ hx181_1)).trans hx181_1
                          replace hx181_2 := (HB.out.cell (World.block_lt_of_cell? w _ hx181_2)).trans hx181_2
                          replace p181 := eq_true p181
                          replace q181 := eq_true q181
                          refine start_ (n := 7) (S := fun w' => w'.cell? ⟨gb168, 0, none⟩ = some (.int .i64 t152) ∧ w'.cell? ⟨gb168, 1, none⟩ = some (.int .i64 t153) ∧ w'.cell? ⟨gb168, 2, none⟩ = some (.bool t154) ∧ w'.cell? ⟨gb168, 3, none⟩ = some (.int .i64 t155) ∧ w'.cell? ⟨gb168, 4, none⟩ = some (.string t156) ∧ w'.cell? ⟨gb168, 5, none⟩ = some (.bool t157) ∧ w'.cell? ⟨gb168, 6, none⟩ = some (.int .i64 t158) ∧ w'.cell? ⟨gb168, 7, none⟩ = some (.string t159) ∧ w'.cell? (ad181.add ((x9_3).toNat * 3)) = some (.bool ((rd_T23 l1 x9_3).f0)) ∧ w'.cell? ⟨(ad181.add ((x9_3).toNat * 3)).block, (ad181.add ((x9_3).toNat * 3)).off + 1, none⟩ = some (.int .i64 ((rd_T23 l1 x9_3).f1)) ∧ w'.cell? ⟨(ad181.add ((x9_3).toNat * 3)).block, (ad181.add ((x9_3).toNat * 3)).off + 2, none⟩ = some (.string ((rd_T23 l1 x9_3).f2))) (ds := []) #[false, false, false, false, false, false, false] (by kernel_rfl) rfl rfl ⟨(blk_cell BK168.out 0).trans rfl, (blk_cell BK168.out 1).trans rfl, (blk_cell BK168.out 2).trans rfl, (blk_cell BK168.out 3).trans rfl, (blk_cell BK168.out 4).trans rfl, (blk_cell BK168.out 5).trans rfl, (blk_cell BK168.out 6).trans rfl, (blk_cell BK168.out 7).trans rfl, ((HB.out.cell (World.block_lt_of_cell? w _ hw181_0)).trans hw181_0), ((HB.out.cell (World.block_lt_of_cell? w _ hw181_1)).trans hw181_1), ((HB.out.cell (World.block_lt_of_cell? w _ hw181_2)).trans hw181_2)⟩ (fun hHeld => ?_)
                          generalize wr.drew = w57 at BK168 BK169 HB hx181_0 hx181_1 hx181_2 hHeld ⊢
                          refine pure_ (i := 1) (N := some 53) (v := ?_) (a' := ?_) #[false, true, false, false, false, false, false] rfl rfl (by kernel_rfl) (fun _ _ _ h => h) (Or.inl ⟨by rfl, ?_⟩) ?_ ?_
                          rotate_left
                          · intro w'
                            go_simp
                            with_reducible rfl
                          rotate_left
                          · simp only [Act.put, List.setIfInBounds_toArray, List.set_cons_zero, List.set_cons_succ, i64_w, i32_w]
                            rfl
                          refine pure_ (i := 2) (N := some 54) (v := ?_) (a' := ?_) #[false, true, true, false, false, false, false] rfl rfl (by kernel_rfl) (fun _ _ _ h => h) (Or.inl ⟨by rfl, ?_⟩) ?_ ?_
                          rotate_left
                          · intro w'
                            go_simp
                            with_reducible rfl
                          rotate_left
                          · simp only [Act.put, List.setIfInBounds_toArray, List.set_cons_zero, List.set_cons_succ, i64_w, i32_w]
                            rfl
                          refine pure_ (i := 3) (N := some 55) (v := ?_) (a' := ?_) #[false, true, true, true, false, false, false] rfl rfl (by kernel_rfl) (fun _ _ _ h => h) (Or.inl ⟨by rfl, ?_⟩) ?_ ?_
                          rotate_left
                          · intro w'
                            go_simp
                            with_reducible rfl
                          rotate_left
                          · simp only [Act.put, List.setIfInBounds_toArray, List.set_cons_zero, List.set_cons_succ, i64_w, i32_w]
                            rfl
                          refine take_ (i := 0) (N := some 52) (v := ?_) (a' := ?_) #[true, true, true, true, false, false, false] rfl rfl (by kernel_rfl) (fun _ _ _ h => h) (Or.inl ⟨by rfl, ?_⟩) hHeld ?_ ?_
                          rotate_left
                          · rintro w' ⟨s0, s1, s2, s3, s4, s5, s6, s7, s8, s9, s10⟩
                            go_simp
                            with_reducible rfl
                          rotate_left
                          · simp only [Act.put, List.setIfInBounds_toArray, List.set_cons_zero, List.set_cons_succ, i64_w, i32_w]
                            rfl
                          refine take_ (i := 4) (N := some 56) (v := ?_) (a' := ?_) #[true, true, true, true, true, false, false] rfl rfl (by kernel_rfl) (fun _ _ _ h => h) (Or.inl ⟨by rfl, ?_⟩) hHeld ?_ ?_
                          rotate_left
                          · rintro w' ⟨s0, s1, s2, s3, s4, s5, s6, s7, s8, s9, s10⟩
                            go_simp
                            with_reducible rfl
                          rotate_left
                          · simp only [Act.put, List.setIfInBounds_toArray, List.set_cons_zero, List.set_cons_succ, i64_w, i32_w]
                            rfl
                          refine one_ (i := 5) (N := some 57) #[true, true, true, true, true, true, false] rfl rfl (by kernel_rfl) (by decide) (fun K hK => ?_)
                          refine goes_ Try.func18 (by kernel_rfl) rfl #[.agg #[.int .i64 t152, .int .i64 t153, .bool t154, .int .i64 t155, .string t156, .bool t157, .int .i64 t158, .string t159], .agg #[.bool ((rd_T23 l1 x9_3).f0), .int .i64 ((rd_T23 l1 x9_3).f1), .string ((rd_T23 l1 x9_3).f2)]] (by rfl) rfl rfl (by (try simp only [List.map_toArray, List.map_cons, List.map_nil]); first | done | rfl | (simp only [List.length_drop, List.length_take]; rfl)) ?_
                          with_reducible refine (zone_Has.calls k3 t152 t153 t154 t155 t156 t157 t158 t159 ((rd_T23 l1 x9_3).f0) ((rd_T23 l1 x9_3).f1) ((rd_T23 l1 x9_3).f2) false _ A53.out).mono ?_
                          rintro e w58 ⟨rfl, hb⟩
                          refine ⟨_, rfl, ?_⟩
                          have n0_ := Aside0.mk (blk_below (g := gb168) (o := .cells #[.int .i64 t152, .int .i64 t153, .bool t154, .int .i64 t155, .string t156, .bool t157, .int .i64 t158, .string t159] 25 (0, 0)) (by (with_reducible repeat (first | refine blk_drewN ?_ _ | refine blk_drew ?_ | refine blk_alloc ?_ _)); exact BK168.out) hb)
                          have n1_ := Aside0.mk (blk_below (g := gb169) (o := .cells #[.int .i64 t160, .int .i64 t161, .bool t162, .int .i64 t163, .string t164, .bool t165, .int .i64 t166, .string t167] 25 (0, 0)) (by (with_reducible repeat (first | refine blk_drewN ?_ _ | refine blk_drew ?_ | refine blk_alloc ?_ _)); exact BK169.out) hb)
                          have n2_ := Aside0.mk (below_step (by repeat (first | (with_reducible first | exact HB.out | apply below_alloc | apply pw_below_drewN | apply below_drew1 | refine below_set ?_ GE168.out | refine below_set ?_ GE169.out) | exact HB.out)) hb)
                          clear BK168
                          clear BK169
                          clear HB
                          have BK168 := n0_
                          have BK169 := n1_
                          have HB := n2_
                          clear n0_ n1_ n2_
                          (try clear hb)
                          (try clear hb2)
                          (try clear hk)
                          (try clear hi)
                          refine hK.out _ _ ⟨(blk_cell BK168.out 0).trans rfl, (blk_cell BK168.out 1).trans rfl, (blk_cell BK168.out 2).trans rfl, (blk_cell BK168.out 3).trans rfl, (blk_cell BK168.out 4).trans rfl, (blk_cell BK168.out 5).trans rfl, (blk_cell BK168.out 6).trans rfl, (blk_cell BK168.out 7).trans rfl, ((HB.out.cell (World.block_lt_of_cell? w _ hw181_0)).trans hw181_0), ((HB.out.cell (World.block_lt_of_cell? w _ hw181_1)).trans hw181_1), ((HB.out.cell (World.block_lt_of_cell? w _ hw181_2)).trans hw181_2)⟩ (fun hHeld => ?_)
                          clear hK K
                          refine norm_ (a' := ?_) ?_ ?_
                          rotate_left
                          · show Act.put _ (some 57) _ = _
                            simp only [Act.put, List.setIfInBounds_toArray, List.set_cons_zero, List.set_cons_succ, i64_w, i32_w]
                            rfl
                          refine pure_ (i := 6) (N := some 58) (v := ?_) (a' := ?_) #[true, true, true, true, true, true, true] rfl rfl (by kernel_rfl) (fun _ _ _ h => h) (Or.inl ⟨by rfl, ?_⟩) ?_ ?_
                          rotate_left
                          · intro w'
                            go_simp
                            with_reducible rfl
                          rotate_left
                          · simp only [Act.put, List.setIfInBounds_toArray, List.set_cons_zero, List.set_cons_succ, i64_w, i32_w]
                            rfl
                          refine done_ (by kernel_rfl) ?_
                          try go_wp2
                          go_ret
                          exact ⟨by first | rfl | (simp [errW_none, errW_some] <;> rfl) | (simp [*, errW_none, errW_some] <;> rfl), by repeat (first | (with_reducible first | exact HB.out | apply below_alloc | apply pw_below_drewN | apply below_drew1 | refine below_set ?_ GE168.out | refine below_set ?_ GE169.out) | exact HB.out)⟩
                      · rw [if_neg c52] at H
                        exact absurd H (by simp)
                    · rw [if_neg c51] at H
                      have c51b0 : decide (x9_3 < (l1.length : Int)) = false := decide_eq_false c51
                      clear c51
                      replace H := Option.bind_eq_some_iff.mp H
                      obtain ⟨t183, A590, H⟩ := H
                      replace H : (if t183 = true then ((zone_Join.f t152 t153 t154 t155 t156 t157 t158 t159 t160 t161 t162 t163 t164 t165 t166 t167).bind fun bt184 => ((some (([] : List (S23)) : List (S23))).bind fun y192 => (if y192.length + l1.length < 4398046511104 then ((some (y192 ++ l1 : List (S23))).bind fun y195 => (if y195.length + l2.length < 4398046511104 then ((firkinref11_Of.f (y195 ++ l2)).bind fun bt201 => (if (bt184.1 == bt201.1 && (bt184.2.1 == bt201.2.1 && ((bt184.2.2.1 == bt201.2.2.1 && (bt184.2.2.2.1 == bt201.2.2.2.1 && (bt184.2.2.2.2.1.toList == bt201.2.2.2.2.1.toList))) && ((bt184.2.2.2.2.2.1 == bt201.2.2.2.2.2.1 && (bt184.2.2.2.2.2.2.1 == bt201.2.2.2.2.2.2.1 && (bt184.2.2.2.2.2.2.2.toList == bt201.2.2.2.2.2.2.2.toList))))))) = true then ((firkinlaw11_live.f).bind fun t209 => (some t209)) else (some false))) else (none))) else (none)))) else (some false)) = some r := H
                      have A59 := Aside0.mk A590
                      clear A590
                      by_cases c60 : t183 = true
                      · subst c60
                        have H1 : ((zone_Join.f t152 t153 t154 t155 t156 t157 t158 t159 t160 t161 t162 t163 t164 t165 t166 t167).bind fun bt184 => ((some (([] : List (S23)) : List (S23))).bind fun y192 => (if y192.length + l1.length < 4398046511104 then ((some (y192 ++ l1 : List (S23))).bind fun y195 => (if y195.length + l2.length < 4398046511104 then ((firkinref11_Of.f (y195 ++ l2)).bind fun bt201 => (if (bt184.1 == bt201.1 && (bt184.2.1 == bt201.2.1 && ((bt184.2.2.1 == bt201.2.2.1 && (bt184.2.2.2.1 == bt201.2.2.2.1 && (bt184.2.2.2.2.1.toList == bt201.2.2.2.2.1.toList))) && ((bt184.2.2.2.2.2.1 == bt201.2.2.2.2.2.1 && (bt184.2.2.2.2.2.2.1 == bt201.2.2.2.2.2.2.1 && (bt184.2.2.2.2.2.2.2.toList == bt201.2.2.2.2.2.2.2.toList))))))) = true then ((firkinlaw11_live.f).bind fun t209 => (some t209)) else (some false))) else (none))) else (none)))) = some r := by rw [if_pos rfl] at H; exact H
                        clear H
                        have H := H1
                        clear H1
                        replace H := Option.bind_eq_some_iff.mp H
                        obtain ⟨⟨t184, t185, t186, t187, t188, t189, t190, t191⟩, A610, H⟩ := H
                        replace H : ((some (([] : List (S23)) : List (S23))).bind fun y192 => (if y192.length + l1.length < 4398046511104 then ((some (y192 ++ l1 : List (S23))).bind fun y195 => (if y195.length + l2.length < 4398046511104 then ((firkinref11_Of.f (y195 ++ l2)).bind fun bt201 => (if (t184 == bt201.1 && (t185 == bt201.2.1 && ((t186 == bt201.2.2.1 && (t187 == bt201.2.2.2.1 && (t188.toList == bt201.2.2.2.2.1.toList))) && ((t189 == bt201.2.2.2.2.2.1 && (t190 == bt201.2.2.2.2.2.2.1 && (t191.toList == bt201.2.2.2.2.2.2.2.toList))))))) = true then ((firkinlaw11_live.f).bind fun t209 => (some t209)) else (some false))) else (none))) else (none))) = some r := H
                        have A61 := Aside0.mk A610
                        clear A610
                        obtain ⟨y192, hy192⟩ : ∃ y_ : List (S23), y_ = (([] : List (S23))) := ⟨_, rfl⟩
                        replace H : (if y192.length + l1.length < 4398046511104 then ((some (y192 ++ l1 : List (S23))).bind fun y195 => (if y195.length + l2.length < 4398046511104 then ((firkinref11_Of.f (y195 ++ l2)).bind fun bt201 => (if (t184 == bt201.1 && (t185 == bt201.2.1 && ((t186 == bt201.2.2.1 && (t187 == bt201.2.2.2.1 && (t188.toList == bt201.2.2.2.2.1.toList))) && ((t189 == bt201.2.2.2.2.2.1 && (t190 == bt201.2.2.2.2.2.2.1 && (t191.toList == bt201.2.2.2.2.2.2.2.toList))))))) = true then ((firkinlaw11_live.f).bind fun t209 => (some t209)) else (some false))) else (none))) else (none)) = some r := by first | (rw [hy192]; with_reducible exact H) | (have H2_ := (Option.bind_some _ _).symm.trans H; rw [hy192]; with_reducible exact H2_) | (have H2_ := (Option.bind_some _ _).symm.trans H; with_reducible exact H2_) | with_reducible exact H | (rw [hy192]; exact H) | exact H
                        have Ny192 := Aside0.mk hy192
                        clear hy192
                        by_cases c62 : y192.length + l1.length < 4398046511104
                        · rw [if_pos c62] at H
                          have LMc62 := Aside0.mk c62
                          clear c62
                          obtain ⟨y195, hy195⟩ : ∃ y_ : List (S23), y_ = (y192 ++ l1) := ⟨_, rfl⟩
                          replace H : (if y195.length + l2.length < 4398046511104 then ((firkinref11_Of.f (y195 ++ l2)).bind fun bt201 => (if (t184 == bt201.1 && (t185 == bt201.2.1 && ((t186 == bt201.2.2.1 && (t187 == bt201.2.2.2.1 && (t188.toList == bt201.2.2.2.2.1.toList))) && ((t189 == bt201.2.2.2.2.2.1 && (t190 == bt201.2.2.2.2.2.2.1 && (t191.toList == bt201.2.2.2.2.2.2.2.toList))))))) = true then ((firkinlaw11_live.f).bind fun t209 => (some t209)) else (some false))) else (none)) = some r := by first | (rw [hy195]; with_reducible exact H) | (have H2_ := (Option.bind_some _ _).symm.trans H; rw [hy195]; with_reducible exact H2_) | (have H2_ := (Option.bind_some _ _).symm.trans H; with_reducible exact H2_) | with_reducible exact H | (rw [hy195]; exact H) | exact H
                          have Ny195 := Aside0.mk hy195
                          clear hy195
                          by_cases c63 : y195.length + l2.length < 4398046511104
                          · rw [if_pos c63] at H
                            have LMc63 := Aside0.mk c63
                            clear c63
                            obtain ⟨y198, hy198⟩ : ∃ y_ : List (S23), y_ = (y195 ++ l2) := ⟨_, rfl⟩
                            replace H : ((firkinref11_Of.f y198).bind fun bt201 => (if (t184 == bt201.1 && (t185 == bt201.2.1 && ((t186 == bt201.2.2.1 && (t187 == bt201.2.2.2.1 && (t188.toList == bt201.2.2.2.2.1.toList))) && ((t189 == bt201.2.2.2.2.2.1 && (t190 == bt201.2.2.2.2.2.2.1 && (t191.toList == bt201.2.2.2.2.2.2.2.toList))))))) = true then ((firkinlaw11_live.f).bind fun t209 => (some t209)) else (some false))) = some r := by first | (rw [hy198]; with_reducible exact H) | (have H2_ := (Option.bind_some _ _).symm.trans H; rw [hy198]; with_reducible exact H2_) | (have H2_ := (Option.bind_some _ _).symm.trans H; with_reducible exact H2_) | with_reducible exact H | (rw [hy198]; exact H) | exact H
                            have Ny198 := Aside0.mk hy198
                            clear hy198
                            replace H := Option.bind_eq_some_iff.mp H
                            obtain ⟨⟨t201, t202, t203, t204, t205, t206, t207, t208⟩, A640, H⟩ := H
                            replace H : (if (t184 == t201 && (t185 == t202 && ((t186 == t203 && (t187 == t204 && (t188.toList == t205.toList))) && ((t189 == t206 && (t190 == t207 && (t191.toList == t208.toList))))))) = true then ((firkinlaw11_live.f).bind fun t209 => (some t209)) else (some false)) = some r := H
                            have A64 := Aside0.mk A640
                            clear A640
                            by_cases c65 : (t184 == t201 && (t185 == t202 && ((t186 == t203 && (t187 == t204 && (t188.toList == t205.toList))) && ((t189 == t206 && (t190 == t207 && (t191.toList == t208.toList))))))) = true
                            · rw [if_pos c65] at H
                              have c65b0 : (t184 == t201 && (t185 == t202 && ((t186 == t203 && (t187 == t204 && (t188.toList == t205.toList))) && ((t189 == t206 && (t190 == t207 && (t191.toList == t208.toList))))))) = true := c65
                              (try (have c65b1 : decide (t184 = t201 && (t185 == t202 && ((t186 == t203 && (t187 == t204 && (t188.toList == t205.toList))) && ((t189 == t206 && (t190 == t207 && (t191.toList == t208.toList))))))) = true := by simpa using c65))
                              (try (have c65b2 : (t184 == t201 && (t185 == t202 && ((t186 == t203 && (t187 == t204 && (t188.toList == t205.toList))) && ((t189 == t206 && (t190 == t207 && (t191.toList == t208.toList))))))) = true := by simpa using c65))
                              clear c65
                              replace H := Option.bind_eq_some_iff.mp H
                              obtain ⟨t209, A660, H⟩ := H
                              replace H : (some t209) = some r := H
                              have A66 := Aside0.mk A660
                              clear A660
                              obtain rfl := Option.some.inj H
                              have hnb67 := NB168_169.out
                              have hnc67 := NB169_168.out
                              have hcz68_0 : wr.cell? ⟨gb168, 0, none⟩ = some (.int .i64 t152) := (blk_cell BK168.out 0).trans rfl
                              have hcz68_1 : wr.cell? ⟨gb168, 1, none⟩ = some (.int .i64 t153) := (blk_cell BK168.out 1).trans rfl
                              have hcz68_2 : wr.cell? ⟨gb168, 2, none⟩ = some (.bool t154) := (blk_cell BK168.out 2).trans rfl
                              have hcz68_3 : wr.cell? ⟨gb168, 3, none⟩ = some (.int .i64 t155) := (blk_cell BK168.out 3).trans rfl
                              have hcz68_4 : wr.cell? ⟨gb168, 4, none⟩ = some (.string t156) := (blk_cell BK168.out 4).trans rfl
                              have hcz68_5 : wr.cell? ⟨gb168, 5, none⟩ = some (.bool t157) := (blk_cell BK168.out 5).trans rfl
                              have hcz68_6 : wr.cell? ⟨gb168, 6, none⟩ = some (.int .i64 t158) := (blk_cell BK168.out 6).trans rfl
                              have hcz68_7 : wr.cell? ⟨gb168, 7, none⟩ = some (.string t159) := (blk_cell BK168.out 7).trans rfl
                              have hfz68_0 := blk_frozen BK168.out 0
                              have hfz68_1 := blk_frozen BK168.out 1
                              have hfz68_2 := blk_frozen BK168.out 2
                              have hfz68_3 := blk_frozen BK168.out 3
                              have hfz68_4 := blk_frozen BK168.out 4
                              have hfz68_5 := blk_frozen BK168.out 5
                              have hfz68_6 := blk_frozen BK168.out 6
                              have hfz68_7 := blk_frozen BK168.out 7
                              go_wp2_with (first | ((with_reducible refine gate_callee (f := 16) rfl ?_); refine goesL_ (some 61) rfl rfl Try.func16 (by kernel_rfl) rfl #[.int .i64 a0, .agg #[.int .i64 t152, .int .i64 t153, .bool t154, .int .i64 t155, .string t156, .bool t157, .int .i64 t158, .string t159]] rfl (by (try simp only [List.map_toArray, List.map_cons, List.map_nil]); first | done | rfl | (simp only [List.length_drop, List.length_take]; rfl)) ?_; (with_reducible refine (zone_May.calls k3 a0 t152 t153 t154 t155 t156 t157 t158 t159 true _ A59.out).mono ?_); rintro e w69 ⟨rfl, hb⟩; refine ⟨_, rfl, ?_⟩; have n0_ := Aside0.mk (blk_below (g := gb168) (o := .cells #[.int .i64 t152, .int .i64 t153, .bool t154, .int .i64 t155, .string t156, .bool t157, .int .i64 t158, .string t159] 25 (0, 0)) (by (with_reducible repeat (first | refine blk_drewN ?_ _ | refine blk_drew ?_ | refine blk_alloc ?_ _)); exact BK168.out) hb); have n1_ := Aside0.mk (blk_below (g := gb169) (o := .cells #[.int .i64 t160, .int .i64 t161, .bool t162, .int .i64 t163, .string t164, .bool t165, .int .i64 t166, .string t167] 25 (0, 0)) (by (with_reducible repeat (first | refine blk_drewN ?_ _ | refine blk_drew ?_ | refine blk_alloc ?_ _)); exact BK169.out) hb); have n2_ := Aside0.mk (below_step (by repeat (first | (with_reducible first | exact HB.out | apply below_alloc | apply pw_below_drewN | apply below_drew1 | refine below_set ?_ GE168.out | refine below_set ?_ GE169.out) | exact HB.out)) hb); clear BK168; clear BK169; clear HB; have BK168 := n0_; have BK169 := n1_; have HB := n2_; clear n0_ n1_ n2_; (try clear hb); (try clear hb2); (try clear hk); (try clear hi); have hcz70_0 : w69.cell? ⟨gb168, 0, none⟩ = some (.int .i64 t152) := (blk_cell BK168.out 0).trans rfl; have hcz70_1 : w69.cell? ⟨gb168, 1, none⟩ = some (.int .i64 t153) := (blk_cell BK168.out 1).trans rfl; have hcz70_2 : w69.cell? ⟨gb168, 2, none⟩ = some (.bool t154) := (blk_cell BK168.out 2).trans rfl; have hcz70_3 : w69.cell? ⟨gb168, 3, none⟩ = some (.int .i64 t155) := (blk_cell BK168.out 3).trans rfl; have hcz70_4 : w69.cell? ⟨gb168, 4, none⟩ = some (.string t156) := (blk_cell BK168.out 4).trans rfl; have hcz70_5 : w69.cell? ⟨gb168, 5, none⟩ = some (.bool t157) := (blk_cell BK168.out 5).trans rfl; have hcz70_6 : w69.cell? ⟨gb168, 6, none⟩ = some (.int .i64 t158) := (blk_cell BK168.out 6).trans rfl; have hcz70_7 : w69.cell? ⟨gb168, 7, none⟩ = some (.string t159) := (blk_cell BK168.out 7).trans rfl; have hfz70_0 := blk_frozen BK168.out 0; have hfz70_1 := blk_frozen BK168.out 1; have hfz70_2 := blk_frozen BK168.out 2; have hfz70_3 := blk_frozen BK168.out 3; have hfz70_4 := blk_frozen BK168.out 4; have hfz70_5 := blk_frozen BK168.out 5; have hfz70_6 := blk_frozen BK168.out 6; have hfz70_7 := blk_frozen BK168.out 7; have hcz71_0 : w69.cell? ⟨gb169, 0, none⟩ = some (.int .i64 t160) := (blk_cell BK169.out 0).trans rfl; have hcz71_1 : w69.cell? ⟨gb169, 1, none⟩ = some (.int .i64 t161) := (blk_cell BK169.out 1).trans rfl; have hcz71_2 : w69.cell? ⟨gb169, 2, none⟩ = some (.bool t162) := (blk_cell BK169.out 2).trans rfl; have hcz71_3 : w69.cell? ⟨gb169, 3, none⟩ = some (.int .i64 t163) := (blk_cell BK169.out 3).trans rfl; have hcz71_4 : w69.cell? ⟨gb169, 4, none⟩ = some (.string t164) := (blk_cell BK169.out 4).trans rfl; have hcz71_5 : w69.cell? ⟨gb169, 5, none⟩ = some (.bool t165) := (blk_cell BK169.out 5).trans rfl; have hcz71_6 : w69.cell? ⟨gb169, 6, none⟩ = some (.int .i64 t166) := (blk_cell BK169.out 6).trans rfl; have hcz71_7 : w69.cell? ⟨gb169, 7, none⟩ = some (.string t167) := (blk_cell BK169.out 7).trans rfl; have hfz71_0 := blk_frozen BK169.out 0; have hfz71_1 := blk_frozen BK169.out 1; have hfz71_2 := blk_frozen BK169.out 2; have hfz71_3 := blk_frozen BK169.out 3; have hfz71_4 := blk_frozen BK169.out 4; have hfz71_5 := blk_frozen BK169.out 5; have hfz71_6 := blk_frozen BK169.out 6; have hfz71_7 := blk_frozen BK169.out 7) | (go_at_call 60; (with_reducible refine (zone_Join.calls t152 t153 t154 t155 t156 t157 t158 t159 t160 t161 t162 t163 t164 t165 t166 t167 t184 t185 t186 t187 t188 t189 t190 t191 _ A61.out).mono ?_); rintro e w72 ⟨rfl, hb⟩; have n0_ := Aside0.mk (blk_below (g := gb168) (o := .cells #[.int .i64 t152, .int .i64 t153, .bool t154, .int .i64 t155, .string t156, .bool t157, .int .i64 t158, .string t159] 25 (0, 0)) (by (with_reducible repeat (first | refine blk_drewN ?_ _ | refine blk_drew ?_ | refine blk_alloc ?_ _)); exact BK168.out) hb); have n1_ := Aside0.mk (blk_below (g := gb169) (o := .cells #[.int .i64 t160, .int .i64 t161, .bool t162, .int .i64 t163, .string t164, .bool t165, .int .i64 t166, .string t167] 25 (0, 0)) (by (with_reducible repeat (first | refine blk_drewN ?_ _ | refine blk_drew ?_ | refine blk_alloc ?_ _)); exact BK169.out) hb); have n2_ := Aside0.mk (below_step (by repeat (first | (with_reducible first | exact HB.out | apply below_alloc | apply pw_below_drewN | apply below_drew1 | refine below_set ?_ GE168.out | refine below_set ?_ GE169.out) | exact HB.out)) hb); clear BK168; clear BK169; clear HB; have BK168 := n0_; have BK169 := n1_; have HB := n2_; clear n0_ n1_ n2_; (try clear hb); (try clear hb2); (try clear hk); (try clear hi)) | ((with_reducible refine gate_dst (N := 66) rfl ?_); (try (refine gate_guard (by rfl) ?_; dsimp only)); refine Kd.R_lit k23 _ 23 ?hg (N := 66) ?hd (xs := ([] : List (S23))) (inner := []) (ok := fun _ => True) (okp := fun _ => True) ?hr ?hp (fun _ hk => hk) trivial (Below.refl _ _) (Nat.le_refl _) (by simp) ?_; (case hd => rfl); (case hg => rfl); (case hr => first | (go_simp; done) | (go_simp; rfl)); (case hp => exact (Reps.none _ _)); intro v193 w73 ho74 hb hg_ hnew_; clear hg_ hnew_; (first | rw [← Ny192.out] at ho74 | (simp only [Int.reduceToNat] at ho74; rw [← Ny192.out] at ho74)); have n0_ := Aside0.mk (Kd.R_lower ho74 (below_size (by repeat (first | (with_reducible first | exact HB.out | apply below_alloc | apply pw_below_drewN | apply below_drew1 | refine below_set ?_ GE168.out | refine below_set ?_ GE169.out) | exact HB.out)))); have n1_ := Aside0.mk (blk_below (g := gb168) (o := .cells #[.int .i64 t152, .int .i64 t153, .bool t154, .int .i64 t155, .string t156, .bool t157, .int .i64 t158, .string t159] 25 (0, 0)) (by (with_reducible repeat (first | refine blk_drewN ?_ _ | refine blk_drew ?_ | refine blk_alloc ?_ _)); exact BK168.out) hb); have n2_ := Aside0.mk (blk_below (g := gb169) (o := .cells #[.int .i64 t160, .int .i64 t161, .bool t162, .int .i64 t163, .string t164, .bool t165, .int .i64 t166, .string t167] 25 (0, 0)) (by (with_reducible repeat (first | refine blk_drewN ?_ _ | refine blk_drew ?_ | refine blk_alloc ?_ _)); exact BK169.out) hb); have n3_ := Aside0.mk (below_step (by repeat (first | (with_reducible first | exact HB.out | apply below_alloc | apply pw_below_drewN | apply below_drew1 | refine below_set ?_ GE168.out | refine below_set ?_ GE169.out) | exact HB.out)) hb); clear BK168; clear BK169; clear HB; have HO194 := n0_; have BK168 := n1_; have BK169 := n2_; have HB := n3_; clear n0_ n1_ n2_ n3_; clear hb ho74) | ((with_reducible refine gate_builtin (b := .append) (xs := #[.tmp 66, .tmp 67]) rfl ?_); (try (refine gate_guard (by rfl) ?_; dsimp only)); at_builtin; refine Kd.R_append_rows k23 (w0 := w) w.heap.size rfl (.tmp 66) (.tmp 67) 60 23 (.agg #[(.bool false), (.int .i64 0), (.string ⟨#[]⟩)]) 32 rfl Try.underlying60 info23 rfl (by decide) (by omega) v193 y192 l1 _ _ _ (fun _ => True) (fun _ => False) rfl rfl ?aO ?aR (fun _ _ h => h) (fun _ h => h.elim) ?aF ?aB ?aS ?aL ?_; (case aR => repeat (first | exact (Kd.C_below HR1.out HB.out) | (with_reducible refine Kd.C_alloc ?_ _) | (with_reducible refine Kd.C_drewN ?_ _) | (with_reducible refine Kd.C_drew ?_))); (case aB => exact (by repeat (first | (with_reducible first | exact HB.out | apply below_alloc | apply pw_below_drewN | apply below_drew1 | refine below_set ?_ GE168.out | refine below_set ?_ GE169.out) | exact HB.out))); (case aF => exact (fun _ _ => trivial)); (case aO => exact (by (with_reducible repeat (first | apply Kd.R_alloc | apply Kd.R_drewN | apply Kd.R_drew)); exact HO194.out)); (case aS => exact (below_size (by repeat (first | (with_reducible first | exact HB.out | apply below_alloc | apply pw_below_drewN | apply below_drew1 | refine below_set ?_ GE168.out | refine below_set ?_ GE169.out) | exact HB.out)))); (case aL => have := LMc62.out; omega); intro v196 w75 ho hb hg hat; rw [← Ny195.out] at ho; have n0_ := Aside0.mk (blk_grown (g := gb168) (o := .cells #[.int .i64 t152, .int .i64 t153, .bool t154, .int .i64 t155, .string t156, .bool t157, .int .i64 t158, .string t159] 25 (0, 0)) (by (with_reducible repeat (first | refine blk_drewN ?_ _ | refine blk_drew ?_ | refine blk_alloc ?_ _)); exact BK168.out) hg (Kd.R_ne HO194.out BK168.out (by decide))); have n1_ := Aside0.mk (blk_grown (g := gb169) (o := .cells #[.int .i64 t160, .int .i64 t161, .bool t162, .int .i64 t163, .string t164, .bool t165, .int .i64 t166, .string t167] 25 (0, 0)) (by (with_reducible repeat (first | refine blk_drewN ?_ _ | refine blk_drew ?_ | refine blk_alloc ?_ _)); exact BK169.out) hg (Kd.R_ne HO194.out BK169.out (by decide))); have n2_ := Aside0.mk (hb); have n3_ := Aside0.mk (ho); clear BK168; clear BK169; clear HB; clear HO194; have BK168 := n0_; have BK169 := n1_; have HB := n2_; have HO197 := n3_; clear n0_ n1_ n2_ n3_; clear ho hb hg hat) | ((with_reducible refine gate_builtin (b := .append) (xs := #[.tmp 68, .tmp 69]) rfl ?_); (try (refine gate_guard (by rfl) ?_; dsimp only)); at_builtin; refine Kd.R_append_rows k23 (w0 := w) w.heap.size rfl (.tmp 68) (.tmp 69) 60 23 (.agg #[(.bool false), (.int .i64 0), (.string ⟨#[]⟩)]) 32 rfl Try.underlying60 info23 rfl (by decide) (by omega) v196 y195 l2 _ _ _ (fun _ => True) (fun _ => False) rfl rfl ?aO ?aR (fun _ _ h => h) (fun _ h => h.elim) ?aF ?aB ?aS ?aL ?_; (case aR => repeat (first | exact (Kd.C_below HR2.out HB.out) | (with_reducible refine Kd.C_alloc ?_ _) | (with_reducible refine Kd.C_drewN ?_ _) | (with_reducible refine Kd.C_drew ?_))); (case aB => exact (by repeat (first | (with_reducible first | exact HB.out | apply below_alloc | apply pw_below_drewN | apply below_drew1 | refine below_set ?_ GE168.out | refine below_set ?_ GE169.out) | exact HB.out))); (case aF => exact (fun _ _ => trivial)); (case aO => exact (by (with_reducible repeat (first | apply Kd.R_alloc | apply Kd.R_drewN | apply Kd.R_drew)); exact HO197.out)); (case aS => exact (below_size (by repeat (first | (with_reducible first | exact HB.out | apply below_alloc | apply pw_below_drewN | apply below_drew1 | refine below_set ?_ GE168.out | refine below_set ?_ GE169.out) | exact HB.out)))); (case aL => have := LMc63.out; omega); intro v199 w76 ho hb hg hat; rw [← Ny198.out] at ho; have n0_ := Aside0.mk (blk_grown (g := gb168) (o := .cells #[.int .i64 t152, .int .i64 t153, .bool t154, .int .i64 t155, .string t156, .bool t157, .int .i64 t158, .string t159] 25 (0, 0)) (by (with_reducible repeat (first | refine blk_drewN ?_ _ | refine blk_drew ?_ | refine blk_alloc ?_ _)); exact BK168.out) hg (Kd.R_ne HO197.out BK168.out (by decide))); have n1_ := Aside0.mk (blk_grown (g := gb169) (o := .cells #[.int .i64 t160, .int .i64 t161, .bool t162, .int .i64 t163, .string t164, .bool t165, .int .i64 t166, .string t167] 25 (0, 0)) (by (with_reducible repeat (first | refine blk_drewN ?_ _ | refine blk_drew ?_ | refine blk_alloc ?_ _)); exact BK169.out) hg (Kd.R_ne HO197.out BK169.out (by decide))); have n2_ := Aside0.mk (hb); have n3_ := Aside0.mk (ho); clear BK168; clear BK169; clear HB; clear HO197; have BK168 := n0_; have BK169 := n1_; have HB := n2_; have HO200 := n3_; clear n0_ n1_ n2_ n3_; clear ho hb hg hat; obtain ⟨Ao77, co77, eo77⟩ := Kd.R_slice HO200.out; subst eo77) | (go_at_call 58; (with_reducible refine (firkinref11_Of.calls _ _ y198 t201 t202 t203 t204 t205 t206 t207 t208 _ ?side1 ?side2 A64.out).mono ?_); (case side1 => repeat (first | exact (Kd.R_reads' HO200.out).2.2 | (with_reducible refine Kd.C_alloc ?_ _) | (with_reducible refine Kd.C_drewN ?_ _) | (with_reducible refine Kd.C_drew ?_))); (case side2 => exact (Kd.R_reads' HO200.out).2.1); rintro e w78 ⟨rfl, hb⟩; have n0_ := Aside0.mk (Kd.R_below (by (with_reducible repeat (first | apply Kd.R_alloc | apply Kd.R_drewN | apply Kd.R_drew)); exact HO200.out) hb); have n1_ := Aside0.mk (blk_below (g := gb168) (o := .cells #[.int .i64 t152, .int .i64 t153, .bool t154, .int .i64 t155, .string t156, .bool t157, .int .i64 t158, .string t159] 25 (0, 0)) (by (with_reducible repeat (first | refine blk_drewN ?_ _ | refine blk_drew ?_ | refine blk_alloc ?_ _)); exact BK168.out) hb); have n2_ := Aside0.mk (blk_below (g := gb169) (o := .cells #[.int .i64 t160, .int .i64 t161, .bool t162, .int .i64 t163, .string t164, .bool t165, .int .i64 t166, .string t167] 25 (0, 0)) (by (with_reducible repeat (first | refine blk_drewN ?_ _ | refine blk_drew ?_ | refine blk_alloc ?_ _)); exact BK169.out) hb); have n3_ := Aside0.mk (below_step (by repeat (first | (with_reducible first | exact HB.out | apply below_alloc | apply pw_below_drewN | apply below_drew1 | refine below_set ?_ GE168.out | refine below_set ?_ GE169.out) | exact HB.out)) hb); clear HO200; clear BK168; clear BK169; clear HB; have HO200 := n0_; have BK168 := n1_; have BK169 := n2_; have HB := n3_; clear n0_ n1_ n2_ n3_; (try clear hb); (try clear hb2); (try clear hk); (try clear hi); (try clear A64)) | (go_at_call 15; (with_reducible refine (firkinlaw11_live.calls  t209 _ A66.out).mono ?_); rintro e w79 ⟨rfl, hb⟩; have n0_ := Aside0.mk (Kd.R_below (by (with_reducible repeat (first | apply Kd.R_alloc | apply Kd.R_drewN | apply Kd.R_drew)); exact HO200.out) hb); have n1_ := Aside0.mk (blk_below (g := gb168) (o := .cells #[.int .i64 t152, .int .i64 t153, .bool t154, .int .i64 t155, .string t156, .bool t157, .int .i64 t158, .string t159] 25 (0, 0)) (by (with_reducible repeat (first | refine blk_drewN ?_ _ | refine blk_drew ?_ | refine blk_alloc ?_ _)); exact BK168.out) hb); have n2_ := Aside0.mk (blk_below (g := gb169) (o := .cells #[.int .i64 t160, .int .i64 t161, .bool t162, .int .i64 t163, .string t164, .bool t165, .int .i64 t166, .string t167] 25 (0, 0)) (by (with_reducible repeat (first | refine blk_drewN ?_ _ | refine blk_drew ?_ | refine blk_alloc ?_ _)); exact BK169.out) hb); have n3_ := Aside0.mk (below_step (by repeat (first | (with_reducible first | exact HB.out | apply below_alloc | apply pw_below_drewN | apply below_drew1 | refine below_set ?_ GE168.out | refine below_set ?_ GE169.out) | exact HB.out)) hb); clear HO200; clear BK168; clear BK169; clear HB; have HO200 := n0_; have BK168 := n1_; have BK169 := n2_; have HB := n3_; clear n0_ n1_ n2_ n3_; (try clear hb); (try clear hb2); (try clear hk); (try clear hi); (try clear A66)))
                              go_ret
                              exact ⟨by first | rfl | (simp [errW_none, errW_some] <;> rfl) | (simp [*, errW_none, errW_some] <;> rfl), by repeat (first | (with_reducible first | exact HB.out | apply below_alloc | apply pw_below_drewN | apply below_drew1 | refine below_set ?_ GE168.out | refine below_set ?_ GE169.out) | exact HB.out)⟩
                            · rw [if_neg c65] at H
                              have c65b0 : (t184 == t201 && (t185 == t202 && ((t186 == t203 && (t187 == t204 && (t188.toList == t205.toList))) && ((t189 == t206 && (t190 == t207 && (t191.toList == t208.toList))))))) = false := by simpa using c65
                              (try (have c65b1 : decide (t184 = t201 && (t185 == t202 && ((t186 == t203 && (t187 == t204 && (t188.toList == t205.toList))) && ((t189 == t206 && (t190 == t207 && (t191.toList == t208.toList))))))) = false := by simpa using c65))
                              (try (have c65b2 : (t184 == t201 && (t185 == t202 && ((t186 == t203 && (t187 == t204 && (t188.toList == t205.toList))) && ((t189 == t206 && (t190 == t207 && (t191.toList == t208.toList))))))) = false := by simpa using c65))
                              (try (have c65b3 : ¬ (t184 = t201 && (t185 == t202 && ((t186 == t203 && (t187 == t204 && (t188.toList == t205.toList))) && ((t189 == t206 && (t190 == t207 && (t191.toList == t208.toList))))))) := by simpa using c65))
                              clear c65
                              obtain rfl := Option.some.inj H
                              have hnb80 := NB168_169.out
                              have hnc80 := NB169_168.out
                              have hcz81_0 : wr.cell? ⟨gb168, 0, none⟩ = some (.int .i64 t152) := (blk_cell BK168.out 0).trans rfl
                              have hcz81_1 : wr.cell? ⟨gb168, 1, none⟩ = some (.int .i64 t153) := (blk_cell BK168.out 1).trans rfl
                              have hcz81_2 : wr.cell? ⟨gb168, 2, none⟩ = some (.bool t154) := (blk_cell BK168.out 2).trans rfl
                              have hcz81_3 : wr.cell? ⟨gb168, 3, none⟩ = some (.int .i64 t155) := (blk_cell BK168.out 3).trans rfl
                              have hcz81_4 : wr.cell? ⟨gb168, 4, none⟩ = some (.string t156) := (blk_cell BK168.out 4).trans rfl
                              have hcz81_5 : wr.cell? ⟨gb168, 5, none⟩ = some (.bool t157) := (blk_cell BK168.out 5).trans rfl
                              have hcz81_6 : wr.cell? ⟨gb168, 6, none⟩ = some (.int .i64 t158) := (blk_cell BK168.out 6).trans rfl
                              have hcz81_7 : wr.cell? ⟨gb168, 7, none⟩ = some (.string t159) := (blk_cell BK168.out 7).trans rfl
                              have hfz81_0 := blk_frozen BK168.out 0
                              have hfz81_1 := blk_frozen BK168.out 1
                              have hfz81_2 := blk_frozen BK168.out 2
                              have hfz81_3 := blk_frozen BK168.out 3
                              have hfz81_4 := blk_frozen BK168.out 4
                              have hfz81_5 := blk_frozen BK168.out 5
                              have hfz81_6 := blk_frozen BK168.out 6
                              have hfz81_7 := blk_frozen BK168.out 7
                              go_wp2_with (first | ((with_reducible refine gate_callee (f := 16) rfl ?_); refine goesL_ (some 61) rfl rfl Try.func16 (by kernel_rfl) rfl #[.int .i64 a0, .agg #[.int .i64 t152, .int .i64 t153, .bool t154, .int .i64 t155, .string t156, .bool t157, .int .i64 t158, .string t159]] rfl (by (try simp only [List.map_toArray, List.map_cons, List.map_nil]); first | done | rfl | (simp only [List.length_drop, List.length_take]; rfl)) ?_; (with_reducible refine (zone_May.calls k3 a0 t152 t153 t154 t155 t156 t157 t158 t159 true _ A59.out).mono ?_); rintro e w82 ⟨rfl, hb⟩; refine ⟨_, rfl, ?_⟩; have n0_ := Aside0.mk (blk_below (g := gb168) (o := .cells #[.int .i64 t152, .int .i64 t153, .bool t154, .int .i64 t155, .string t156, .bool t157, .int .i64 t158, .string t159] 25 (0, 0)) (by (with_reducible repeat (first | refine blk_drewN ?_ _ | refine blk_drew ?_ | refine blk_alloc ?_ _)); exact BK168.out) hb); have n1_ := Aside0.mk (blk_below (g := gb169) (o := .cells #[.int .i64 t160, .int .i64 t161, .bool t162, .int .i64 t163, .string t164, .bool t165, .int .i64 t166, .string t167] 25 (0, 0)) (by (with_reducible repeat (first | refine blk_drewN ?_ _ | refine blk_drew ?_ | refine blk_alloc ?_ _)); exact BK169.out) hb); have n2_ := Aside0.mk (below_step (by repeat (first | (with_reducible first | exact HB.out | apply below_alloc | apply pw_below_drewN | apply below_drew1 | refine below_set ?_ GE168.out | refine below_set ?_ GE169.out) | exact HB.out)) hb); clear BK168; clear BK169; clear HB; have BK168 := n0_; have BK169 := n1_; have HB := n2_; clear n0_ n1_ n2_; (try clear hb); (try clear hb2); (try clear hk); (try clear hi); have hcz83_0 : w82.cell? ⟨gb168, 0, none⟩ = some (.int .i64 t152) := (blk_cell BK168.out 0).trans rfl; have hcz83_1 : w82.cell? ⟨gb168, 1, none⟩ = some (.int .i64 t153) := (blk_cell BK168.out 1).trans rfl; have hcz83_2 : w82.cell? ⟨gb168, 2, none⟩ = some (.bool t154) := (blk_cell BK168.out 2).trans rfl; have hcz83_3 : w82.cell? ⟨gb168, 3, none⟩ = some (.int .i64 t155) := (blk_cell BK168.out 3).trans rfl; have hcz83_4 : w82.cell? ⟨gb168, 4, none⟩ = some (.string t156) := (blk_cell BK168.out 4).trans rfl; have hcz83_5 : w82.cell? ⟨gb168, 5, none⟩ = some (.bool t157) := (blk_cell BK168.out 5).trans rfl; have hcz83_6 : w82.cell? ⟨gb168, 6, none⟩ = some (.int .i64 t158) := (blk_cell BK168.out 6).trans rfl; have hcz83_7 : w82.cell? ⟨gb168, 7, none⟩ = some (.string t159) := (blk_cell BK168.out 7).trans rfl; have hfz83_0 := blk_frozen BK168.out 0; have hfz83_1 := blk_frozen BK168.out 1; have hfz83_2 := blk_frozen BK168.out 2; have hfz83_3 := blk_frozen BK168.out 3; have hfz83_4 := blk_frozen BK168.out 4; have hfz83_5 := blk_frozen BK168.out 5; have hfz83_6 := blk_frozen BK168.out 6; have hfz83_7 := blk_frozen BK168.out 7; have hcz84_0 : w82.cell? ⟨gb169, 0, none⟩ = some (.int .i64 t160) := (blk_cell BK169.out 0).trans rfl; have hcz84_1 : w82.cell? ⟨gb169, 1, none⟩ = some (.int .i64 t161) := (blk_cell BK169.out 1).trans rfl; have hcz84_2 : w82.cell? ⟨gb169, 2, none⟩ = some (.bool t162) := (blk_cell BK169.out 2).trans rfl; have hcz84_3 : w82.cell? ⟨gb169, 3, none⟩ = some (.int .i64 t163) := (blk_cell BK169.out 3).trans rfl; have hcz84_4 : w82.cell? ⟨gb169, 4, none⟩ = some (.string t164) := (blk_cell BK169.out 4).trans rfl; have hcz84_5 : w82.cell? ⟨gb169, 5, none⟩ = some (.bool t165) := (blk_cell BK169.out 5).trans rfl; have hcz84_6 : w82.cell? ⟨gb169, 6, none⟩ = some (.int .i64 t166) := (blk_cell BK169.out 6).trans rfl; have hcz84_7 : w82.cell? ⟨gb169, 7, none⟩ = some (.string t167) := (blk_cell BK169.out 7).trans rfl; have hfz84_0 := blk_frozen BK169.out 0; have hfz84_1 := blk_frozen BK169.out 1; have hfz84_2 := blk_frozen BK169.out 2; have hfz84_3 := blk_frozen BK169.out 3; have hfz84_4 := blk_frozen BK169.out 4; have hfz84_5 := blk_frozen BK169.out 5; have hfz84_6 := blk_frozen BK169.out 6; have hfz84_7 := blk_frozen BK169.out 7) | (go_at_call 60; (with_reducible refine (zone_Join.calls t152 t153 t154 t155 t156 t157 t158 t159 t160 t161 t162 t163 t164 t165 t166 t167 t184 t185 t186 t187 t188 t189 t190 t191 _ A61.out).mono ?_); rintro e w85 ⟨rfl, hb⟩; have n0_ := Aside0.mk (blk_below (g := gb168) (o := .cells #[.int .i64 t152, .int .i64 t153, .bool t154, .int .i64 t155, .string t156, .bool t157, .int .i64 t158, .string t159] 25 (0, 0)) (by (with_reducible repeat (first | refine blk_drewN ?_ _ | refine blk_drew ?_ | refine blk_alloc ?_ _)); exact BK168.out) hb); have n1_ := Aside0.mk (blk_below (g := gb169) (o := .cells #[.int .i64 t160, .int .i64 t161, .bool t162, .int .i64 t163, .string t164, .bool t165, .int .i64 t166, .string t167] 25 (0, 0)) (by (with_reducible repeat (first | refine blk_drewN ?_ _ | refine blk_drew ?_ | refine blk_alloc ?_ _)); exact BK169.out) hb); have n2_ := Aside0.mk (below_step (by repeat (first | (with_reducible first | exact HB.out | apply below_alloc | apply pw_below_drewN | apply below_drew1 | refine below_set ?_ GE168.out | refine below_set ?_ GE169.out) | exact HB.out)) hb); clear BK168; clear BK169; clear HB; have BK168 := n0_; have BK169 := n1_; have HB := n2_; clear n0_ n1_ n2_; (try clear hb); (try clear hb2); (try clear hk); (try clear hi)) | ((with_reducible refine gate_dst (N := 66) rfl ?_); (try (refine gate_guard (by rfl) ?_; dsimp only)); refine Kd.R_lit k23 _ 23 ?hg (N := 66) ?hd (xs := ([] : List (S23))) (inner := []) (ok := fun _ => True) (okp := fun _ => True) ?hr ?hp (fun _ hk => hk) trivial (Below.refl _ _) (Nat.le_refl _) (by simp) ?_; (case hd => rfl); (case hg => rfl); (case hr => first | (go_simp; done) | (go_simp; rfl)); (case hp => exact (Reps.none _ _)); intro v193 w86 ho87 hb hg_ hnew_; clear hg_ hnew_; (first | rw [← Ny192.out] at ho87 | (simp only [Int.reduceToNat] at ho87; rw [← Ny192.out] at ho87)); have n0_ := Aside0.mk (Kd.R_lower ho87 (below_size (by repeat (first | (with_reducible first | exact HB.out | apply below_alloc | apply pw_below_drewN | apply below_drew1 | refine below_set ?_ GE168.out | refine below_set ?_ GE169.out) | exact HB.out)))); have n1_ := Aside0.mk (blk_below (g := gb168) (o := .cells #[.int .i64 t152, .int .i64 t153, .bool t154, .int .i64 t155, .string t156, .bool t157, .int .i64 t158, .string t159] 25 (0, 0)) (by (with_reducible repeat (first | refine blk_drewN ?_ _ | refine blk_drew ?_ | refine blk_alloc ?_ _)); exact BK168.out) hb); have n2_ := Aside0.mk (blk_below (g := gb169) (o := .cells #[.int .i64 t160, .int .i64 t161, .bool t162, .int .i64 t163, .string t164, .bool t165, .int .i64 t166, .string t167] 25 (0, 0)) (by (with_reducible repeat (first | refine blk_drewN ?_ _ | refine blk_drew ?_ | refine blk_alloc ?_ _)); exact BK169.out) hb); have n3_ := Aside0.mk (below_step (by repeat (first | (with_reducible first | exact HB.out | apply below_alloc | apply pw_below_drewN | apply below_drew1 | refine below_set ?_ GE168.out | refine below_set ?_ GE169.out) | exact HB.out)) hb); clear BK168; clear BK169; clear HB; have HO194 := n0_; have BK168 := n1_; have BK169 := n2_; have HB := n3_; clear n0_ n1_ n2_ n3_; clear hb ho87) | ((with_reducible refine gate_builtin (b := .append) (xs := #[.tmp 66, .tmp 67]) rfl ?_); (try (refine gate_guard (by rfl) ?_; dsimp only)); at_builtin; refine Kd.R_append_rows k23 (w0 := w) w.heap.size rfl (.tmp 66) (.tmp 67) 60 23 (.agg #[(.bool false), (.int .i64 0), (.string ⟨#[]⟩)]) 32 rfl Try.underlying60 info23 rfl (by decide) (by omega) v193 y192 l1 _ _ _ (fun _ => True) (fun _ => False) rfl rfl ?aO ?aR (fun _ _ h => h) (fun _ h => h.elim) ?aF ?aB ?aS ?aL ?_; (case aR => repeat (first | exact (Kd.C_below HR1.out HB.out) | (with_reducible refine Kd.C_alloc ?_ _) | (with_reducible refine Kd.C_drewN ?_ _) | (with_reducible refine Kd.C_drew ?_))); (case aB => exact (by repeat (first | (with_reducible first | exact HB.out | apply below_alloc | apply pw_below_drewN | apply below_drew1 | refine below_set ?_ GE168.out | refine below_set ?_ GE169.out) | exact HB.out))); (case aF => exact (fun _ _ => trivial)); (case aO => exact (by (with_reducible repeat (first | apply Kd.R_alloc | apply Kd.R_drewN | apply Kd.R_drew)); exact HO194.out)); (case aS => exact (below_size (by repeat (first | (with_reducible first | exact HB.out | apply below_alloc | apply pw_below_drewN | apply below_drew1 | refine below_set ?_ GE168.out | refine below_set ?_ GE169.out) | exact HB.out)))); (case aL => have := LMc62.out; omega); intro v196 w88 ho hb hg hat; rw [← Ny195.out] at ho; have n0_ := Aside0.mk (blk_grown (g := gb168) (o := .cells #[.int .i64 t152, .int .i64 t153, .bool t154, .int .i64 t155, .string t156, .bool t157, .int .i64 t158, .string t159] 25 (0, 0)) (by (with_reducible repeat (first | refine blk_drewN ?_ _ | refine blk_drew ?_ | refine blk_alloc ?_ _)); exact BK168.out) hg (Kd.R_ne HO194.out BK168.out (by decide))); have n1_ := Aside0.mk (blk_grown (g := gb169) (o := .cells #[.int .i64 t160, .int .i64 t161, .bool t162, .int .i64 t163, .string t164, .bool t165, .int .i64 t166, .string t167] 25 (0, 0)) (by (with_reducible repeat (first | refine blk_drewN ?_ _ | refine blk_drew ?_ | refine blk_alloc ?_ _)); exact BK169.out) hg (Kd.R_ne HO194.out BK169.out (by decide))); have n2_ := Aside0.mk (hb); have n3_ := Aside0.mk (ho); clear BK168; clear BK169; clear HB; clear HO194; have BK168 := n0_; have BK169 := n1_; have HB := n2_; have HO197 := n3_; clear n0_ n1_ n2_ n3_; clear ho hb hg hat) | ((with_reducible refine gate_builtin (b := .append) (xs := #[.tmp 68, .tmp 69]) rfl ?_); (try (refine gate_guard (by rfl) ?_; dsimp only)); at_builtin; refine Kd.R_append_rows k23 (w0 := w) w.heap.size rfl (.tmp 68) (.tmp 69) 60 23 (.agg #[(.bool false), (.int .i64 0), (.string ⟨#[]⟩)]) 32 rfl Try.underlying60 info23 rfl (by decide) (by omega) v196 y195 l2 _ _ _ (fun _ => True) (fun _ => False) rfl rfl ?aO ?aR (fun _ _ h => h) (fun _ h => h.elim) ?aF ?aB ?aS ?aL ?_; (case aR => repeat (first | exact (Kd.C_below HR2.out HB.out) | (with_reducible refine Kd.C_alloc ?_ _) | (with_reducible refine Kd.C_drewN ?_ _) | (with_reducible refine Kd.C_drew ?_))); (case aB => exact (by repeat (first | (with_reducible first | exact HB.out | apply below_alloc | apply pw_below_drewN | apply below_drew1 | refine below_set ?_ GE168.out | refine below_set ?_ GE169.out) | exact HB.out))); (case aF => exact (fun _ _ => trivial)); (case aO => exact (by (with_reducible repeat (first | apply Kd.R_alloc | apply Kd.R_drewN | apply Kd.R_drew)); exact HO197.out)); (case aS => exact (below_size (by repeat (first | (with_reducible first | exact HB.out | apply below_alloc | apply pw_below_drewN | apply below_drew1 | refine below_set ?_ GE168.out | refine below_set ?_ GE169.out) | exact HB.out)))); (case aL => have := LMc63.out; omega); intro v199 w89 ho hb hg hat; rw [← Ny198.out] at ho; have n0_ := Aside0.mk (blk_grown (g := gb168) (o := .cells #[.int .i64 t152, .int .i64 t153, .bool t154, .int .i64 t155, .string t156, .bool t157, .int .i64 t158, .string t159] 25 (0, 0)) (by (with_reducible repeat (first | refine blk_drewN ?_ _ | refine blk_drew ?_ | refine blk_alloc ?_ _)); exact BK168.out) hg (Kd.R_ne HO197.out BK168.out (by decide))); have n1_ := Aside0.mk (blk_grown (g := gb169) (o := .cells #[.int .i64 t160, .int .i64 t161, .bool t162, .int .i64 t163, .string t164, .bool t165, .int .i64 t166, .string t167] 25 (0, 0)) (by (with_reducible repeat (first | refine blk_drewN ?_ _ | refine blk_drew ?_ | refine blk_alloc ?_ _)); exact BK169.out) hg (Kd.R_ne HO197.out BK169.out (by decide))); have n2_ := Aside0.mk (hb); have n3_ := Aside0.mk (ho); clear BK168; clear BK169; clear HB; clear HO197; have BK168 := n0_; have BK169 := n1_; have HB := n2_; have HO200 := n3_; clear n0_ n1_ n2_ n3_; clear ho hb hg hat; obtain ⟨Ao90, co90, eo90⟩ := Kd.R_slice HO200.out; subst eo90) | (go_at_call 58; (with_reducible refine (firkinref11_Of.calls _ _ y198 t201 t202 t203 t204 t205 t206 t207 t208 _ ?side1 ?side2 A64.out).mono ?_); (case side1 => repeat (first | exact (Kd.R_reads' HO200.out).2.2 | (with_reducible refine Kd.C_alloc ?_ _) | (with_reducible refine Kd.C_drewN ?_ _) | (with_reducible refine Kd.C_drew ?_))); (case side2 => exact (Kd.R_reads' HO200.out).2.1); rintro e w91 ⟨rfl, hb⟩; have n0_ := Aside0.mk (Kd.R_below (by (with_reducible repeat (first | apply Kd.R_alloc | apply Kd.R_drewN | apply Kd.R_drew)); exact HO200.out) hb); have n1_ := Aside0.mk (blk_below (g := gb168) (o := .cells #[.int .i64 t152, .int .i64 t153, .bool t154, .int .i64 t155, .string t156, .bool t157, .int .i64 t158, .string t159] 25 (0, 0)) (by (with_reducible repeat (first | refine blk_drewN ?_ _ | refine blk_drew ?_ | refine blk_alloc ?_ _)); exact BK168.out) hb); have n2_ := Aside0.mk (blk_below (g := gb169) (o := .cells #[.int .i64 t160, .int .i64 t161, .bool t162, .int .i64 t163, .string t164, .bool t165, .int .i64 t166, .string t167] 25 (0, 0)) (by (with_reducible repeat (first | refine blk_drewN ?_ _ | refine blk_drew ?_ | refine blk_alloc ?_ _)); exact BK169.out) hb); have n3_ := Aside0.mk (below_step (by repeat (first | (with_reducible first | exact HB.out | apply below_alloc | apply pw_below_drewN | apply below_drew1 | refine below_set ?_ GE168.out | refine below_set ?_ GE169.out) | exact HB.out)) hb); clear HO200; clear BK168; clear BK169; clear HB; have HO200 := n0_; have BK168 := n1_; have BK169 := n2_; have HB := n3_; clear n0_ n1_ n2_ n3_; (try clear hb); (try clear hb2); (try clear hk); (try clear hi); (try clear A64)))
                              go_ret
                              exact ⟨by first | rfl | (simp [errW_none, errW_some] <;> rfl) | (simp [*, errW_none, errW_some] <;> rfl), by repeat (first | (with_reducible first | exact HB.out | apply below_alloc | apply pw_below_drewN | apply below_drew1 | refine below_set ?_ GE168.out | refine below_set ?_ GE169.out) | exact HB.out)⟩
                          · rw [if_neg c63] at H
                            exact absurd H (by simp)
                        · rw [if_neg c62] at H
                          exact absurd H (by simp)
                      · replace c60 := Bool.eq_false_iff.mpr c60
                        subst c60
                        have H1 : (some false) = some r := by rw [if_neg (show ¬ (false = true) by decide)] at H; exact H
                        clear H
                        have H := H1
                        clear H1
                        obtain rfl := Option.some.inj H
                        have hnb92 := NB168_169.out
                        have hnc92 := NB169_168.out
                        have hcz93_0 : wr.cell? ⟨gb168, 0, none⟩ = some (.int .i64 t152) := (blk_cell BK168.out 0).trans rfl
                        have hcz93_1 : wr.cell? ⟨gb168, 1, none⟩ = some (.int .i64 t153) := (blk_cell BK168.out 1).trans rfl
                        have hcz93_2 : wr.cell? ⟨gb168, 2, none⟩ = some (.bool t154) := (blk_cell BK168.out 2).trans rfl
                        have hcz93_3 : wr.cell? ⟨gb168, 3, none⟩ = some (.int .i64 t155) := (blk_cell BK168.out 3).trans rfl
                        have hcz93_4 : wr.cell? ⟨gb168, 4, none⟩ = some (.string t156) := (blk_cell BK168.out 4).trans rfl
                        have hcz93_5 : wr.cell? ⟨gb168, 5, none⟩ = some (.bool t157) := (blk_cell BK168.out 5).trans rfl
                        have hcz93_6 : wr.cell? ⟨gb168, 6, none⟩ = some (.int .i64 t158) := (blk_cell BK168.out 6).trans rfl
                        have hcz93_7 : wr.cell? ⟨gb168, 7, none⟩ = some (.string t159) := (blk_cell BK168.out 7).trans rfl
                        have hfz93_0 := blk_frozen BK168.out 0
                        have hfz93_1 := blk_frozen BK168.out 1
                        have hfz93_2 := blk_frozen BK168.out 2
                        have hfz93_3 := blk_frozen BK168.out 3
                        have hfz93_4 := blk_frozen BK168.out 4
                        have hfz93_5 := blk_frozen BK168.out 5
                        have hfz93_6 := blk_frozen BK168.out 6
                        have hfz93_7 := blk_frozen BK168.out 7
                        go_wp2_with (first | ((with_reducible refine gate_callee (f := 16) rfl ?_); refine goesL_ (some 61) rfl rfl Try.func16 (by kernel_rfl) rfl #[.int .i64 a0, .agg #[.int .i64 t152, .int .i64 t153, .bool t154, .int .i64 t155, .string t156, .bool t157, .int .i64 t158, .string t159]] rfl (by (try simp only [List.map_toArray, List.map_cons, List.map_nil]); first | done | rfl | (simp only [List.length_drop, List.length_take]; rfl)) ?_; (with_reducible refine (zone_May.calls k3 a0 t152 t153 t154 t155 t156 t157 t158 t159 false _ A59.out).mono ?_); rintro e w94 ⟨rfl, hb⟩; refine ⟨_, rfl, ?_⟩; have n0_ := Aside0.mk (blk_below (g := gb168) (o := .cells #[.int .i64 t152, .int .i64 t153, .bool t154, .int .i64 t155, .string t156, .bool t157, .int .i64 t158, .string t159] 25 (0, 0)) (by (with_reducible repeat (first | refine blk_drewN ?_ _ | refine blk_drew ?_ | refine blk_alloc ?_ _)); exact BK168.out) hb); have n1_ := Aside0.mk (blk_below (g := gb169) (o := .cells #[.int .i64 t160, .int .i64 t161, .bool t162, .int .i64 t163, .string t164, .bool t165, .int .i64 t166, .string t167] 25 (0, 0)) (by (with_reducible repeat (first | refine blk_drewN ?_ _ | refine blk_drew ?_ | refine blk_alloc ?_ _)); exact BK169.out) hb); have n2_ := Aside0.mk (below_step (by repeat (first | (with_reducible first | exact HB.out | apply below_alloc | apply pw_below_drewN | apply below_drew1 | refine below_set ?_ GE168.out | refine below_set ?_ GE169.out) | exact HB.out)) hb); clear BK168; clear BK169; clear HB; have BK168 := n0_; have BK169 := n1_; have HB := n2_; clear n0_ n1_ n2_; (try clear hb); (try clear hb2); (try clear hk); (try clear hi)))
                        go_ret
                        exact ⟨by first | rfl | (simp [errW_none, errW_some] <;> rfl) | (simp [*, errW_none, errW_some] <;> rfl), by repeat (first | (with_reducible first | exact HB.out | apply below_alloc | apply pw_below_drewN | apply below_drew1 | refine below_set ?_ GE168.out | refine below_set ?_ GE169.out) | exact HB.out)⟩

end Go.Proofs.Ytkdlfejokahohaa.X
