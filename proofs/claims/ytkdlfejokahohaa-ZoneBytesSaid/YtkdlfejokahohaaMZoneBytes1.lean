/- ZoneBytes: for every input the call returns true, and each argument reads behind the call as it read before it. No condition. (Part 2 of 10: this session's texts, laid together by wip/merge.py.) -/
import Derived.Test.YtkdlfejokahohaaX0
import Derived.Test.YtkdlfejokahohaaLen64c
import Derived.Test.YtkdlfejokahohaaMem2
import Derived.Test.YtkdlfejokahohaaBuf
import Derived.Lib.SliceRun
import Derived.Deep.LoopGhost
import Derived.Laws.Externs
import Derived.Lib.Hide
import Derived.Lib.ConvBytes
import Derived.Test.YtkdlfejokahohaaMZoneBytes0
set_option maxHeartbeats 8000000
set_option maxRecDepth 100000
namespace Go.Proofs.Ytkdlfejokahohaa.X
open Go.RowKit Go.Proofs.YtkdlfejokahohaaW.PrintWords Go.Proofs.YtkdlfejokahohaaW.PrintLast Go.Proofs.YtkdlfejokahohaaW.PrintMore
attribute [local go_sem] max2_int min2_int max_two min_two max_three min_three max_four min_four   -- for this text's walks alone
set_option linter.unusedVariables false
open List (setIfInBounds_toArray set_cons_zero set_cons_succ)
set_option linter.unusedSimpArgs false

attribute [local go_sem high] eqA23
mutual
def zone_May.j0 : Nat → Int → Bool → Int → Int → Bool → Int → ByteArray → Bool → Int → ByteArray → Option (Bool)
 | 0, _, _, _, _, _, _, _, _, _, _ => none
 | k + 1, x0, x5, x156000, x156001, x156002, x156003, x156004, x156005, x156006, x156007 => if x5 = true then (some false) else (if x156000 < 0 then (zone_May.j1 k x0 true x156000 x156001 x156002 x156003 x156004 x156005 x156006 x156007) else (if x156000 > 4096 then (zone_May.j1 k x0 true x156000 x156001 x156002 x156003 x156004 x156005 x156006 x156007) else (if x156001 < 0 then (zone_May.j1 k x0 true x156000 x156001 x156002 x156003 x156004 x156005 x156006 x156007) else (zone_May.j1 k x0 (decide (x156001 > x156000)) x156000 x156001 x156002 x156003 x156004 x156005 x156006 x156007))))
def zone_May.j1 : Nat → Int → Bool → Int → Int → Bool → Int → ByteArray → Bool → Int → ByteArray → Option (Bool)
 | 0, _, _, _, _, _, _, _, _, _, _ => none
 | k + 1, x0, x12, x156000, x156001, x156002, x156003, x156004, x156005, x156006, x156007 => if x12 = true then (some false) else ((zone_some.f x156000 x156001 x156002 x156003 x156004 x156005 x156006 x156007).bind fun t156 => (if t156 = true then ((cell_May.f x0 false x156002 x156003 x156004).bind fun t157 => (if t157 = true then ((cell_May.f x0 false x156005 x156006 x156007).bind fun t158 => (if t158 = true then ((cell_Order.f k x156002 x156003 x156004 x156005 x156006 x156007).bind fun t159 => (some (decide (t159 ≤ 0)))) else (some false))) else (some false))) else (if (!x156002 && (x156003 == 0 && (x156004.toList == ([] : List UInt8)))) = true then (some (!x156005 && (x156006 == 0 && (x156007.toList == ([] : List UInt8))))) else (some false))))
end
def zone_May.f (k : Nat) (a0 : Int) (a1_0 : Int) (a1_1 : Int) (a1_2 : Bool) (a1_3 : Int) (a1_4 : ByteArray) (a1_5 : Bool) (a1_6 : Int) (a1_7 : ByteArray) : Option (Bool) := if a0 < 1 then (zone_May.j0 k a0 true a1_0 a1_1 a1_2 a1_3 a1_4 a1_5 a1_6 a1_7) else (zone_May.j0 k a0 (decide (a0 > 3)) a1_0 a1_1 a1_2 a1_3 a1_4 a1_5 a1_6 a1_7)
theorem zone_May.mono_l : ∀ k, (∀ y0 y1 y2 y3 y4 y5 y6 y7 y8 y9, LeO (zone_May.j0 k y0 y1 y2 y3 y4 y5 y6 y7 y8 y9) (zone_May.j0 (k + 1) y0 y1 y2 y3 y4 y5 y6 y7 y8 y9)) ∧ (∀ y0 y1 y2 y3 y4 y5 y6 y7 y8 y9, LeO (zone_May.j1 k y0 y1 y2 y3 y4 y5 y6 y7 y8 y9) (zone_May.j1 (k + 1) y0 y1 y2 y3 y4 y5 y6 y7 y8 y9))
 | 0 => ⟨fun _ _ _ _ _ _ _ _ _ _ r h => by simp [zone_May.j0] at h, fun _ _ _ _ _ _ _ _ _ _ r h => by simp [zone_May.j1] at h⟩
 | k + 1 => by
  obtain ⟨ih0, ih1⟩ := zone_May.mono_l k
  refine ⟨?_, ?_⟩
  ·intro y0 y1 y2 y3 y4 y5 y6 y7 y8 y9
   unfold zone_May.j0
   repeat' first
   | (with_reducible exact ih0 _ _ _ _ _ _ _ _ _ _)
   | (with_reducible exact ih1 _ _ _ _ _ _ _ _ _ _)
   | (with_reducible exact cell_Order.mono _ _ _ _ _ _ _)
   | (with_reducible exact LeO.refl _)
   | (with_reducible exact LeO.none _)
   | (with_reducible refine LeO.ite ?_ ?_)
   | (with_reducible refine LeO.bind ?_ (fun _ => ?_))
   | exact ih0 _ _ _ _ _ _ _ _ _ _
   | exact ih1 _ _ _ _ _ _ _ _ _ _
   | exact cell_Order.mono _ _ _ _ _ _ _
   | exact LeO.none _
   | refine LeO.ite ?_ ?_
   | refine LeO.bind ?_ (fun _ => ?_)
  ·intro y0 y1 y2 y3 y4 y5 y6 y7 y8 y9
   unfold zone_May.j1
   repeat' first
   | (with_reducible exact ih0 _ _ _ _ _ _ _ _ _ _)
   | (with_reducible exact ih1 _ _ _ _ _ _ _ _ _ _)
   | (with_reducible exact cell_Order.mono _ _ _ _ _ _ _)
   | (with_reducible exact LeO.refl _)
   | (with_reducible exact LeO.none _)
   | (with_reducible refine LeO.ite ?_ ?_)
   | (with_reducible refine LeO.bind ?_ (fun _ => ?_))
   | exact ih0 _ _ _ _ _ _ _ _ _ _
   | exact ih1 _ _ _ _ _ _ _ _ _ _
   | exact cell_Order.mono _ _ _ _ _ _ _
   | exact LeO.none _
   | refine LeO.ite ?_ ?_
   | refine LeO.bind ?_ (fun _ => ?_)
theorem zone_May.mono : ∀ a0 a1 a2 a3 a4 a5 a6 a7 a8 k, LeO (zone_May.f k a0 a1 a2 a3 a4 a5 a6 a7 a8) (zone_May.f (k + 1) a0 a1 a2 a3 a4 a5 a6 a7 a8) := by
 intro a0 a1 a2 a3 a4 a5 a6 a7 a8 k
 obtain ⟨ih0, ih1⟩ := zone_May.mono_l k
 unfold zone_May.f
 repeat' first
   | (with_reducible exact ih0 _ _ _ _ _ _ _ _ _ _)
   | (with_reducible exact ih1 _ _ _ _ _ _ _ _ _ _)
   | (with_reducible exact cell_Order.mono _ _ _ _ _ _ _)
   | (with_reducible exact LeO.refl _)
   | (with_reducible exact LeO.none _)
   | (with_reducible refine LeO.ite ?_ ?_)
   | (with_reducible refine LeO.bind ?_ (fun _ => ?_))
   | exact ih0 _ _ _ _ _ _ _ _ _ _
   | exact ih1 _ _ _ _ _ _ _ _ _ _
   | exact cell_Order.mono _ _ _ _ _ _ _
   | exact LeO.none _
   | refine LeO.ite ?_ ?_
   | refine LeO.bind ?_ (fun _ => ?_)
theorem zone_May.calls (k : Nat) (a0 : Int) (a1_0 : Int) (a1_1 : Int) (a1_2 : Bool) (a1_3 : Int) (a1_4 : ByteArray) (a1_5 : Bool) (a1_6 : Int) (a1_7 : ByteArray) (r : Bool) (w : World) (h : zone_May.f k a0 a1_0 a1_1 a1_2 a1_3 a1_4 a1_5 a1_6 a1_7 = some r) :
  Calls Try.prog 16 #[.int .i64 a0, .agg #[.int .i64 a1_0, .int .i64 a1_1, .bool a1_2, .int .i64 a1_3, .string a1_4, .bool a1_5, .int .i64 a1_6, .string a1_7]] w fun e w' => e = .returned (.bool r) ∧ Below w.heap.size w w' := by
 have hu25 := Try.underlying25
 have hu23 := Try.underlying23
 have HB := A_ (Below.refl w.heap.size w)
 have H : (if a0 < 1 then (zone_May.j0 k a0 true a1_0 a1_1 a1_2 a1_3 a1_4 a1_5 a1_6 a1_7) else (zone_May.j0 k a0 (decide (a0 > 3)) a1_0 a1_1 a1_2 a1_3 a1_4 a1_5 a1_6 a1_7)) = some r := h
 clear h
 have HC3 := A_ H
 clear H
 go_enter Try.func16, Try.ntmps16
 go_upto_region 1 with (first | ((with_reducible refine gate_dst (N := 3) rfl ?_); refine box_event ?hg (N := 3) ?hd (cs := #[.int .i64 a1_0, .int .i64 a1_1, .bool a1_2, .int .i64 a1_3, .string a1_4, .bool a1_5, .int .i64 a1_6, .string a1_7]) (t := 25) ?hr ?_; (case hd => rfl); (case hg => rfl); (case hr => first | (go_simp; done) | (go_simp; rfl)); intro gb155 hg w4 hbox hb; have n0_ := A_ (bp_ (by repeat (first | (with_reducible first | exact HB.out | apply ba_ | apply bn_ | apply bd_) | exact HB.out)) hb); have n1_ := A_ (hbox); have n2_ := A_ ((by rw [hg]; exact (below_size (by repeat (first | (with_reducible first | exact HB.out | apply ba_ | apply bn_ | apply bd_) | exact HB.out))) : w.heap.size ≤ gb155)); have n3_ := A_ ((by rw [hg]; exact (below_size (by repeat (first | (with_reducible first | exact HB.out | apply ba_ | apply bn_ | apply bd_) | exact HB.out))) : w.heap.size ≤ gb155)); clear HB; have HB := n0_; have BK155 := n1_; have GW155 := n2_; have GE155 := n3_; clear n0_ n1_ n2_ n3_; clear hb hbox hg))
 (try simp only [Act.put, setIfInBounds_toArray, set_cons_zero, set_cons_succ])
 go_cut [5] (fun v5 wc => ∃ (kq : Nat) (x5_2 : Bool), v5 = .bool x5_2 ∧ Aside0 (zone_May.j0 kq a0 x5_2 a1_0 a1_1 a1_2 a1_3 a1_4 a1_5 a1_6 a1_7 = some r) ∧ Aside0 (kq ≤ k) ∧ Aside0 (wc.heap[gb155]? = some (.cells #[.int .i64 a1_0, .int .i64 a1_1, .bool a1_2, .int .i64 a1_3, .string a1_4, .bool a1_5, .int .i64 a1_6, .string a1_7] 25 (0, 0))) ∧ Aside0 (Below w.heap.size w wc))
 case first =>
  have H := HC3.out
  clear HC3
  by_cases c5 : a0 < 1
  ·rw [if_pos c5] at H
   have c5b0 : decide (a0 < 1) = true := decide_eq_true c5
   clear c5
   (first | rw [c5b0] | (simp only [i64_w, i32_w]; rw [c5b0]) | skip)
   have H' := A_ H
   clear H
   go_wp2
   go_meet
   case rel => exact ⟨_, (true), (by first | rfl | (simp; done) | (simp [*]; done)), H', ⟨by first | omega | exact Nat.le_refl _⟩, ⟨by (with_reducible repeat (first | refine kn_ ?_ _ | refine kd_ ?_ | refine ka_ ?_ _)); exact BK155.out⟩, ⟨by repeat (first | (with_reducible first | exact HB.out | apply ba_ | apply bn_ | apply bd_ | refine bs_ ?_ GE155.out) | exact HB.out)⟩⟩
  ·rw [if_neg c5] at H
   have c5b0 : decide (a0 < 1) = false := decide_eq_false c5
   clear c5
   (first | rw [c5b0] | (simp only [i64_w, i32_w]; rw [c5b0]) | skip)
   have H' := A_ H
   clear H
   go_wp2
   go_meet
   case rel => exact ⟨_, (decide (a0 > 3)), (by first | rfl | (simp; done) | (simp [*]; done)), H', ⟨by first | omega | exact Nat.le_refl _⟩, ⟨by (with_reducible repeat (first | refine kn_ ?_ _ | refine kd_ ?_ | refine ka_ ?_ _)); exact BK155.out⟩, ⟨by repeat (first | (with_reducible first | exact HB.out | apply ba_ | apply bn_ | apply bd_ | refine bs_ ?_ GE155.out) | exact HB.out)⟩⟩
 case rest =>
  clear HC3
  try clear c1
  try clear p2
  try clear c5
  try clear c5b0
  obtain ⟨kq, x5_2, rfl, HA, HJ2, BK155, HB⟩ := hcut
  cases kq with
  | zero => exact absurd HA.out (by simp [zone_May.j0])
  | succ kj2 =>
   have H := HA.out
   clear HA
   simp only [zone_May.j0] at H
   by_cases c6 : x5_2 = true
   ·subst c6
    have H1 : (some false) = some r := by rw [if_pos rfl] at H; exact H
    clear H
    have H := H1
    clear H1
    obtain rfl := Option.some.inj H
    go_wp2
    go_ret
    exact ⟨by first | rfl | (simp only [Go.Proofs.Ytkdlfejokahohaa.Strs.nilB]; rfl) | (simp [errW_none, errW_some] <;> rfl) | (simp [*, errW_none, errW_some] <;> rfl), by repeat (first | (with_reducible first | exact HB.out | apply ba_ | apply bn_ | apply bd_ | refine bs_ ?_ GE155.out) | exact HB.out)⟩
   ·replace c6 := Bool.eq_false_iff.mpr c6
    subst c6
    have H1 : (if a1_0 < 0 then (zone_May.j1 kj2 a0 true a1_0 a1_1 a1_2 a1_3 a1_4 a1_5 a1_6 a1_7) else (if a1_0 > 4096 then (zone_May.j1 kj2 a0 true a1_0 a1_1 a1_2 a1_3 a1_4 a1_5 a1_6 a1_7) else (if a1_1 < 0 then (zone_May.j1 kj2 a0 true a1_0 a1_1 a1_2 a1_3 a1_4 a1_5 a1_6 a1_7) else (zone_May.j1 kj2 a0 (decide (a1_1 > a1_0)) a1_0 a1_1 a1_2 a1_3 a1_4 a1_5 a1_6 a1_7)))) = some r := by rw [if_neg (show ¬ (false = true) by decide)] at H; exact H
    clear H
    have H := H1
    clear H1
    have HC7 := A_ H
    clear H
    go_upto_region 3 with (fail)
    go_cut [12] (fun v12 wc => ∃ (kq : Nat) (x12_6 : Bool), v12 = .bool x12_6 ∧ Aside0 (zone_May.j1 kq a0 x12_6 a1_0 a1_1 a1_2 a1_3 a1_4 a1_5 a1_6 a1_7 = some r) ∧ Aside0 (kq ≤ kj2) ∧ Aside0 (wc.heap[gb155]? = some (.cells #[.int .i64 a1_0, .int .i64 a1_1, .bool a1_2, .int .i64 a1_3, .string a1_4, .bool a1_5, .int .i64 a1_6, .string a1_7] 25 (0, 0))) ∧ Aside0 (Below w.heap.size w wc))
    case first =>
     have H := HC7.out
     clear HC7
     by_cases c8 : a1_0 < 0
     ·rw [if_pos c8] at H
      have c8b0 : decide (a1_0 < 0) = true := decide_eq_true c8
      clear c8
      (first | rw [c8b0] | (simp only [i64_w, i32_w]; rw [c8b0]) | skip)
      have H' := A_ H
      clear H
      have hcz9_0 : wc.cell? ⟨gb155, 0, none⟩ = some (.int .i64 a1_0) := (bc_ BK155.out 0).trans rfl
      have hcz9_1 : wc.cell? ⟨gb155, 1, none⟩ = some (.int .i64 a1_1) := (bc_ BK155.out 1).trans rfl
      have hcz9_2 : wc.cell? ⟨gb155, 2, none⟩ = some (.bool a1_2) := (bc_ BK155.out 2).trans rfl
      have hcz9_3 : wc.cell? ⟨gb155, 3, none⟩ = some (.int .i64 a1_3) := (bc_ BK155.out 3).trans rfl
      have hcz9_4 : wc.cell? ⟨gb155, 4, none⟩ = some (.string a1_4) := (bc_ BK155.out 4).trans rfl
      have hcz9_5 : wc.cell? ⟨gb155, 5, none⟩ = some (.bool a1_5) := (bc_ BK155.out 5).trans rfl
      have hcz9_6 : wc.cell? ⟨gb155, 6, none⟩ = some (.int .i64 a1_6) := (bc_ BK155.out 6).trans rfl
      have hcz9_7 : wc.cell? ⟨gb155, 7, none⟩ = some (.string a1_7) := (bc_ BK155.out 7).trans rfl
      have hfz9_0 := bf_ BK155.out 0
      have hfz9_1 := bf_ BK155.out 1
      have hfz9_2 := bf_ BK155.out 2
      have hfz9_3 := bf_ BK155.out 3
      have hfz9_4 := bf_ BK155.out 4
      have hfz9_5 := bf_ BK155.out 5
      have hfz9_6 := bf_ BK155.out 6
      have hfz9_7 := bf_ BK155.out 7
      go_wp2
      go_meet
      case rel => exact ⟨_, (true), (by first | rfl | (simp; done) | (simp [*]; done)), H', ⟨by have := HJ2.out; first | omega | exact Nat.le_refl _⟩, ⟨by (with_reducible repeat (first | refine kn_ ?_ _ | refine kd_ ?_ | refine ka_ ?_ _)); exact BK155.out⟩, ⟨by repeat (first | (with_reducible first | exact HB.out | apply ba_ | apply bn_ | apply bd_ | refine bs_ ?_ GE155.out) | exact HB.out)⟩⟩
     ·rw [if_neg c8] at H
      have c8b0 : decide (a1_0 < 0) = false := decide_eq_false c8
      clear c8
      (first | rw [c8b0] | (simp only [i64_w, i32_w]; rw [c8b0]) | skip)
      by_cases c10 : a1_0 > 4096
      ·rw [if_pos c10] at H
       have c10b0 : decide (4096 < a1_0) = true := decide_eq_true c10
       clear c10
       have H' := A_ H
       clear H
       have hcz11_0 : wc.cell? ⟨gb155, 0, none⟩ = some (.int .i64 a1_0) := (bc_ BK155.out 0).trans rfl
       have hcz11_1 : wc.cell? ⟨gb155, 1, none⟩ = some (.int .i64 a1_1) := (bc_ BK155.out 1).trans rfl
       have hcz11_2 : wc.cell? ⟨gb155, 2, none⟩ = some (.bool a1_2) := (bc_ BK155.out 2).trans rfl
       have hcz11_3 : wc.cell? ⟨gb155, 3, none⟩ = some (.int .i64 a1_3) := (bc_ BK155.out 3).trans rfl
       have hcz11_4 : wc.cell? ⟨gb155, 4, none⟩ = some (.string a1_4) := (bc_ BK155.out 4).trans rfl
       have hcz11_5 : wc.cell? ⟨gb155, 5, none⟩ = some (.bool a1_5) := (bc_ BK155.out 5).trans rfl
       have hcz11_6 : wc.cell? ⟨gb155, 6, none⟩ = some (.int .i64 a1_6) := (bc_ BK155.out 6).trans rfl
       have hcz11_7 : wc.cell? ⟨gb155, 7, none⟩ = some (.string a1_7) := (bc_ BK155.out 7).trans rfl
       have hfz11_0 := bf_ BK155.out 0
       have hfz11_1 := bf_ BK155.out 1
       have hfz11_2 := bf_ BK155.out 2
       have hfz11_3 := bf_ BK155.out 3
       have hfz11_4 := bf_ BK155.out 4
       have hfz11_5 := bf_ BK155.out 5
       have hfz11_6 := bf_ BK155.out 6
       have hfz11_7 := bf_ BK155.out 7
       go_wp2
       go_meet
       case rel => exact ⟨_, (true), (by first | rfl | (simp; done) | (simp [*]; done)), H', ⟨by have := HJ2.out; first | omega | exact Nat.le_refl _⟩, ⟨by (with_reducible repeat (first | refine kn_ ?_ _ | refine kd_ ?_ | refine ka_ ?_ _)); exact BK155.out⟩, ⟨by repeat (first | (with_reducible first | exact HB.out | apply ba_ | apply bn_ | apply bd_ | refine bs_ ?_ GE155.out) | exact HB.out)⟩⟩
      ·rw [if_neg c10] at H
       have c10b0 : decide (4096 < a1_0) = false := decide_eq_false c10
       clear c10
       by_cases c12 : a1_1 < 0
       ·rw [if_pos c12] at H
        have c12b0 : decide (a1_1 < 0) = true := decide_eq_true c12
        clear c12
        have H' := A_ H
        clear H
        have hcz13_0 : wc.cell? ⟨gb155, 0, none⟩ = some (.int .i64 a1_0) := (bc_ BK155.out 0).trans rfl
        have hcz13_1 : wc.cell? ⟨gb155, 1, none⟩ = some (.int .i64 a1_1) := (bc_ BK155.out 1).trans rfl
        have hcz13_2 : wc.cell? ⟨gb155, 2, none⟩ = some (.bool a1_2) := (bc_ BK155.out 2).trans rfl
        have hcz13_3 : wc.cell? ⟨gb155, 3, none⟩ = some (.int .i64 a1_3) := (bc_ BK155.out 3).trans rfl
        have hcz13_4 : wc.cell? ⟨gb155, 4, none⟩ = some (.string a1_4) := (bc_ BK155.out 4).trans rfl
        have hcz13_5 : wc.cell? ⟨gb155, 5, none⟩ = some (.bool a1_5) := (bc_ BK155.out 5).trans rfl
        have hcz13_6 : wc.cell? ⟨gb155, 6, none⟩ = some (.int .i64 a1_6) := (bc_ BK155.out 6).trans rfl
        have hcz13_7 : wc.cell? ⟨gb155, 7, none⟩ = some (.string a1_7) := (bc_ BK155.out 7).trans rfl
        have hfz13_0 := bf_ BK155.out 0
        have hfz13_1 := bf_ BK155.out 1
        have hfz13_2 := bf_ BK155.out 2
        have hfz13_3 := bf_ BK155.out 3
        have hfz13_4 := bf_ BK155.out 4
        have hfz13_5 := bf_ BK155.out 5
        have hfz13_6 := bf_ BK155.out 6
        have hfz13_7 := bf_ BK155.out 7
        go_wp2
        go_meet
        case rel => exact ⟨_, (true), (by first | rfl | (simp; done) | (simp [*]; done)), H', ⟨by have := HJ2.out; first | omega | exact Nat.le_refl _⟩, ⟨by (with_reducible repeat (first | refine kn_ ?_ _ | refine kd_ ?_ | refine ka_ ?_ _)); exact BK155.out⟩, ⟨by repeat (first | (with_reducible first | exact HB.out | apply ba_ | apply bn_ | apply bd_ | refine bs_ ?_ GE155.out) | exact HB.out)⟩⟩
       ·rw [if_neg c12] at H
        have c12b0 : decide (a1_1 < 0) = false := decide_eq_false c12
        clear c12
        have H' := A_ H
        clear H
        have hcz14_0 : wc.cell? ⟨gb155, 0, none⟩ = some (.int .i64 a1_0) := (bc_ BK155.out 0).trans rfl
        have hcz14_1 : wc.cell? ⟨gb155, 1, none⟩ = some (.int .i64 a1_1) := (bc_ BK155.out 1).trans rfl
        have hcz14_2 : wc.cell? ⟨gb155, 2, none⟩ = some (.bool a1_2) := (bc_ BK155.out 2).trans rfl
        have hcz14_3 : wc.cell? ⟨gb155, 3, none⟩ = some (.int .i64 a1_3) := (bc_ BK155.out 3).trans rfl
        have hcz14_4 : wc.cell? ⟨gb155, 4, none⟩ = some (.string a1_4) := (bc_ BK155.out 4).trans rfl
        have hcz14_5 : wc.cell? ⟨gb155, 5, none⟩ = some (.bool a1_5) := (bc_ BK155.out 5).trans rfl
        have hcz14_6 : wc.cell? ⟨gb155, 6, none⟩ = some (.int .i64 a1_6) := (bc_ BK155.out 6).trans rfl
        have hcz14_7 : wc.cell? ⟨gb155, 7, none⟩ = some (.string a1_7) := (bc_ BK155.out 7).trans rfl
        have hfz14_0 := bf_ BK155.out 0
        have hfz14_1 := bf_ BK155.out 1
        have hfz14_2 := bf_ BK155.out 2
        have hfz14_3 := bf_ BK155.out 3
        have hfz14_4 := bf_ BK155.out 4
        have hfz14_5 := bf_ BK155.out 5
        have hfz14_6 := bf_ BK155.out 6
        have hfz14_7 := bf_ BK155.out 7
        go_wp2
        go_meet
        case rel => exact ⟨_, (decide (a1_1 > a1_0)), (by first | rfl | (simp; done) | (simp [*]; done)), H', ⟨by have := HJ2.out; first | omega | exact Nat.le_refl _⟩, ⟨by (with_reducible repeat (first | refine kn_ ?_ _ | refine kd_ ?_ | refine ka_ ?_ _)); exact BK155.out⟩, ⟨by repeat (first | (with_reducible first | exact HB.out | apply ba_ | apply bn_ | apply bd_ | refine bs_ ?_ GE155.out) | exact HB.out)⟩⟩
    case rest =>
     clear HC7
     try clear c1
     try clear p2
     try clear c5
     try clear c5b0
     try clear c6
     try clear c8
     try clear c8b0
     try clear c10
     try clear c10b0
     try clear c12
     try clear c12b0
     try clear hcz11_0
     try clear hcz11_1
     try clear hcz11_2
     try clear hcz11_3
     try clear hcz11_4
     try clear hcz11_5
     try clear hcz11_6
     try clear hcz11_7
     try clear hcz13_0
     try clear hcz13_1
     try clear hcz13_2
     try clear hcz13_3
     try clear hcz13_4
     try clear hcz13_5
     try clear hcz13_6
     try clear hcz13_7
     try clear hcz14_0
     try clear hcz14_1
     try clear hcz14_2
     try clear hcz14_3
     try clear hcz14_4
     try clear hcz14_5
     try clear hcz14_6
     try clear hcz14_7
     try clear hcz9_0
     try clear hcz9_1
     try clear hcz9_2
     try clear hcz9_3
     try clear hcz9_4
     try clear hcz9_5
     try clear hcz9_6
     try clear hcz9_7
     try clear hfz11_0
     try clear hfz11_1
     try clear hfz11_2
     try clear hfz11_3
     try clear hfz11_4
     try clear hfz11_5
     try clear hfz11_6
     try clear hfz11_7
     try clear hfz13_0
     try clear hfz13_1
     try clear hfz13_2
     try clear hfz13_3
     try clear hfz13_4
     try clear hfz13_5
     try clear hfz13_6
     try clear hfz13_7
     try clear hfz14_0
     try clear hfz14_1
     try clear hfz14_2
     try clear hfz14_3
     try clear hfz14_4
     try clear hfz14_5
     try clear hfz14_6
     try clear hfz14_7
     try clear hfz9_0
     try clear hfz9_1
     try clear hfz9_2
     try clear hfz9_3
     try clear hfz9_4
     try clear hfz9_5
     try clear hfz9_6
     try clear hfz9_7
     try clear p2
     obtain ⟨kq, x12_6, rfl, HA, HJ6, BK155, HB⟩ := hcut
     cases kq with
     | zero => exact absurd HA.out (by simp [zone_May.j1])
     | succ kj6 =>
      have H := HA.out
      clear HA
      simp only [zone_May.j1] at H
      by_cases c15 : x12_6 = true
      ·subst c15
       have H1 : (some false) = some r := by rw [if_pos rfl] at H; exact H
       clear H
       have H := H1
       clear H1
       obtain rfl := Option.some.inj H
       go_wp2
       go_ret
       exact ⟨by first | rfl | (simp only [Go.Proofs.Ytkdlfejokahohaa.Strs.nilB]; rfl) | (simp [errW_none, errW_some] <;> rfl) | (simp [*, errW_none, errW_some] <;> rfl), by repeat (first | (with_reducible first | exact HB.out | apply ba_ | apply bn_ | apply bd_ | refine bs_ ?_ GE155.out) | exact HB.out)⟩
      ·replace c15 := Bool.eq_false_iff.mpr c15
       subst c15
       have H1 : ((zone_some.f a1_0 a1_1 a1_2 a1_3 a1_4 a1_5 a1_6 a1_7).bind fun t156 => (if t156 = true then ((cell_May.f a0 false a1_2 a1_3 a1_4).bind fun t157 => (if t157 = true then ((cell_May.f a0 false a1_5 a1_6 a1_7).bind fun t158 => (if t158 = true then ((cell_Order.f kj6 a1_2 a1_3 a1_4 a1_5 a1_6 a1_7).bind fun t159 => (some (decide (t159 ≤ 0)))) else (some false))) else (some false))) else (if (!a1_2 && (a1_3 == 0 && (a1_4.toList == ([] : List UInt8)))) = true then (some (!a1_5 && (a1_6 == 0 && (a1_7.toList == ([] : List UInt8))))) else (some false)))) = some r := by rw [if_neg (show ¬ (false = true) by decide)] at H; exact H
       clear H
       have H := H1
       clear H1
       replace H := Option.bind_eq_some_iff.mp H
       obtain ⟨t156, A160, H⟩ := H
       replace H : (if t156 = true then ((cell_May.f a0 false a1_2 a1_3 a1_4).bind fun t157 => (if t157 = true then ((cell_May.f a0 false a1_5 a1_6 a1_7).bind fun t158 => (if t158 = true then ((cell_Order.f kj6 a1_2 a1_3 a1_4 a1_5 a1_6 a1_7).bind fun t159 => (some (decide (t159 ≤ 0)))) else (some false))) else (some false))) else (if (!a1_2 && (a1_3 == 0 && (a1_4.toList == ([] : List UInt8)))) = true then (some (!a1_5 && (a1_6 == 0 && (a1_7.toList == ([] : List UInt8))))) else (some false))) = some r := H
       have A16 := A_ A160
       clear A160
       by_cases c17 : t156 = true
       ·subst c17
        have H1 : ((cell_May.f a0 false a1_2 a1_3 a1_4).bind fun t157 => (if t157 = true then ((cell_May.f a0 false a1_5 a1_6 a1_7).bind fun t158 => (if t158 = true then ((cell_Order.f kj6 a1_2 a1_3 a1_4 a1_5 a1_6 a1_7).bind fun t159 => (some (decide (t159 ≤ 0)))) else (some false))) else (some false))) = some r := by rw [if_pos rfl] at H; exact H
        clear H
        have H := H1
        clear H1
        replace H := Option.bind_eq_some_iff.mp H
        obtain ⟨t157, A180, H⟩ := H
        replace H : (if t157 = true then ((cell_May.f a0 false a1_5 a1_6 a1_7).bind fun t158 => (if t158 = true then ((cell_Order.f kj6 a1_2 a1_3 a1_4 a1_5 a1_6 a1_7).bind fun t159 => (some (decide (t159 ≤ 0)))) else (some false))) else (some false)) = some r := H
        have A18 := A_ A180
        clear A180
        by_cases c19 : t157 = true
        ·subst c19
         have H1 : ((cell_May.f a0 false a1_5 a1_6 a1_7).bind fun t158 => (if t158 = true then ((cell_Order.f kj6 a1_2 a1_3 a1_4 a1_5 a1_6 a1_7).bind fun t159 => (some (decide (t159 ≤ 0)))) else (some false))) = some r := by rw [if_pos rfl] at H; exact H
         clear H
         have H := H1
         clear H1
         replace H := Option.bind_eq_some_iff.mp H
         obtain ⟨t158, A200, H⟩ := H
         replace H : (if t158 = true then ((cell_Order.f kj6 a1_2 a1_3 a1_4 a1_5 a1_6 a1_7).bind fun t159 => (some (decide (t159 ≤ 0)))) else (some false)) = some r := H
         have A20 := A_ A200
         clear A200
         by_cases c21 : t158 = true
         ·subst c21
          have H1 : ((cell_Order.f kj6 a1_2 a1_3 a1_4 a1_5 a1_6 a1_7).bind fun t159 => (some (decide (t159 ≤ 0)))) = some r := by rw [if_pos rfl] at H; exact H
          clear H
          have H := H1
          clear H1
          replace H := Option.bind_eq_some_iff.mp H
          obtain ⟨t159, A220, H⟩ := H
          replace H : (some (decide (t159 ≤ 0))) = some r := H
          have A22 := A_ A220
          clear A220
          obtain rfl := Option.some.inj H
          have hcz23_0 : wc.cell? ⟨gb155, 0, none⟩ = some (.int .i64 a1_0) := (bc_ BK155.out 0).trans rfl
          have hcz23_1 : wc.cell? ⟨gb155, 1, none⟩ = some (.int .i64 a1_1) := (bc_ BK155.out 1).trans rfl
          have hcz23_2 : wc.cell? ⟨gb155, 2, none⟩ = some (.bool a1_2) := (bc_ BK155.out 2).trans rfl
          have hcz23_3 : wc.cell? ⟨gb155, 3, none⟩ = some (.int .i64 a1_3) := (bc_ BK155.out 3).trans rfl
          have hcz23_4 : wc.cell? ⟨gb155, 4, none⟩ = some (.string a1_4) := (bc_ BK155.out 4).trans rfl
          have hcz23_5 : wc.cell? ⟨gb155, 5, none⟩ = some (.bool a1_5) := (bc_ BK155.out 5).trans rfl
          have hcz23_6 : wc.cell? ⟨gb155, 6, none⟩ = some (.int .i64 a1_6) := (bc_ BK155.out 6).trans rfl
          have hcz23_7 : wc.cell? ⟨gb155, 7, none⟩ = some (.string a1_7) := (bc_ BK155.out 7).trans rfl
          have hfz23_0 := bf_ BK155.out 0
          have hfz23_1 := bf_ BK155.out 1
          have hfz23_2 := bf_ BK155.out 2
          have hfz23_3 := bf_ BK155.out 3
          have hfz23_4 := bf_ BK155.out 4
          have hfz23_5 := bf_ BK155.out 5
          have hfz23_6 := bf_ BK155.out 6
          have hfz23_7 := bf_ BK155.out 7
          go_wp2_with (first | ((with_reducible refine gate_callee (f := 72) rfl ?_); refine goesL_ (some 35) rfl rfl Try.func72 (by kernel_rfl) rfl #[.agg #[.int .i64 a1_0, .int .i64 a1_1, .bool a1_2, .int .i64 a1_3, .string a1_4, .bool a1_5, .int .i64 a1_6, .string a1_7]] rfl (by (try simp only [List.map_toArray, List.map_cons, List.map_nil]); first | done | rfl | (simp only [List.length_drop, List.length_take]; rfl)) ?_; (with_reducible refine (zone_some.calls a1_0 a1_1 a1_2 a1_3 a1_4 a1_5 a1_6 a1_7 true _ A16.out).mono ?_); rintro e w24 ⟨rfl, hb⟩; refine ⟨_, rfl, ?_⟩; have n0_ := A_ (blk_below (g := gb155) (o := .cells #[.int .i64 a1_0, .int .i64 a1_1, .bool a1_2, .int .i64 a1_3, .string a1_4, .bool a1_5, .int .i64 a1_6, .string a1_7] 25 (0, 0)) (by (with_reducible repeat (first | refine kn_ ?_ _ | refine kd_ ?_ | refine ka_ ?_ _)); exact BK155.out) hb); have n1_ := A_ (bp_ (by repeat (first | (with_reducible first | exact HB.out | apply ba_ | apply bn_ | apply bd_ | refine bs_ ?_ GE155.out) | exact HB.out)) hb); clear BK155; clear HB; have BK155 := n0_; have HB := n1_; clear n0_ n1_; (try clear hb); (try clear hb2); (try clear hk); (try clear hi); have hcz25_0 : w24.cell? ⟨gb155, 0, none⟩ = some (.int .i64 a1_0) := (bc_ BK155.out 0).trans rfl; have hcz25_1 : w24.cell? ⟨gb155, 1, none⟩ = some (.int .i64 a1_1) := (bc_ BK155.out 1).trans rfl; have hcz25_2 : w24.cell? ⟨gb155, 2, none⟩ = some (.bool a1_2) := (bc_ BK155.out 2).trans rfl; have hcz25_3 : w24.cell? ⟨gb155, 3, none⟩ = some (.int .i64 a1_3) := (bc_ BK155.out 3).trans rfl; have hcz25_4 : w24.cell? ⟨gb155, 4, none⟩ = some (.string a1_4) := (bc_ BK155.out 4).trans rfl; have hcz25_5 : w24.cell? ⟨gb155, 5, none⟩ = some (.bool a1_5) := (bc_ BK155.out 5).trans rfl; have hcz25_6 : w24.cell? ⟨gb155, 6, none⟩ = some (.int .i64 a1_6) := (bc_ BK155.out 6).trans rfl; have hcz25_7 : w24.cell? ⟨gb155, 7, none⟩ = some (.string a1_7) := (bc_ BK155.out 7).trans rfl; have hfz25_0 := bf_ BK155.out 0; have hfz25_1 := bf_ BK155.out 1; have hfz25_2 := bf_ BK155.out 2; have hfz25_3 := bf_ BK155.out 3; have hfz25_4 := bf_ BK155.out 4; have hfz25_5 := bf_ BK155.out 5; have hfz25_6 := bf_ BK155.out 6; have hfz25_7 := bf_ BK155.out 7) | ((with_reducible refine gate_callee (f := 73) rfl ?_); refine goesL_ (some 50) rfl rfl Try.func73 (by kernel_rfl) rfl #[.int .i64 a0, .bool false, .agg #[.bool a1_2, .int .i64 a1_3, .string a1_4]] rfl (by (try simp only [List.map_toArray, List.map_cons, List.map_nil]); first | done | rfl | (simp only [List.length_drop, List.length_take]; rfl)) ?_; (with_reducible refine (cell_May.calls a0 false a1_2 a1_3 a1_4 true _ A18.out).mono ?_); rintro e w26 ⟨rfl, hb⟩; refine ⟨_, rfl, ?_⟩; have n0_ := A_ (blk_below (g := gb155) (o := .cells #[.int .i64 a1_0, .int .i64 a1_1, .bool a1_2, .int .i64 a1_3, .string a1_4, .bool a1_5, .int .i64 a1_6, .string a1_7] 25 (0, 0)) (by (with_reducible repeat (first | refine kn_ ?_ _ | refine kd_ ?_ | refine ka_ ?_ _)); exact BK155.out) hb); have n1_ := A_ (bp_ (by repeat (first | (with_reducible first | exact HB.out | apply ba_ | apply bn_ | apply bd_ | refine bs_ ?_ GE155.out) | exact HB.out)) hb); clear BK155; clear HB; have BK155 := n0_; have HB := n1_; clear n0_ n1_; (try clear hb); (try clear hb2); (try clear hk); (try clear hi); have hcz27_0 : w26.cell? ⟨gb155, 0, none⟩ = some (.int .i64 a1_0) := (bc_ BK155.out 0).trans rfl; have hcz27_1 : w26.cell? ⟨gb155, 1, none⟩ = some (.int .i64 a1_1) := (bc_ BK155.out 1).trans rfl; have hcz27_2 : w26.cell? ⟨gb155, 2, none⟩ = some (.bool a1_2) := (bc_ BK155.out 2).trans rfl; have hcz27_3 : w26.cell? ⟨gb155, 3, none⟩ = some (.int .i64 a1_3) := (bc_ BK155.out 3).trans rfl; have hcz27_4 : w26.cell? ⟨gb155, 4, none⟩ = some (.string a1_4) := (bc_ BK155.out 4).trans rfl; have hcz27_5 : w26.cell? ⟨gb155, 5, none⟩ = some (.bool a1_5) := (bc_ BK155.out 5).trans rfl; have hcz27_6 : w26.cell? ⟨gb155, 6, none⟩ = some (.int .i64 a1_6) := (bc_ BK155.out 6).trans rfl; have hcz27_7 : w26.cell? ⟨gb155, 7, none⟩ = some (.string a1_7) := (bc_ BK155.out 7).trans rfl; have hfz27_0 := bf_ BK155.out 0; have hfz27_1 := bf_ BK155.out 1; have hfz27_2 := bf_ BK155.out 2; have hfz27_3 := bf_ BK155.out 3; have hfz27_4 := bf_ BK155.out 4; have hfz27_5 := bf_ BK155.out 5; have hfz27_6 := bf_ BK155.out 6; have hfz27_7 := bf_ BK155.out 7) | (go_at_call 73; (with_reducible refine (cell_May.calls a0 false a1_5 a1_6 a1_7 true _ A20.out).mono ?_); rintro e w28 ⟨rfl, hb⟩; have n0_ := A_ (blk_below (g := gb155) (o := .cells #[.int .i64 a1_0, .int .i64 a1_1, .bool a1_2, .int .i64 a1_3, .string a1_4, .bool a1_5, .int .i64 a1_6, .string a1_7] 25 (0, 0)) (by (with_reducible repeat (first | refine kn_ ?_ _ | refine kd_ ?_ | refine ka_ ?_ _)); exact BK155.out) hb); have n1_ := A_ (bp_ (by repeat (first | (with_reducible first | exact HB.out | apply ba_ | apply bn_ | apply bd_ | refine bs_ ?_ GE155.out) | exact HB.out)) hb); clear BK155; clear HB; have BK155 := n0_; have HB := n1_; clear n0_ n1_; (try clear hb); (try clear hb2); (try clear hk); (try clear hi); (try clear A20); have hcz29_0 : w28.cell? ⟨gb155, 0, none⟩ = some (.int .i64 a1_0) := (bc_ BK155.out 0).trans rfl; have hcz29_1 : w28.cell? ⟨gb155, 1, none⟩ = some (.int .i64 a1_1) := (bc_ BK155.out 1).trans rfl; have hcz29_2 : w28.cell? ⟨gb155, 2, none⟩ = some (.bool a1_2) := (bc_ BK155.out 2).trans rfl; have hcz29_3 : w28.cell? ⟨gb155, 3, none⟩ = some (.int .i64 a1_3) := (bc_ BK155.out 3).trans rfl; have hcz29_4 : w28.cell? ⟨gb155, 4, none⟩ = some (.string a1_4) := (bc_ BK155.out 4).trans rfl; have hcz29_5 : w28.cell? ⟨gb155, 5, none⟩ = some (.bool a1_5) := (bc_ BK155.out 5).trans rfl; have hcz29_6 : w28.cell? ⟨gb155, 6, none⟩ = some (.int .i64 a1_6) := (bc_ BK155.out 6).trans rfl; have hcz29_7 : w28.cell? ⟨gb155, 7, none⟩ = some (.string a1_7) := (bc_ BK155.out 7).trans rfl; have hfz29_0 := bf_ BK155.out 0; have hfz29_1 := bf_ BK155.out 1; have hfz29_2 := bf_ BK155.out 2; have hfz29_3 := bf_ BK155.out 3; have hfz29_4 := bf_ BK155.out 4; have hfz29_5 := bf_ BK155.out 5; have hfz29_6 := bf_ BK155.out 6; have hfz29_7 := bf_ BK155.out 7) | (go_at_call 74; (with_reducible refine (cell_Order.calls kj6 a1_2 a1_3 a1_4 a1_5 a1_6 a1_7 t159 _ A22.out).mono ?_); rintro e w30 ⟨rfl, hb⟩; have n0_ := A_ (blk_below (g := gb155) (o := .cells #[.int .i64 a1_0, .int .i64 a1_1, .bool a1_2, .int .i64 a1_3, .string a1_4, .bool a1_5, .int .i64 a1_6, .string a1_7] 25 (0, 0)) (by (with_reducible repeat (first | refine kn_ ?_ _ | refine kd_ ?_ | refine ka_ ?_ _)); exact BK155.out) hb); have n1_ := A_ (bp_ (by repeat (first | (with_reducible first | exact HB.out | apply ba_ | apply bn_ | apply bd_ | refine bs_ ?_ GE155.out) | exact HB.out)) hb); clear BK155; clear HB; have BK155 := n0_; have HB := n1_; clear n0_ n1_; (try clear hb); (try clear hb2); (try clear hk); (try clear hi)))
          go_ret
          exact ⟨by first | rfl | (simp only [Go.Proofs.Ytkdlfejokahohaa.Strs.nilB]; rfl) | (simp [errW_none, errW_some] <;> rfl) | (simp [*, errW_none, errW_some] <;> rfl), by repeat (first | (with_reducible first | exact HB.out | apply ba_ | apply bn_ | apply bd_ | refine bs_ ?_ GE155.out) | exact HB.out)⟩
         ·replace c21 := Bool.eq_false_iff.mpr c21
          subst c21
          have H1 : (some false) = some r := by rw [if_neg (show ¬ (false = true) by decide)] at H; exact H
          clear H
          have H := H1
          clear H1
          obtain rfl := Option.some.inj H
          have hcz31_0 : wc.cell? ⟨gb155, 0, none⟩ = some (.int .i64 a1_0) := (bc_ BK155.out 0).trans rfl
          have hcz31_1 : wc.cell? ⟨gb155, 1, none⟩ = some (.int .i64 a1_1) := (bc_ BK155.out 1).trans rfl
          have hcz31_2 : wc.cell? ⟨gb155, 2, none⟩ = some (.bool a1_2) := (bc_ BK155.out 2).trans rfl
          have hcz31_3 : wc.cell? ⟨gb155, 3, none⟩ = some (.int .i64 a1_3) := (bc_ BK155.out 3).trans rfl
          have hcz31_4 : wc.cell? ⟨gb155, 4, none⟩ = some (.string a1_4) := (bc_ BK155.out 4).trans rfl
          have hcz31_5 : wc.cell? ⟨gb155, 5, none⟩ = some (.bool a1_5) := (bc_ BK155.out 5).trans rfl
          have hcz31_6 : wc.cell? ⟨gb155, 6, none⟩ = some (.int .i64 a1_6) := (bc_ BK155.out 6).trans rfl
          have hcz31_7 : wc.cell? ⟨gb155, 7, none⟩ = some (.string a1_7) := (bc_ BK155.out 7).trans rfl
          have hfz31_0 := bf_ BK155.out 0
          have hfz31_1 := bf_ BK155.out 1
          have hfz31_2 := bf_ BK155.out 2
          have hfz31_3 := bf_ BK155.out 3
          have hfz31_4 := bf_ BK155.out 4
          have hfz31_5 := bf_ BK155.out 5
          have hfz31_6 := bf_ BK155.out 6
          have hfz31_7 := bf_ BK155.out 7
          go_wp2_with (first | ((with_reducible refine gate_callee (f := 72) rfl ?_); refine goesL_ (some 35) rfl rfl Try.func72 (by kernel_rfl) rfl #[.agg #[.int .i64 a1_0, .int .i64 a1_1, .bool a1_2, .int .i64 a1_3, .string a1_4, .bool a1_5, .int .i64 a1_6, .string a1_7]] rfl (by (try simp only [List.map_toArray, List.map_cons, List.map_nil]); first | done | rfl | (simp only [List.length_drop, List.length_take]; rfl)) ?_; (with_reducible refine (zone_some.calls a1_0 a1_1 a1_2 a1_3 a1_4 a1_5 a1_6 a1_7 true _ A16.out).mono ?_); rintro e w32 ⟨rfl, hb⟩; refine ⟨_, rfl, ?_⟩; have n0_ := A_ (blk_below (g := gb155) (o := .cells #[.int .i64 a1_0, .int .i64 a1_1, .bool a1_2, .int .i64 a1_3, .string a1_4, .bool a1_5, .int .i64 a1_6, .string a1_7] 25 (0, 0)) (by (with_reducible repeat (first | refine kn_ ?_ _ | refine kd_ ?_ | refine ka_ ?_ _)); exact BK155.out) hb); have n1_ := A_ (bp_ (by repeat (first | (with_reducible first | exact HB.out | apply ba_ | apply bn_ | apply bd_ | refine bs_ ?_ GE155.out) | exact HB.out)) hb); clear BK155; clear HB; have BK155 := n0_; have HB := n1_; clear n0_ n1_; (try clear hb); (try clear hb2); (try clear hk); (try clear hi); have hcz33_0 : w32.cell? ⟨gb155, 0, none⟩ = some (.int .i64 a1_0) := (bc_ BK155.out 0).trans rfl; have hcz33_1 : w32.cell? ⟨gb155, 1, none⟩ = some (.int .i64 a1_1) := (bc_ BK155.out 1).trans rfl; have hcz33_2 : w32.cell? ⟨gb155, 2, none⟩ = some (.bool a1_2) := (bc_ BK155.out 2).trans rfl; have hcz33_3 : w32.cell? ⟨gb155, 3, none⟩ = some (.int .i64 a1_3) := (bc_ BK155.out 3).trans rfl; have hcz33_4 : w32.cell? ⟨gb155, 4, none⟩ = some (.string a1_4) := (bc_ BK155.out 4).trans rfl; have hcz33_5 : w32.cell? ⟨gb155, 5, none⟩ = some (.bool a1_5) := (bc_ BK155.out 5).trans rfl; have hcz33_6 : w32.cell? ⟨gb155, 6, none⟩ = some (.int .i64 a1_6) := (bc_ BK155.out 6).trans rfl; have hcz33_7 : w32.cell? ⟨gb155, 7, none⟩ = some (.string a1_7) := (bc_ BK155.out 7).trans rfl; have hfz33_0 := bf_ BK155.out 0; have hfz33_1 := bf_ BK155.out 1; have hfz33_2 := bf_ BK155.out 2; have hfz33_3 := bf_ BK155.out 3; have hfz33_4 := bf_ BK155.out 4; have hfz33_5 := bf_ BK155.out 5; have hfz33_6 := bf_ BK155.out 6; have hfz33_7 := bf_ BK155.out 7) | ((with_reducible refine gate_callee (f := 73) rfl ?_); refine goesL_ (some 50) rfl rfl Try.func73 (by kernel_rfl) rfl #[.int .i64 a0, .bool false, .agg #[.bool a1_2, .int .i64 a1_3, .string a1_4]] rfl (by (try simp only [List.map_toArray, List.map_cons, List.map_nil]); first | done | rfl | (simp only [List.length_drop, List.length_take]; rfl)) ?_; (with_reducible refine (cell_May.calls a0 false a1_2 a1_3 a1_4 true _ A18.out).mono ?_); rintro e w34 ⟨rfl, hb⟩; refine ⟨_, rfl, ?_⟩; have n0_ := A_ (blk_below (g := gb155) (o := .cells #[.int .i64 a1_0, .int .i64 a1_1, .bool a1_2, .int .i64 a1_3, .string a1_4, .bool a1_5, .int .i64 a1_6, .string a1_7] 25 (0, 0)) (by (with_reducible repeat (first | refine kn_ ?_ _ | refine kd_ ?_ | refine ka_ ?_ _)); exact BK155.out) hb); have n1_ := A_ (bp_ (by repeat (first | (with_reducible first | exact HB.out | apply ba_ | apply bn_ | apply bd_ | refine bs_ ?_ GE155.out) | exact HB.out)) hb); clear BK155; clear HB; have BK155 := n0_; have HB := n1_; clear n0_ n1_; (try clear hb); (try clear hb2); (try clear hk); (try clear hi); have hcz35_0 : w34.cell? ⟨gb155, 0, none⟩ = some (.int .i64 a1_0) := (bc_ BK155.out 0).trans rfl; have hcz35_1 : w34.cell? ⟨gb155, 1, none⟩ = some (.int .i64 a1_1) := (bc_ BK155.out 1).trans rfl; have hcz35_2 : w34.cell? ⟨gb155, 2, none⟩ = some (.bool a1_2) := (bc_ BK155.out 2).trans rfl; have hcz35_3 : w34.cell? ⟨gb155, 3, none⟩ = some (.int .i64 a1_3) := (bc_ BK155.out 3).trans rfl; have hcz35_4 : w34.cell? ⟨gb155, 4, none⟩ = some (.string a1_4) := (bc_ BK155.out 4).trans rfl; have hcz35_5 : w34.cell? ⟨gb155, 5, none⟩ = some (.bool a1_5) := (bc_ BK155.out 5).trans rfl; have hcz35_6 : w34.cell? ⟨gb155, 6, none⟩ = some (.int .i64 a1_6) := (bc_ BK155.out 6).trans rfl; have hcz35_7 : w34.cell? ⟨gb155, 7, none⟩ = some (.string a1_7) := (bc_ BK155.out 7).trans rfl; have hfz35_0 := bf_ BK155.out 0; have hfz35_1 := bf_ BK155.out 1; have hfz35_2 := bf_ BK155.out 2; have hfz35_3 := bf_ BK155.out 3; have hfz35_4 := bf_ BK155.out 4; have hfz35_5 := bf_ BK155.out 5; have hfz35_6 := bf_ BK155.out 6; have hfz35_7 := bf_ BK155.out 7) | (go_at_call 73; (with_reducible refine (cell_May.calls a0 false a1_5 a1_6 a1_7 false _ A20.out).mono ?_); rintro e w36 ⟨rfl, hb⟩; have n0_ := A_ (blk_below (g := gb155) (o := .cells #[.int .i64 a1_0, .int .i64 a1_1, .bool a1_2, .int .i64 a1_3, .string a1_4, .bool a1_5, .int .i64 a1_6, .string a1_7] 25 (0, 0)) (by (with_reducible repeat (first | refine kn_ ?_ _ | refine kd_ ?_ | refine ka_ ?_ _)); exact BK155.out) hb); have n1_ := A_ (bp_ (by repeat (first | (with_reducible first | exact HB.out | apply ba_ | apply bn_ | apply bd_ | refine bs_ ?_ GE155.out) | exact HB.out)) hb); clear BK155; clear HB; have BK155 := n0_; have HB := n1_; clear n0_ n1_; (try clear hb); (try clear hb2); (try clear hk); (try clear hi); (try clear A20)))
          go_ret
          exact ⟨by first | rfl | (simp only [Go.Proofs.Ytkdlfejokahohaa.Strs.nilB]; rfl) | (simp [errW_none, errW_some] <;> rfl) | (simp [*, errW_none, errW_some] <;> rfl), by repeat (first | (with_reducible first | exact HB.out | apply ba_ | apply bn_ | apply bd_ | refine bs_ ?_ GE155.out) | exact HB.out)⟩
        ·replace c19 := Bool.eq_false_iff.mpr c19
         subst c19
         have H1 : (some false) = some r := by rw [if_neg (show ¬ (false = true) by decide)] at H; exact H
         clear H
         have H := H1
         clear H1
         obtain rfl := Option.some.inj H
         have hcz37_0 : wc.cell? ⟨gb155, 0, none⟩ = some (.int .i64 a1_0) := (bc_ BK155.out 0).trans rfl
         have hcz37_1 : wc.cell? ⟨gb155, 1, none⟩ = some (.int .i64 a1_1) := (bc_ BK155.out 1).trans rfl
         have hcz37_2 : wc.cell? ⟨gb155, 2, none⟩ = some (.bool a1_2) := (bc_ BK155.out 2).trans rfl
         have hcz37_3 : wc.cell? ⟨gb155, 3, none⟩ = some (.int .i64 a1_3) := (bc_ BK155.out 3).trans rfl
         have hcz37_4 : wc.cell? ⟨gb155, 4, none⟩ = some (.string a1_4) := (bc_ BK155.out 4).trans rfl
         have hcz37_5 : wc.cell? ⟨gb155, 5, none⟩ = some (.bool a1_5) := (bc_ BK155.out 5).trans rfl
         have hcz37_6 : wc.cell? ⟨gb155, 6, none⟩ = some (.int .i64 a1_6) := (bc_ BK155.out 6).trans rfl
         have hcz37_7 : wc.cell? ⟨gb155, 7, none⟩ = some (.string a1_7) := (bc_ BK155.out 7).trans rfl
         have hfz37_0 := bf_ BK155.out 0
         have hfz37_1 := bf_ BK155.out 1
         have hfz37_2 := bf_ BK155.out 2
         have hfz37_3 := bf_ BK155.out 3
         have hfz37_4 := bf_ BK155.out 4
         have hfz37_5 := bf_ BK155.out 5
         have hfz37_6 := bf_ BK155.out 6
         have hfz37_7 := bf_ BK155.out 7
         go_wp2_with (first | ((with_reducible refine gate_callee (f := 72) rfl ?_); refine goesL_ (some 35) rfl rfl Try.func72 (by kernel_rfl) rfl #[.agg #[.int .i64 a1_0, .int .i64 a1_1, .bool a1_2, .int .i64 a1_3, .string a1_4, .bool a1_5, .int .i64 a1_6, .string a1_7]] rfl (by (try simp only [List.map_toArray, List.map_cons, List.map_nil]); first | done | rfl | (simp only [List.length_drop, List.length_take]; rfl)) ?_; (with_reducible refine (zone_some.calls a1_0 a1_1 a1_2 a1_3 a1_4 a1_5 a1_6 a1_7 true _ A16.out).mono ?_); rintro e w38 ⟨rfl, hb⟩; refine ⟨_, rfl, ?_⟩; have n0_ := A_ (blk_below (g := gb155) (o := .cells #[.int .i64 a1_0, .int .i64 a1_1, .bool a1_2, .int .i64 a1_3, .string a1_4, .bool a1_5, .int .i64 a1_6, .string a1_7] 25 (0, 0)) (by (with_reducible repeat (first | refine kn_ ?_ _ | refine kd_ ?_ | refine ka_ ?_ _)); exact BK155.out) hb); have n1_ := A_ (bp_ (by repeat (first | (with_reducible first | exact HB.out | apply ba_ | apply bn_ | apply bd_ | refine bs_ ?_ GE155.out) | exact HB.out)) hb); clear BK155; clear HB; have BK155 := n0_; have HB := n1_; clear n0_ n1_; (try clear hb); (try clear hb2); (try clear hk); (try clear hi); have hcz39_0 : w38.cell? ⟨gb155, 0, none⟩ = some (.int .i64 a1_0) := (bc_ BK155.out 0).trans rfl; have hcz39_1 : w38.cell? ⟨gb155, 1, none⟩ = some (.int .i64 a1_1) := (bc_ BK155.out 1).trans rfl; have hcz39_2 : w38.cell? ⟨gb155, 2, none⟩ = some (.bool a1_2) := (bc_ BK155.out 2).trans rfl; have hcz39_3 : w38.cell? ⟨gb155, 3, none⟩ = some (.int .i64 a1_3) := (bc_ BK155.out 3).trans rfl; have hcz39_4 : w38.cell? ⟨gb155, 4, none⟩ = some (.string a1_4) := (bc_ BK155.out 4).trans rfl; have hcz39_5 : w38.cell? ⟨gb155, 5, none⟩ = some (.bool a1_5) := (bc_ BK155.out 5).trans rfl; have hcz39_6 : w38.cell? ⟨gb155, 6, none⟩ = some (.int .i64 a1_6) := (bc_ BK155.out 6).trans rfl; have hcz39_7 : w38.cell? ⟨gb155, 7, none⟩ = some (.string a1_7) := (bc_ BK155.out 7).trans rfl; have hfz39_0 := bf_ BK155.out 0; have hfz39_1 := bf_ BK155.out 1; have hfz39_2 := bf_ BK155.out 2; have hfz39_3 := bf_ BK155.out 3; have hfz39_4 := bf_ BK155.out 4; have hfz39_5 := bf_ BK155.out 5; have hfz39_6 := bf_ BK155.out 6; have hfz39_7 := bf_ BK155.out 7) | ((with_reducible refine gate_callee (f := 73) rfl ?_); refine goesL_ (some 50) rfl rfl Try.func73 (by kernel_rfl) rfl #[.int .i64 a0, .bool false, .agg #[.bool a1_2, .int .i64 a1_3, .string a1_4]] rfl (by (try simp only [List.map_toArray, List.map_cons, List.map_nil]); first | done | rfl | (simp only [List.length_drop, List.length_take]; rfl)) ?_; (with_reducible refine (cell_May.calls a0 false a1_2 a1_3 a1_4 false _ A18.out).mono ?_); rintro e w40 ⟨rfl, hb⟩; refine ⟨_, rfl, ?_⟩; have n0_ := A_ (blk_below (g := gb155) (o := .cells #[.int .i64 a1_0, .int .i64 a1_1, .bool a1_2, .int .i64 a1_3, .string a1_4, .bool a1_5, .int .i64 a1_6, .string a1_7] 25 (0, 0)) (by (with_reducible repeat (first | refine kn_ ?_ _ | refine kd_ ?_ | refine ka_ ?_ _)); exact BK155.out) hb); have n1_ := A_ (bp_ (by repeat (first | (with_reducible first | exact HB.out | apply ba_ | apply bn_ | apply bd_ | refine bs_ ?_ GE155.out) | exact HB.out)) hb); clear BK155; clear HB; have BK155 := n0_; have HB := n1_; clear n0_ n1_; (try clear hb); (try clear hb2); (try clear hk); (try clear hi)))
         go_ret
         exact ⟨by first | rfl | (simp only [Go.Proofs.Ytkdlfejokahohaa.Strs.nilB]; rfl) | (simp [errW_none, errW_some] <;> rfl) | (simp [*, errW_none, errW_some] <;> rfl), by repeat (first | (with_reducible first | exact HB.out | apply ba_ | apply bn_ | apply bd_ | refine bs_ ?_ GE155.out) | exact HB.out)⟩
       ·replace c17 := Bool.eq_false_iff.mpr c17
        subst c17
        have H1 : (if (!a1_2 && (a1_3 == 0 && (a1_4.toList == ([] : List UInt8)))) = true then (some (!a1_5 && (a1_6 == 0 && (a1_7.toList == ([] : List UInt8))))) else (some false)) = some r := by rw [if_neg (show ¬ (false = true) by decide)] at H; exact H
        clear H
        have H := H1
        clear H1
        by_cases c41 : (!a1_2 && (a1_3 == 0 && (a1_4.toList == ([] : List UInt8)))) = true
        ·rw [if_pos c41] at H
         have c41b0 : (!a1_2 && (a1_3 == 0 && (a1_4.toList == ([] : List UInt8)))) = true := c41
         have c41b0e := c41b0
         simp only [Go.Proofs.Ytkdlfejokahohaa.Strs.nilB] at c41b0e
         clear c41
         obtain rfl := Option.some.inj H
         have hcz42_0 : wc.cell? ⟨gb155, 0, none⟩ = some (.int .i64 a1_0) := (bc_ BK155.out 0).trans rfl
         have hcz42_1 : wc.cell? ⟨gb155, 1, none⟩ = some (.int .i64 a1_1) := (bc_ BK155.out 1).trans rfl
         have hcz42_2 : wc.cell? ⟨gb155, 2, none⟩ = some (.bool a1_2) := (bc_ BK155.out 2).trans rfl
         have hcz42_3 : wc.cell? ⟨gb155, 3, none⟩ = some (.int .i64 a1_3) := (bc_ BK155.out 3).trans rfl
         have hcz42_4 : wc.cell? ⟨gb155, 4, none⟩ = some (.string a1_4) := (bc_ BK155.out 4).trans rfl
         have hcz42_5 : wc.cell? ⟨gb155, 5, none⟩ = some (.bool a1_5) := (bc_ BK155.out 5).trans rfl
         have hcz42_6 : wc.cell? ⟨gb155, 6, none⟩ = some (.int .i64 a1_6) := (bc_ BK155.out 6).trans rfl
         have hcz42_7 : wc.cell? ⟨gb155, 7, none⟩ = some (.string a1_7) := (bc_ BK155.out 7).trans rfl
         have hfz42_0 := bf_ BK155.out 0
         have hfz42_1 := bf_ BK155.out 1
         have hfz42_2 := bf_ BK155.out 2
         have hfz42_3 := bf_ BK155.out 3
         have hfz42_4 := bf_ BK155.out 4
         have hfz42_5 := bf_ BK155.out 5
         have hfz42_6 := bf_ BK155.out 6
         have hfz42_7 := bf_ BK155.out 7
         go_wp2_with (first | ((with_reducible refine gate_callee (f := 72) rfl ?_); refine goesL_ (some 35) rfl rfl Try.func72 (by kernel_rfl) rfl #[.agg #[.int .i64 a1_0, .int .i64 a1_1, .bool a1_2, .int .i64 a1_3, .string a1_4, .bool a1_5, .int .i64 a1_6, .string a1_7]] rfl (by (try simp only [List.map_toArray, List.map_cons, List.map_nil]); first | done | rfl | (simp only [List.length_drop, List.length_take]; rfl)) ?_; (with_reducible refine (zone_some.calls a1_0 a1_1 a1_2 a1_3 a1_4 a1_5 a1_6 a1_7 false _ A16.out).mono ?_); rintro e w43 ⟨rfl, hb⟩; refine ⟨_, rfl, ?_⟩; have n0_ := A_ (blk_below (g := gb155) (o := .cells #[.int .i64 a1_0, .int .i64 a1_1, .bool a1_2, .int .i64 a1_3, .string a1_4, .bool a1_5, .int .i64 a1_6, .string a1_7] 25 (0, 0)) (by (with_reducible repeat (first | refine kn_ ?_ _ | refine kd_ ?_ | refine ka_ ?_ _)); exact BK155.out) hb); have n1_ := A_ (bp_ (by repeat (first | (with_reducible first | exact HB.out | apply ba_ | apply bn_ | apply bd_ | refine bs_ ?_ GE155.out) | exact HB.out)) hb); clear BK155; clear HB; have BK155 := n0_; have HB := n1_; clear n0_ n1_; (try clear hb); (try clear hb2); (try clear hk); (try clear hi); have hcz44_0 : w43.cell? ⟨gb155, 0, none⟩ = some (.int .i64 a1_0) := (bc_ BK155.out 0).trans rfl; have hcz44_1 : w43.cell? ⟨gb155, 1, none⟩ = some (.int .i64 a1_1) := (bc_ BK155.out 1).trans rfl; have hcz44_2 : w43.cell? ⟨gb155, 2, none⟩ = some (.bool a1_2) := (bc_ BK155.out 2).trans rfl; have hcz44_3 : w43.cell? ⟨gb155, 3, none⟩ = some (.int .i64 a1_3) := (bc_ BK155.out 3).trans rfl; have hcz44_4 : w43.cell? ⟨gb155, 4, none⟩ = some (.string a1_4) := (bc_ BK155.out 4).trans rfl; have hcz44_5 : w43.cell? ⟨gb155, 5, none⟩ = some (.bool a1_5) := (bc_ BK155.out 5).trans rfl; have hcz44_6 : w43.cell? ⟨gb155, 6, none⟩ = some (.int .i64 a1_6) := (bc_ BK155.out 6).trans rfl; have hcz44_7 : w43.cell? ⟨gb155, 7, none⟩ = some (.string a1_7) := (bc_ BK155.out 7).trans rfl; have hfz44_0 := bf_ BK155.out 0; have hfz44_1 := bf_ BK155.out 1; have hfz44_2 := bf_ BK155.out 2; have hfz44_3 := bf_ BK155.out 3; have hfz44_4 := bf_ BK155.out 4; have hfz44_5 := bf_ BK155.out 5; have hfz44_6 := bf_ BK155.out 6; have hfz44_7 := bf_ BK155.out 7))
         go_ret
         exact ⟨by first | rfl | (simp only [Go.Proofs.Ytkdlfejokahohaa.Strs.nilB]; rfl) | (simp [errW_none, errW_some] <;> rfl) | (simp [*, errW_none, errW_some] <;> rfl), by repeat (first | (with_reducible first | exact HB.out | apply ba_ | apply bn_ | apply bd_ | refine bs_ ?_ GE155.out) | exact HB.out)⟩
        ·rw [if_neg c41] at H
         have c41b0 : (!a1_2 && (a1_3 == 0 && (a1_4.toList == ([] : List UInt8)))) = false := by simpa using c41
         have c41b0e := c41b0
         simp only [Go.Proofs.Ytkdlfejokahohaa.Strs.nilB] at c41b0e
         clear c41
         obtain rfl := Option.some.inj H
         have hcz45_0 : wc.cell? ⟨gb155, 0, none⟩ = some (.int .i64 a1_0) := (bc_ BK155.out 0).trans rfl
         have hcz45_1 : wc.cell? ⟨gb155, 1, none⟩ = some (.int .i64 a1_1) := (bc_ BK155.out 1).trans rfl
         have hcz45_2 : wc.cell? ⟨gb155, 2, none⟩ = some (.bool a1_2) := (bc_ BK155.out 2).trans rfl
         have hcz45_3 : wc.cell? ⟨gb155, 3, none⟩ = some (.int .i64 a1_3) := (bc_ BK155.out 3).trans rfl
         have hcz45_4 : wc.cell? ⟨gb155, 4, none⟩ = some (.string a1_4) := (bc_ BK155.out 4).trans rfl
         have hcz45_5 : wc.cell? ⟨gb155, 5, none⟩ = some (.bool a1_5) := (bc_ BK155.out 5).trans rfl
         have hcz45_6 : wc.cell? ⟨gb155, 6, none⟩ = some (.int .i64 a1_6) := (bc_ BK155.out 6).trans rfl
         have hcz45_7 : wc.cell? ⟨gb155, 7, none⟩ = some (.string a1_7) := (bc_ BK155.out 7).trans rfl
         have hfz45_0 := bf_ BK155.out 0
         have hfz45_1 := bf_ BK155.out 1
         have hfz45_2 := bf_ BK155.out 2
         have hfz45_3 := bf_ BK155.out 3
         have hfz45_4 := bf_ BK155.out 4
         have hfz45_5 := bf_ BK155.out 5
         have hfz45_6 := bf_ BK155.out 6
         have hfz45_7 := bf_ BK155.out 7
         go_wp2_with (first | ((with_reducible refine gate_callee (f := 72) rfl ?_); refine goesL_ (some 35) rfl rfl Try.func72 (by kernel_rfl) rfl #[.agg #[.int .i64 a1_0, .int .i64 a1_1, .bool a1_2, .int .i64 a1_3, .string a1_4, .bool a1_5, .int .i64 a1_6, .string a1_7]] rfl (by (try simp only [List.map_toArray, List.map_cons, List.map_nil]); first | done | rfl | (simp only [List.length_drop, List.length_take]; rfl)) ?_; (with_reducible refine (zone_some.calls a1_0 a1_1 a1_2 a1_3 a1_4 a1_5 a1_6 a1_7 false _ A16.out).mono ?_); rintro e w46 ⟨rfl, hb⟩; refine ⟨_, rfl, ?_⟩; have n0_ := A_ (blk_below (g := gb155) (o := .cells #[.int .i64 a1_0, .int .i64 a1_1, .bool a1_2, .int .i64 a1_3, .string a1_4, .bool a1_5, .int .i64 a1_6, .string a1_7] 25 (0, 0)) (by (with_reducible repeat (first | refine kn_ ?_ _ | refine kd_ ?_ | refine ka_ ?_ _)); exact BK155.out) hb); have n1_ := A_ (bp_ (by repeat (first | (with_reducible first | exact HB.out | apply ba_ | apply bn_ | apply bd_ | refine bs_ ?_ GE155.out) | exact HB.out)) hb); clear BK155; clear HB; have BK155 := n0_; have HB := n1_; clear n0_ n1_; (try clear hb); (try clear hb2); (try clear hk); (try clear hi); have hcz47_0 : w46.cell? ⟨gb155, 0, none⟩ = some (.int .i64 a1_0) := (bc_ BK155.out 0).trans rfl; have hcz47_1 : w46.cell? ⟨gb155, 1, none⟩ = some (.int .i64 a1_1) := (bc_ BK155.out 1).trans rfl; have hcz47_2 : w46.cell? ⟨gb155, 2, none⟩ = some (.bool a1_2) := (bc_ BK155.out 2).trans rfl; have hcz47_3 : w46.cell? ⟨gb155, 3, none⟩ = some (.int .i64 a1_3) := (bc_ BK155.out 3).trans rfl; have hcz47_4 : w46.cell? ⟨gb155, 4, none⟩ = some (.string a1_4) := (bc_ BK155.out 4).trans rfl; have hcz47_5 : w46.cell? ⟨gb155, 5, none⟩ = some (.bool a1_5) := (bc_ BK155.out 5).trans rfl; have hcz47_6 : w46.cell? ⟨gb155, 6, none⟩ = some (.int .i64 a1_6) := (bc_ BK155.out 6).trans rfl; have hcz47_7 : w46.cell? ⟨gb155, 7, none⟩ = some (.string a1_7) := (bc_ BK155.out 7).trans rfl; have hfz47_0 := bf_ BK155.out 0; have hfz47_1 := bf_ BK155.out 1; have hfz47_2 := bf_ BK155.out 2; have hfz47_3 := bf_ BK155.out 3; have hfz47_4 := bf_ BK155.out 4; have hfz47_5 := bf_ BK155.out 5; have hfz47_6 := bf_ BK155.out 6; have hfz47_7 := bf_ BK155.out 7))
         go_ret
         exact ⟨by first | rfl | (simp only [Go.Proofs.Ytkdlfejokahohaa.Strs.nilB]; rfl) | (simp [errW_none, errW_some] <;> rfl) | (simp [*, errW_none, errW_some] <;> rfl), by repeat (first | (with_reducible first | exact HB.out | apply ba_ | apply bn_ | apply bd_ | refine bs_ ?_ GE155.out) | exact HB.out)⟩

end Go.Proofs.Ytkdlfejokahohaa.X
/- The contract of math/bits.Len64 for this program, after the shelf's template, in the form that printed callers ask for. -/
namespace Go.Proofs.Ytkdlfejokahohaa.X
open Go.RowKit Go.Proofs.YtkdlfejokahohaaW.PrintWords Go.Proofs.YtkdlfejokahohaaW.PrintLast Go.Proofs.YtkdlfejokahohaaW.PrintMore
set_option linter.unusedVariables false
set_option linter.unusedSimpArgs false
def bits_Len64.f (a0 : Int) : Option Int := if 0 ≤ a0 ∧ a0 ≤ 18446744073709551615 then some ((Lib.bitLen a0.toNat : Nat) : Int) else none
theorem bits_Len64.calls (a0 : Int) (r : Int) (w : World) (h : bits_Len64.f a0 = some r) :
  Calls Try.prog 80 #[.int .u64 a0] w fun e w' => e = .returned (.int .i64 r) ∧ Drawn0 w w' := by
 unfold bits_Len64.f at h
 by_cases hb : 0 ≤ a0 ∧ a0 ≤ 18446744073709551615
 ·rw [if_pos hb] at h
  obtain rfl := Option.some.inj h
  exact (Len64c.core a0 w hb.1 hb.2).mono fun e w' ⟨he, hw⟩ => ⟨he, by subst hw; exact Drawn0.refl _⟩
 ·rw [if_neg hb] at h
  cases h
end Go.Proofs.Ytkdlfejokahohaa.X
namespace Go.Proofs.Ytkdlfejokahohaa.X
open Go.RowKit Go.Proofs.YtkdlfejokahohaaW.PrintWords Go.Proofs.YtkdlfejokahohaaW.PrintLast Go.Proofs.YtkdlfejokahohaaW.PrintMore
attribute [local go_sem] max2_int min2_int max_two min_two max_three min_three max_four min_four   -- for this text's walks alone
set_option linter.unusedVariables false
open List (setIfInBounds_toArray set_cons_zero set_cons_succ)
set_option linter.unusedSimpArgs false

def vint_Num.l0 : Nat → Int → Int → List Int → Int → Int → Option (List Int)
 | 0, _, _, _, _, _ => none
 | k + 1, x0, x3, x4, x15, x16 => if x16 < x15 then (if 0 ≤ (wrap64 (7 * x16)) then (if 0 ≤ x16 then (if x16 < (x4.length : Int) then (vint_Num.l0 k x0 x3 (x4.set (x16 : Int).toNat (Go.bits .or .u8 (Go.bits .andNot .u8 ((shr .u64 x0 (wrap64 (7 * x16))) % 256) 128) 128)) x15 (wrap64 (x16 + 1))) else (none)) else (none)) else (none)) else (if 0 ≤ (wrap64 (x3 - 1)) then (if (wrap64 (x3 - 1)) < (x4.length : Int) then (some (x4.set ((wrap64 (x3 - 1)) : Int).toNat (Go.bits .andNot .u8 (rd x4 (wrap64 (x3 - 1))) 128))) else (none)) else (none))
def vint_Num.f (k : Nat) (a0 : Int) : Option (List Int) := (bits_Len64.f a0).bind fun t160 => (if 0 ≤ (mx 1 (wrap64 (Int.tdiv (wrap64 ((wrap64 (t160 + 7)) - 1)) 7))) then (if (mx 1 (wrap64 (Int.tdiv (wrap64 ((wrap64 (t160 + 7)) - 1)) 7)) : Int).toNat ≤ 281474976710656 then ((some (List.replicate (mx 1 (wrap64 (Int.tdiv (wrap64 ((wrap64 (t160 + 7)) - 1)) 7)) : Int).toNat 0 : List Int)).bind fun y161 => (vint_Num.l0 k a0 (mx 1 (wrap64 (Int.tdiv (wrap64 ((wrap64 (t160 + 7)) - 1)) 7))) y161 (y161.length : Int) 0)) else (none)) else (none))
theorem vint_Num.mono_l : ∀ k, (∀ y0 y1 y2 y3 y4, LeO (vint_Num.l0 k y0 y1 y2 y3 y4) (vint_Num.l0 (k + 1) y0 y1 y2 y3 y4))
 | 0 => fun _ _ _ _ _ r h => by simp [vint_Num.l0] at h
 | k + 1 => by
  have ih0 := vint_Num.mono_l k
  ·intro y0 y1 y2 y3 y4
   unfold vint_Num.l0
   repeat' first
   | (with_reducible exact ih0 _ _ _ _ _)
   | (with_reducible exact LeO.refl _)
   | (with_reducible exact LeO.none _)
   | (with_reducible refine LeO.ite ?_ ?_)
   | (with_reducible refine LeO.bind ?_ (fun _ => ?_))
   | exact ih0 _ _ _ _ _
   | exact LeO.none _
   | refine LeO.ite ?_ ?_
   | refine LeO.bind ?_ (fun _ => ?_)
theorem vint_Num.mono : ∀ a0 k, LeO (vint_Num.f k a0) (vint_Num.f (k + 1) a0) := by
 intro a0 k
 have ih0 := vint_Num.mono_l k
 unfold vint_Num.f
 repeat' first
   | (with_reducible exact ih0 _ _ _ _ _)
   | (with_reducible exact LeO.refl _)
   | (with_reducible exact LeO.none _)
   | (with_reducible refine LeO.ite ?_ ?_)
   | (with_reducible refine LeO.bind ?_ (fun _ => ?_))
   | exact ih0 _ _ _ _ _
   | exact LeO.none _
   | refine LeO.ite ?_ ?_
   | refine LeO.bind ?_ (fun _ => ?_)
theorem vint_Num.calls (k : Nat) (a0 : Int) (r : List Int) (w : World) (h : vint_Num.f k a0 = some r) :
  Calls Try.prog 45 #[.int .u64 a0] w fun e w' => ∃ v0_ : Value, e = .returned (v0_) ∧ Kd.R (Kd.int .u8) 5 w' w.heap.size (fun _ => True) v0_ r ∧ Below w.heap.size w w' := by
 have HB := A_ (Below.refl w.heap.size w)
 have H : ((bits_Len64.f a0).bind fun t160 => (if 0 ≤ (mx 1 (wrap64 (Int.tdiv (wrap64 ((wrap64 (t160 + 7)) - 1)) 7))) then (if (mx 1 (wrap64 (Int.tdiv (wrap64 ((wrap64 (t160 + 7)) - 1)) 7)) : Int).toNat ≤ 281474976710656 then ((some (List.replicate (mx 1 (wrap64 (Int.tdiv (wrap64 ((wrap64 (t160 + 7)) - 1)) 7)) : Int).toNat 0 : List Int)).bind fun y161 => (vint_Num.l0 k a0 (mx 1 (wrap64 (Int.tdiv (wrap64 ((wrap64 (t160 + 7)) - 1)) 7))) y161 (y161.length : Int) 0)) else (none)) else (none))) = some r := h
 clear h
 replace H := Option.bind_eq_some_iff.mp H
 obtain ⟨t160, A20, H⟩ := H
 replace H : (if 0 ≤ (mx 1 (wrap64 (Int.tdiv (wrap64 ((wrap64 (t160 + 7)) - 1)) 7))) then (if (mx 1 (wrap64 (Int.tdiv (wrap64 ((wrap64 (t160 + 7)) - 1)) 7)) : Int).toNat ≤ 281474976710656 then ((some (List.replicate (mx 1 (wrap64 (Int.tdiv (wrap64 ((wrap64 (t160 + 7)) - 1)) 7)) : Int).toNat 0 : List Int)).bind fun y161 => (vint_Num.l0 k a0 (mx 1 (wrap64 (Int.tdiv (wrap64 ((wrap64 (t160 + 7)) - 1)) 7))) y161 (y161.length : Int) 0)) else (none)) else (none)) = some r := H
 have A2 := A_ A20
 clear A20
 obtain ⟨ji3, hji3⟩ : ∃ j_ : Int, (mx 1 (wrap64 (Int.tdiv (wrap64 ((wrap64 (t160 + 7)) - 1)) 7))) = j_ := ⟨_, rfl⟩
 replace H : (if 0 ≤ (ji3) then (if (ji3 : Int).toNat ≤ 281474976710656 then ((some (List.replicate (ji3 : Int).toNat 0 : List Int)).bind fun y161 => (vint_Num.l0 k a0 ji3 y161 (y161.length : Int) 0)) else (none)) else (none)) = some r := by first | (rw [hji3] at H; exact H) | (simp only [hji3] at H ⊢; exact H)
 (try rw [hji3] at A2)
 (try (have hji3l : 1 ≤ ji3 := by (rw [← hji3]; unfold mx; (repeat' split) <;> omega)))
 (try (have hji3m : 0 ≤ ji3 := by omega))
 have hji3_ : (if 1 < (wrap64 (Int.tdiv (wrap64 ((wrap64 (t160 + 7)) - 1)) 7)) then (wrap64 (Int.tdiv (wrap64 ((wrap64 (t160 + 7)) - 1)) 7)) else 1) = ji3 := hji3
 by_cases c4 : 0 ≤ (ji3)
 ·rw [if_pos c4] at H
  have c4b0 := eq_true c4
  have c4b1 : decide (0 ≤ (ji3)) = true := decide_eq_true c4
  clear c4
  by_cases c5 : (ji3 : Int).toNat ≤ 281474976710656
  ·rw [if_pos c5] at H
   have c5b0 := eq_true c5
   have c5b1 : decide ((ji3 : Int).toNat ≤ 281474976710656) = true := decide_eq_true c5
   clear c5
   obtain ⟨y161, hy161⟩ : ∃ y_ : List Int, y_ = (List.replicate (ji3 : Int).toNat 0) := ⟨_, rfl⟩
   replace H : (vint_Num.l0 k a0 ji3 y161 (y161.length : Int) 0) = some r := by first | (rw [hy161]; with_reducible exact H) | (have H2_ := (Option.bind_some _ _).symm.trans H; rw [hy161]; with_reducible exact H2_) | (have H2_ := (Option.bind_some _ _).symm.trans H; with_reducible exact H2_) | with_reducible exact H | (rw [hy161]; exact H) | exact H
   have Ny161 := A_ hy161
   clear hy161
   have H' := A_ H
   clear H
   go_enter Try.func45, Try.ntmps45
   go_wp2_with (first | ((with_reducible refine gate_callee (f := 80) rfl ?_); refine goesL_ (some 7) rfl rfl Try.func80 (by kernel_rfl) rfl #[.int .u64 a0] rfl (by (try simp only [List.map_toArray, List.map_cons, List.map_nil]); first | done | rfl | (simp only [List.length_drop, List.length_take]; rfl)) ?_; (with_reducible refine (bits_Len64.calls a0 t160 _ A2.out).mono ?_); rintro e w' ⟨rfl, ⟨nd, rfl⟩⟩; refine ⟨_, rfl, ?_⟩) | ((with_reducible refine gate_dst (N := 13) rfl ?_); refine Kd.R_make (Kd.int .u8) _ 5 rfl (N := 13) rfl 31 _ _ rfl ji3 rfl rfl Try.underlying31 (.int .u8 0) 1 info5 rfl (by decide) (by omega) 0 (ok := fun _ => True) (okp := fun _ => True) rfl (fun _ hk => hk) trivial (of_decide_eq_true (by first | (with_reducible assumption) | assumption)) (Nat.le_trans (Nat.mul_le_mul_right _ (of_decide_eq_true (by first | (with_reducible assumption) | assumption) : ji3.toNat ≤ 281474976710656)) (by omega)) (Below.refl _ _) (Nat.le_refl _) ?_; intro v162 w6 ho7 hb hg_ hnew_; clear hg_ hnew_; (first | rw [← Ny161.out] at ho7 | (simp only [Int.reduceToNat] at ho7; rw [← Ny161.out] at ho7)); have n0_ := A_ (Kd.R_lower ho7 (below_size (by repeat (first | (with_reducible first | exact HB.out | apply ba_ | apply bn_ | apply bd_) | exact HB.out)))); have n1_ := A_ (bp_ (by repeat (first | (with_reducible first | exact HB.out | apply ba_ | apply bn_ | apply bd_) | exact HB.out)) hb); clear HB; have HO163 := n0_; have HB := n1_; clear n0_ n1_; clear hb ho7; obtain ⟨Ao8, co8, eo8⟩ := Kd.R_slice HO163.out; subst eo8))
   go_loopg [16] k (fun kq v16 w' => ∃ (x4_1 : List Int) (x16_1 : Int), v16 = .int .i64 x16_1 ∧ Aside0 (vint_Num.l0 kq a0 ji3 x4_1 (y161.length : Int) x16_1 = some r) ∧ Aside0 (kq ≤ k) ∧ Aside0 (Kd.R (Kd.int .u8) 5 w' w.heap.size (fun _ => True) (.slice Ao8 y161.length co8) x4_1) ∧ Aside0 (Below w.heap.size w w'))
   case atStart => exact ⟨(y161), (0), (by first | rfl | (simp; done) | (simp [*]; done)), H', ⟨Nat.le_refl _⟩, ⟨by (with_reducible repeat (first | apply Kd.R_alloc | apply Kd.R_drewN | apply Kd.R_drew)); exact HO163.out⟩, ⟨by repeat (first | (with_reducible first | exact HB.out | apply ba_ | apply bn_ | apply bd_) | exact HB.out)⟩⟩
   case round =>
    clear H'
    try clear p2
    try clear c4
    try clear c4b0
    try clear c4b1
    try clear c5
    try clear c5b0
    try clear c5b1
    try clear p6
    try clear c8
    obtain ⟨x4_1, x16_1, rfl, HA, HK1, HO_4, HB⟩ := hrel
    have hl4_1 := (Kd.R_reads' HO_4.out).1
    rw [hl4_1] at HO_4
    (try simp only [hl4_1])
    cases gk with
    | zero => exact absurd HA.out (by simp [vint_Num.l0])
    | succ k1 =>
     have H := HA.out
     clear HA
     simp only [vint_Num.l0] at H
     by_cases c9 : x16_1 < (y161.length : Int)
     ·rw [if_pos c9] at H
      have c9b0 : decide (x16_1 < (y161.length : Int)) = true := decide_eq_true c9
      have c9b0l := c9b0
      (try simp only [hl4_1] at c9b0l)
      clear c9
      obtain ⟨ji10, hji10⟩ : ∃ j_ : Int, (wrap64 (7 * x16_1)) = j_ := ⟨_, rfl⟩
      replace H : (if 0 ≤ (ji10) then (if 0 ≤ x16_1 then (if x16_1 < (x4_1.length : Int) then (vint_Num.l0 k1 a0 ji3 (x4_1.set (x16_1 : Int).toNat (Go.bits .or .u8 (Go.bits .andNot .u8 ((shr .u64 a0 (ji10)) % 256) 128) 128)) (y161.length : Int) (wrap64 (x16_1 + 1))) else (none)) else (none)) else (none)) = some r := by first | (rw [hji10] at H; exact H) | (simp only [hji10] at H ⊢; exact H)
      have hji10w : (IntKind.i64.wrap (7 * x16_1)) = ji10 := (i64_w _).trans hji10
      by_cases c11 : 0 ≤ (ji10)
      ·rw [if_pos c11] at H
       have c11b0 := eq_true c11
       have c11b1 : decide (0 ≤ (ji10)) = true := decide_eq_true c11
       clear c11
       obtain ⟨ji12, hji12⟩ : ∃ j_ : Int, (shr .u64 a0 (ji10)) = j_ := ⟨_, rfl⟩
       replace H : (if 0 ≤ x16_1 then (if x16_1 < (x4_1.length : Int) then (vint_Num.l0 k1 a0 ji3 (x4_1.set (x16_1 : Int).toNat (Go.bits .or .u8 (Go.bits .andNot .u8 ((ji12) % 256) 128) 128)) (y161.length : Int) (wrap64 (x16_1 + 1))) else (none)) else (none)) = some r := by first | (rw [hji12] at H; exact H) | (simp only [hji12] at H ⊢; exact H)
       have hji12_ : (a0 / 2 ^ min (ji10).toNat 64) = ji12 := hji12
       have hji12z : (ji10) ≤ 64 → (a0 / 2 ^ (ji10).toNat) = ji12 := shr_small hji12
       by_cases c13 : 0 ≤ x16_1
       ·rw [if_pos c13] at H
        have c13b0 : decide (0 ≤ x16_1) = true := decide_eq_true c13
        clear c13
        by_cases c14 : x16_1 < (x4_1.length : Int)
        ·rw [if_pos c14] at H
         have c14b0 : decide (x16_1 < (x4_1.length : Int)) = true := decide_eq_true c14
         have c14b0l := c14b0
         (try simp only [hl4_1] at c14b0l)
         clear c14
         obtain ⟨y164, hy164⟩ : ∃ y_ : List Int, y_ = (x4_1.set (x16_1 : Int).toNat (Go.bits .or .u8 (Go.bits .andNot .u8 ((ji12) % 256) 128) 128)) := ⟨_, rfl⟩
         replace H : (vint_Num.l0 k1 a0 ji3 y164 (y161.length : Int) (wrap64 (x16_1 + 1))) = some r := by first | (rw [hy164]; with_reducible exact H) | (have H2_ := (Option.bind_some _ _).symm.trans H; rw [hy164]; with_reducible exact H2_) | (have H2_ := (Option.bind_some _ _).symm.trans H; with_reducible exact H2_) | with_reducible exact H | (rw [hy164]; exact H) | exact H
         have Ny164 := A_ hy164
         clear hy164
         have H' := A_ H
         clear H
         have p15 : 0 ≤ (x16_1 : Int) := of_decide_eq_true (by first | (with_reducible assumption) | assumption)
         have q15 : (x16_1 : Int) < ((x4_1.length : Int) : Int) := of_decide_eq_true (by first | (with_reducible assumption) | assumption)
         obtain ⟨go15, co15, eo15, gb15, gl15, cl15, HG15⟩ := Kd.R_form HO_4.out (by omega)
         (first | cases eo15 | (injection eo15 with ea_ en_ ec_; (first | subst ea_ | (injection ea_ with ea_; subst ea_)); subst ec_; clear en_))
         have GB15 := A_ gb15
         have GG15 := A_ HG15
         clear gb15 gl15 HG15
         obtain ⟨hx15_0, hf15_0⟩ := Kd.R_celln 0 HO_4.out (x16_1 : Int) p15 q15
         replace p15 := eq_true p15
         replace q15 := eq_true q15
         have HP16 := Kd.R_putg HO_4.out (x16_1 : Int) (Go.bits .or .u8 (Go.bits .andNot .u8 ((ji12) % 256) 128) 128)
         go_wp2_with (first | ((with_reducible refine gate_store (t := 5) (p := 28) rfl ?_); refine store_event (t := 5) (p := 28) (v := ?vo_w17) (w1 := (wr.setCell ⟨go15, (x16_1 : Int).toNat, none⟩ (.int .u8 (Go.bits .or .u8 (Go.bits .andNot .u8 ((ji12) % 256) 128) 128)))) ?hg ?ho ?hn ?hr ?_; (case ho => rfl); (case hg => rfl); (case hn => rfl); (case hr => first | (go_simp; done) | (go_simp; rfl)); intro w17 hw; have hg : wr.grownBy w17 (some go15) := (by rw [hw]; exact HP16.2); have hp_ : Kd.R (Kd.int .u8) 5 w17 w.heap.size (fun _ => True) (.slice (some ⟨go15, 0, none⟩) x4_1.length co8) y164 := (by rw [hw, Ny164.out]; exact HP16.1); clear HP16; have n0_ := A_ (hp_); have n1_ := A_ ((by rw [hw]; exact bs_ (HB.out) GB15.out : Below w.heap.size w w17)); clear HO_4; clear HB; have HO_4 := n0_; have HB := n1_; clear n0_ n1_; clear hg hw hp_))
         (try simp only [← hl4_1])
         go_roundg k1
         case measure => have := HK1.out; omega
         case rel => exact ⟨(y164), (wrap64 (x16_1 + 1)), (by first | rfl | (simp; done) | (simp [*]; done)), H', ⟨by have := HK1.out; omega⟩, ⟨by (try simp only [hl4_1]); (with_reducible repeat (first | apply Kd.R_alloc | apply Kd.R_drewN | apply Kd.R_drew)); exact HO_4.out⟩, ⟨by repeat (first | (with_reducible first | exact HB.out | apply ba_ | apply bn_ | apply bd_) | exact HB.out)⟩⟩
        ·rw [if_neg c14] at H
         exact absurd H (by simp)
       ·rw [if_neg c13] at H
        exact absurd H (by simp)
      ·rw [if_neg c11] at H
       exact absurd H (by simp)
     ·rw [if_neg c9] at H
      have c9b0 : decide (x16_1 < (y161.length : Int)) = false := decide_eq_false c9
      have c9b0l := c9b0
      (try simp only [hl4_1] at c9b0l)
      clear c9
      obtain ⟨ji18, hji18⟩ : ∃ j_ : Int, (wrap64 (ji3 - 1)) = j_ := ⟨_, rfl⟩
      replace H : (if 0 ≤ (ji18) then (if (ji18) < (x4_1.length : Int) then (some (x4_1.set ((ji18) : Int).toNat (Go.bits .andNot .u8 (rd x4_1 (ji18)) 128))) else (none)) else (none)) = some r := by first | (rw [hji18] at H; exact H) | (simp only [hji18] at H ⊢; exact H)
      have hji18w : (IntKind.i64.wrap (ji3 - 1)) = ji18 := (i64_w _).trans hji18
      by_cases c19 : 0 ≤ (ji18)
      ·rw [if_pos c19] at H
       have c19b0 : decide (0 ≤ (ji18)) = true := decide_eq_true c19
       clear c19
       by_cases c20 : (ji18) < (x4_1.length : Int)
       ·rw [if_pos c20] at H
        have c20b0 : decide ((ji18) < (x4_1.length : Int)) = true := decide_eq_true c20
        have c20b0l := c20b0
        (try simp only [hl4_1] at c20b0l)
        clear c20
        obtain ⟨y166, hy166⟩ : ∃ y_ : List Int, y_ = (x4_1.set ((ji18) : Int).toNat (Go.bits .andNot .u8 (rd x4_1 (ji18)) 128)) := ⟨_, rfl⟩
        replace H : (some y166) = some r := by first | (rw [hy166]; with_reducible exact H) | (have H2_ := (Option.bind_some _ _).symm.trans H; rw [hy166]; with_reducible exact H2_) | (have H2_ := (Option.bind_some _ _).symm.trans H; with_reducible exact H2_) | with_reducible exact H | (rw [hy166]; exact H) | exact H
        have Ny166 := A_ hy166
        clear hy166
        obtain rfl := Option.some.inj H
        have p165 : 0 ≤ ((ji18) : Int) := of_decide_eq_true (by first | (with_reducible assumption) | assumption)
        have q165 : (ji18) < (x4_1.length : Int) := of_decide_eq_true (by first | (with_reducible assumption) | assumption)
        obtain ⟨ad165, e165, hx165_0⟩ := Kd.at_int (Kd.R_reads' HO_4.out).2.2 (ji18) p165 q165
        cases e165
        replace p165 := eq_true p165
        replace q165 := eq_true q165
        have p21 : 0 ≤ ((ji18) : Int) := of_decide_eq_true (by first | (with_reducible assumption) | assumption)
        have q21 : ((ji18) : Int) < ((x4_1.length : Int) : Int) := of_decide_eq_true (by first | (with_reducible assumption) | assumption)
        obtain ⟨go21, co21, eo21, gb21, gl21, cl21, HG21⟩ := Kd.R_form HO_4.out (by omega)
        (first | cases eo21 | (injection eo21 with ea_ en_ ec_; (first | subst ea_ | (injection ea_ with ea_; subst ea_)); subst ec_; clear en_))
        have GB21 := A_ gb21
        have GG21 := A_ HG21
        clear gb21 gl21 HG21
        (first | simp only [add_plain] at hx165_0 | skip)
        obtain ⟨hx21_0, hf21_0⟩ := Kd.R_celln 0 HO_4.out ((ji18) : Int) p21 q21
        replace p21 := eq_true p21
        replace q21 := eq_true q21
        have HP22 := Kd.R_putg HO_4.out ((ji18) : Int) (Go.bits .andNot .u8 (rd x4_1 (ji18)) 128)
        go_wp2_with (first | ((with_reducible refine gate_store (t := 5) (p := 36) rfl ?_); refine store_event (t := 5) (p := 36) (v := ?vo_w23) (w1 := (wr.setCell ⟨go21, ((ji18) : Int).toNat, none⟩ (.int .u8 (Go.bits .andNot .u8 (rd x4_1 (ji18)) 128)))) ?hg ?ho ?hn ?hr ?_; (case ho => rfl); (case hg => rfl); (case hn => rfl); (case hr => first | (go_simp; done) | (go_simp; rfl)); intro w23 hw; have hg : wr.grownBy w23 (some go21) := (by rw [hw]; exact HP22.2); have hp_ : Kd.R (Kd.int .u8) 5 w23 w.heap.size (fun _ => True) (.slice (some ⟨go21, 0, none⟩) x4_1.length co8) y166 := (by rw [hw, Ny166.out]; exact HP22.1); clear HP22; have n0_ := A_ (hp_); have n1_ := A_ ((by rw [hw]; exact bs_ (HB.out) GB21.out : Below w.heap.size w w23)); clear HO_4; clear HB; have HO_4 := n0_; have HB := n1_; clear n0_ n1_; clear hg hw hp_))
        go_ret
        exact ⟨_, by first | rfl | (simp [errW_none, errW_some] <;> rfl) | (simp only [← hji3, ← hji18]; first | rfl | (simp [errW_none, errW_some] <;> rfl)) | (simp [*, errW_none, errW_some] <;> rfl), by (with_reducible repeat (first | apply Kd.R_alloc | apply Kd.R_drewN | apply Kd.R_drew)); exact HO_4.out, by repeat (first | (with_reducible first | exact HB.out | apply ba_ | apply bn_ | apply bd_) | exact HB.out)⟩
       ·rw [if_neg c20] at H
        exact absurd H (by simp)
      ·rw [if_neg c19] at H
       exact absurd H (by simp)
  ·rw [if_neg c5] at H
   exact absurd H (by simp)
 ·rw [if_neg c4] at H
  exact absurd H (by simp)

def vint_Int.f (k : Nat) (a0 : Int) : Option (List Int) := (vint_Num.f k (Go.bits .xor .u64 (IntKind.u64.wrap ((IntKind.u64.wrap (a0)) * 2)) (IntKind.u64.wrap (a0 / 9223372036854775808)))).bind fun t167 => (some t167)
theorem vint_Int.mono : ∀ a0 k, LeO (vint_Int.f k a0) (vint_Int.f (k + 1) a0) := by
 intro a0 k
 unfold vint_Int.f
 repeat' first
   | (with_reducible exact vint_Num.mono _ _)
   | (with_reducible exact LeO.refl _)
   | (with_reducible exact LeO.none _)
   | (with_reducible refine LeO.ite ?_ ?_)
   | (with_reducible refine LeO.bind ?_ (fun _ => ?_))
   | exact vint_Num.mono _ _
   | exact LeO.none _
   | refine LeO.ite ?_ ?_
   | refine LeO.bind ?_ (fun _ => ?_)
theorem vint_Int.calls (k : Nat) (a0 : Int) (r : List Int) (w : World) (h : vint_Int.f k a0 = some r) :
  Calls Try.prog 46 #[.int .i64 a0] w fun e w' => ∃ v0_ : Value, e = .returned (v0_) ∧ Kd.R (Kd.int .u8) 5 w' w.heap.size (fun _ => True) v0_ r ∧ Below w.heap.size w w' := by
 have HB := A_ (Below.refl w.heap.size w)
 have H : ((vint_Num.f k (Go.bits .xor .u64 (IntKind.u64.wrap ((IntKind.u64.wrap (a0)) * 2)) (IntKind.u64.wrap (a0 / 9223372036854775808)))).bind fun t167 => (some t167)) = some r := h
 clear h
 replace H := Option.bind_eq_some_iff.mp H
 obtain ⟨t167, A20, H⟩ := H
 replace H : (some t167) = some r := H
 have A2 := A_ A20
 clear A20
 obtain rfl := Option.some.inj H
 go_enter Try.func46, Try.ntmps46
 go_wp2_with (first | ((with_reducible refine gate_callee (f := 45) rfl ?_); refine goesL_ (some 10) rfl rfl Try.func45 (by kernel_rfl) rfl #[.int .u64 (Go.bits .xor .u64 (IntKind.u64.wrap ((IntKind.u64.wrap (a0)) * 2)) (IntKind.u64.wrap (a0 / 9223372036854775808)))] rfl (by (try simp only [List.map_toArray, List.map_cons, List.map_nil]); first | done | rfl | (simp only [List.length_drop, List.length_take]; rfl)) ?_; (with_reducible refine (vint_Num.calls k (Go.bits .xor .u64 (IntKind.u64.wrap ((IntKind.u64.wrap (a0)) * 2)) (IntKind.u64.wrap (a0 / 9223372036854775808))) t167 _ A2.out).mono ?_); rintro e w3 ⟨v168, rfl, ho0, hb⟩; refine ⟨_, rfl, ?_⟩; have n0_ := A_ (Kd.R_lower ho0 (below_size (by repeat (first | (with_reducible first | exact HB.out | apply ba_ | apply bn_ | apply bd_) | exact HB.out)))); have n1_ := A_ (bp_ (by repeat (first | (with_reducible first | exact HB.out | apply ba_ | apply bn_ | apply bd_) | exact HB.out)) hb); clear HB; have HO169 := n0_; have HB := n1_; clear n0_ n1_; (try clear hb); (try clear hb2); (try clear hk); (try clear hi); (try clear ho0)))
 go_ret
 exact ⟨_, by first | rfl | (simp [errW_none, errW_some] <;> rfl) | (simp [*, errW_none, errW_some] <;> rfl), by (with_reducible repeat (first | apply Kd.R_alloc | apply Kd.R_drewN | apply Kd.R_drew)); exact HO169.out, by repeat (first | (with_reducible first | exact HB.out | apply ba_ | apply bn_ | apply bd_) | exact HB.out)⟩


end Go.Proofs.Ytkdlfejokahohaa.X
/- The contract of bytes.Join without a separator: the parts' bytes, one behind the other; they lie in memory that this call has made. -/
namespace Go.Proofs.Ytkdlfejokahohaa.X
open Go.RowKit Go.Proofs.YtkdlfejokahohaaW.PrintWords Go.Proofs.YtkdlfejokahohaaW.PrintLast Go.Proofs.YtkdlfejokahohaaW.PrintMore
set_option linter.unusedVariables false
set_option linter.unusedSimpArgs false
open Go.Proofs.Ytkdlfejokahohaa.Buf
def bytes_Join.f (l0 : List (List Int)) (l1 : List Int) : Option (List Int) := if l1 = [] ∧ 2 ≤ l0.length ∧ l0.flatten.length < 140737488355328 then some l0.flatten else none
theorem join_take (l0 : List (List Int)) (i : Nat) (h : i < l0.length) : (l0.take (i + 1)).flatten = (l0.take i).flatten ++ l0[i] := by
 rw [List.take_succ_eq_append_getElem h, List.flatten_append, List.flatten_singleton]
theorem join_le (l0 : List (List Int)) (i : Nat) : (l0.take i).flatten.length ≤ l0.flatten.length := by
 conv => rhs; rw [← List.take_append_drop i l0, List.flatten_append, List.length_append]
 omega
set_option maxHeartbeats 8000000 in
set_option maxRecDepth 1000000 in
theorem bytes_Join.calls (A0 : Option Addr) (c0 : Nat) (l0 : List (List Int)) (A1 : Option Addr) (c1 : Nat) (l1 : List Int) (r : List Int) (w : World) (hr0 : Kd.C (Kd.slice 5 (Kd.int .u8)) w A0 l0.length l0) (hc0 : l0.length ≤ c0) (hr1 : Kd.C (Kd.int .u8) w A1 l1.length l1) (hc1 : l1.length ≤ c1) (h : bytes_Join.f l0 l1 = some r) :
  Calls Try.prog 98 #[.slice A0 l0.length c0, .slice A1 l1.length c1] w fun e w' => ∃ v0_ : Value, e = .returned v0_ ∧ Kd.V (Kd.int .u8) 5 w' w.heap.size (fun k_ => w.heap.size ≤ k_) v0_ r ∧ Below w.heap.size w w' := by
 unfold bytes_Join.f at h
 by_cases hf : l1 = [] ∧ 2 ≤ l0.length ∧ l0.flatten.length < 140737488355328
 case neg => rw [if_neg hf] at h; cases h
 rw [if_pos hf] at h
 obtain rfl := Option.some.inj h
 clear h
 obtain ⟨rfl, h2, hlen⟩ := hf
 have hmax := Kd.C_max hr0
 have HR0 := Aside0.mk hr0
 have HLEN := Aside0.mk hlen
 have f0 : ((l0.length : Int) == 0) = false := beq_eq_false_iff_ne.2 (by omega)
 have f1 : ((l0.length : Int) == 1) = false := beq_eq_false_iff_ne.2 (by omega)
 clear hr0 hr1 hc1 hlen
 obtain ⟨⟨b, o, sp⟩, _, _, rfl, hcx, _⟩ := Mem.at_row HR0.out 0 (by omega)
 have hsp : sp = none := by
  cases sp with
  | none => rfl
  | some z => simp [Addr.add, World.cell?] at hcx; split at hcx <;> simp at hcx
 subst hsp
 clear hcx
 have u5 := Try.underlying31
 have z5 : ∀ w, (Go.sizeOf 5).run Try.prog w = .ok 1 w := fun w => by kernel_rfl
 have hs5 : (Try.prog.info? 5).map (·.size) = some 1 := by kernel_rfl
 have hcells : ∀ i : Nat, (hi : i < l0.length) → ∃ Ai ci, w.cell? ⟨b, o + i, none⟩ = some (.slice Ai (l0[i]).length ci) ∧ (Kd.int .u8).C w Ai (l0[i]).length (l0[i]) := fun i hi => by
  obtain ⟨ad', Ai, ci, e, hc, _, hC⟩ := Mem.at_row HR0.out i hi
  cases e
  rw [Mem.add_plain2] at hc
  exact ⟨Ai, ci, hc, hC⟩
 have HC := Aside0.mk hcells
 clear hcells
 obtain ⟨A00, c00, hcell0, hC00⟩ := HC.out 0 (by omega)
 have HC00 := Aside0.mk hC00
 clear hC00
 go_enter Try.func98, Try.ntmps98
 go_wp2_with fail
 go_loopg [5, 44] l0.length (fun g s5 s44 wr => w = wr ∧ ∃ i : Nat, i ≤ l0.length ∧ g = l0.length - i ∧ s44 = .int .i64 i ∧ s5 = .int .i64 (((l0.take i).flatten.length : Nat) : Int))
 case atStart => exact ⟨rfl, 0, Nat.zero_le _, rfl, rfl, rfl⟩
 case round =>
  obtain ⟨rfl, i, hi, rfl, rfl, rfl⟩ := hrel
  by_cases hlt : i < l0.length
  ·obtain ⟨Ai, ci, hcell, _⟩ := HC.out i hlt
   have hs1 : (l0.take (i + 1)).flatten.length = (l0.take i).flatten.length + (l0[i]).length := by rw [join_take l0 i hlt, List.length_append]
   have hs2 := join_le l0 (i + 1)
   have hL := HLEN.out
   generalize (l0.take i).flatten.length = acc at hs1 ⊢
   generalize (l0[i]).length = m at hs1 hcell
   have hb : ¬ (9223372036854775807 - ((acc : Nat) : Int) < (m : Int)) := by omega
   go_wp2_with fail
   go_roundg (l0.length - (i + 1))
   case measure => omega
   case rel => exact ⟨rfl, i + 1, by omega, rfl, by go_num, by rw [hs1]; go_num⟩
  ·obtain rfl : i = l0.length := by omega
   rw [List.take_length]
   have hL := HLEN.out
   obtain ⟨T, hT⟩ : ∃ T, l0.flatten.length = T := ⟨_, rfl⟩
   rw [hT] at hL ⊢
   obtain ⟨cs, hrunM, hle, _⟩ := Lib.run_makeNoZero (P := Try.prog) w #[3] 31 5 u5 T (by omega)
   have hcall : (callFunc 106 #[.int .i64 (T : Int)]).run Try.prog w = .ok (.value (.slice (some ⟨w.heap.size, 0, none⟩) T cs.size)) ((w.alloc (.cells cs 5)).drewN 2) := by
    rw [run_callFunc_extern Try.func106 (by kernel_rfl) (by kernel_rfl) (by kernel_rfl) (e := Extern.BytealgMakeNoZero.makeNoZero #[3] #[31]) (by kernel_rfl), hrunM]
    rfl
   clear hrunM
   have i0 : (0 : Int) ≤ (T : Int) := by omega
   have i1 : (T : Int) ≤ (cs.size : Int) := by omega
   have B0 := Buf.start w cs 5 T 2 hle
   have hc0' : ((w.alloc (.cells cs 5)).drewN 2).cell? ⟨b, o, none⟩ = some (.slice A00 (l0[0]).length c00) := Lib.Below.cellOf B0.below hcell0 (Nat.le_refl _)
   have h1 := join_take l0 0 (by omega)
   have hle0 := join_le l0 (0 + 1)
   rw [h1, hT] at hle0
   rw [List.take_zero, List.flatten_nil, List.nil_append] at h1 hle0
   obtain ⟨w1, hr1, B1⟩ := copy_part (P := Try.prog) w _ w.heap.size T [] (l0[0]) A00 c00 31 3 5 u5 hs5 (Nat.le_refl _) B0 HC00.out (by simpa using hle0)
   rw [List.length_nil, Lib.tailV_zero] at hr1
   rw [List.nil_append] at B1
   go_wp2_with (at_builtin; refine Lib.wpList_copy_run _ rfl _ _ 31 31 rfl _ _ rfl rfl hr1 ?_)
   have HB1 : Aside0 (Buf w w1 w.heap.size T (l0.take 1).flatten) := ⟨by rw [h1]; exact B1⟩
   have HL1 := congrArg List.length h1
   clear B1 B0 hr1 hcall hc0' hcell0 h1
   go_loopg [9, 72] (l0.length - 1) (fun g2 s9 s72 wr => ∃ (j : Nat), j ≤ l0.length - 1 ∧ l0.length - 1 - j ≤ g2 ∧ s72 = .int .i64 j ∧ s9 = .int .i64 ((l0.take (1 + j)).flatten.length : Nat) ∧ Aside0 (Buf w wr w.heap.size T (l0.take (1 + j)).flatten))
   case atStart => exact ⟨0, Nat.zero_le _, by omega, rfl, by rw [HL1], HB1⟩
   case round =>
    obtain ⟨j, hj, hg2, rfl, rfl, HB⟩ := hrel
    by_cases hjn : j < l0.length - 1
    ·have hjz : (j : Int) < ((l0.length - 1 : Nat) : Int) := by omega
     obtain ⟨A2, c2, hcell, hC2⟩ := HC.out (1 + j) (by omega)
     have hs1 := join_take l0 (1 + j) (by omega)
     have hs2 := join_le l0 (1 + j + 1)
     rw [hs1, hT, List.length_append] at hs2
     have hL2 := congrArg List.length hs1
     rw [List.length_append] at hL2
     have HS1 := Aside0.mk hs1
     have HL2 := Aside0.mk hL2
     clear hs1 hL2
     have hcw : wr.cell? ⟨b, o + 1 + j, none⟩ = some (.slice A2 (l0[1 + j]).length c2) := by
      have := Lib.Below.cellOf HB.out.below hcell (Nat.le_refl _)
      rwa [show o + (1 + j) = o + 1 + j by omega] at this
     have hfit := HB.out.fits
     have hsl1 : ∀ W, (Instr.slice 31 (.slice (some ⟨w.heap.size, 0, none⟩) T T) (some (.int .i64 ((l0.take (1 + j)).flatten.length : Int))) none none).run Try.prog W = .ok (Lib.tailV w.heap.size T (l0.take (1 + j)).flatten.length) W := fun W => Lib.run_slice_tailV W 31 5 u5 z5 _ T (l0.take (1 + j)).flatten.length hfit
     obtain ⟨w2, hr2, B2⟩ := copy_part (P := Try.prog) w wr w.heap.size T (l0.take (1 + j)).flatten [] A1 c1 31 3 5 u5 hs5 (Nat.le_refl _) HB.out ⟨rfl, by simp, fun hh => absurd hh (by simp)⟩ (by simpa using hfit)
     rw [List.append_nil] at B2
     rw [List.length_nil, show ((0 : Nat) : Int) = 0 from rfl] at hr2
     obtain ⟨w3, hr3, B3⟩ := copy_part (P := Try.prog) w w2 w.heap.size T (l0.take (1 + j)).flatten (l0[1 + j]) A2 c2 31 3 5 u5 hs5 (Nat.le_refl _) B2 hC2 hs2
     have HB3 : Aside0 (Buf w w3 w.heap.size T (l0.take (1 + j + 1)).flatten) := ⟨by rw [HS1.out]; exact B3⟩
     clear B2 B3 hcell hC2 HB
     generalize (l0.take (1 + j)).flatten.length = bp at hs2 HL2 hfit hsl1 hr2 hr3 ⊢
     generalize (l0[1 + j]).length = m at hs2 HL2 hcw hr3
     go_wp2_with (at_builtin; first | refine Lib.wpList_copy_run _ rfl _ _ 31 31 rfl _ _ rfl rfl hr2 ?_ | refine Lib.wpList_copy_run _ rfl _ _ 31 31 rfl _ _ rfl rfl hr3 ?_)
     go_roundg (l0.length - 1 - (j + 1))
     case measure => omega
     case rel => exact ⟨j + 1, by omega, Nat.le_refl _, by go_num, by rw [show 1 + (j + 1) = 1 + j + 1 by omega, HL2.out]; go_num, by rw [show 1 + (j + 1) = 1 + j + 1 by omega]; exact HB3⟩
    ·obtain rfl : j = l0.length - 1 := by omega
     have hjz : ¬ (((l0.length - 1 : Nat) : Int) < ((l0.length - 1 : Nat) : Int)) := by omega
     have HB2 := HB.out
     rw [show 1 + (l0.length - 1) = l0.length by omega, List.take_length] at HB2
     clear HB
     go_wp2_with fail
     go_ret
     exact ⟨_, rfl, Buf.V HB2 hT (by omega), HB2.below⟩
end Go.Proofs.Ytkdlfejokahohaa.X
namespace Go.Proofs.Ytkdlfejokahohaa.X
open Go.RowKit Go.Proofs.YtkdlfejokahohaaW.PrintWords Go.Proofs.YtkdlfejokahohaaW.PrintLast Go.Proofs.YtkdlfejokahohaaW.PrintMore
attribute [local go_sem] max2_int min2_int max_two min_two max_three min_three max_four min_four   -- for this text's walks alone
set_option linter.unusedVariables false
open List (setIfInBounds_toArray set_cons_zero set_cons_succ)
set_option linter.unusedSimpArgs false

def vint_joined.f (l0 : List (List Int)) : Option (List Int) := (bytes_Join.f l0 ([] : List Int)).bind fun t170 => (some t170)
theorem vint_joined.calls (A0 : Option Addr) (c0 : Nat) (l0 : List (List Int)) (r : List Int) (w : World) (hr0 : Kd.C (Kd.slice 5 (Kd.int .u8)) w A0 l0.length l0) (hc0 : l0.length ≤ c0) (h : vint_joined.f l0 = some r) :
  Calls Try.prog 81 #[.slice A0 l0.length c0] w fun e w' => ∃ v0_ : Value, e = .returned (v0_) ∧ Kd.V (Kd.int .u8) 5 w' w.heap.size (fun k_ => (w.heap.size ≤ k_)) v0_ r ∧ Below w.heap.size w w' := by
 have HR0 := A_ hr0
 have HC0 := A_ hc0
 clear hr0 hc0
 have HB := A_ (Below.refl w.heap.size w)
 have H : ((bytes_Join.f l0 ([] : List Int)).bind fun t170 => (some t170)) = some r := h
 clear h
 replace H := Option.bind_eq_some_iff.mp H
 obtain ⟨t170, A20, H⟩ := H
 replace H : (some t170) = some r := H
 have A2 := A_ A20
 clear A20
 obtain rfl := Option.some.inj H
 go_enter Try.func81, Try.ntmps81
 go_wp2_with (first | ((with_reducible refine gate_callee (f := 98) rfl ?_); refine goesL_ (some 4) rfl rfl Try.func98 (by kernel_rfl) rfl #[.slice A0 l0.length c0, .slice none 0 0] rfl (by (try simp only [List.map_toArray, List.map_cons, List.map_nil]); first | done | rfl | (simp only [List.length_drop, List.length_take]; rfl)) ?_; (refine (bytes_Join.calls _ _ l0 _ _ ([] : List Int) t170 _ ?side1 ?side2 ?side3 ?side4 A2.out).mono ?_); (case side1 => repeat (first | exact HR0.out | (with_reducible refine Kd.C_alloc ?_ _) | (with_reducible refine Kd.C_drewN ?_ _) | (with_reducible refine Kd.C_drew ?_))); (case side2 => exact HC0.out); (case side3 => exact Kd.C_nil _ _); (case side4 => exact Nat.le_refl _); rintro e w3 ⟨v171, rfl, ho0, hb⟩; refine ⟨_, rfl, ?_⟩; have n0_ := A_ (Kd.V_lower (Kd.V_mono (ok' := fun k_ => (w.heap.size ≤ k_)) ho0 (fun k_ hk_ => (Nat.le_trans (below_size (by repeat (first | (with_reducible first | exact HB.out | apply ba_ | apply bn_ | apply bd_) | exact HB.out))) hk_))) (below_size (by repeat (first | (with_reducible first | exact HB.out | apply ba_ | apply bn_ | apply bd_) | exact HB.out)))); have n1_ := A_ (bp_ (by repeat (first | (with_reducible first | exact HB.out | apply ba_ | apply bn_ | apply bd_) | exact HB.out)) hb); clear HB; have HO172 := n0_; have HB := n1_; clear n0_ n1_; (try clear hb); (try clear hb2); (try clear hk); (try clear hi); (try clear ho0)))
 go_ret
 exact ⟨_, by first | rfl | (simp [errW_none, errW_some] <;> rfl) | (simp [*, errW_none, errW_some] <;> rfl), by (with_reducible repeat (first | apply Kd.V_alloc | apply Kd.V_drewN | apply Kd.V_drew)); exact HO172.out, by repeat (first | (with_reducible first | exact HB.out | apply ba_ | apply bn_ | apply bd_) | exact HB.out)⟩

end Go.Proofs.Ytkdlfejokahohaa.X
/- The contract of vint.Text: a text's bytes, behind how many there are; they lie in memory that this call has made. -/
namespace Go.Proofs.Ytkdlfejokahohaa.X
open Go.RowKit Go.Proofs.YtkdlfejokahohaaW.PrintWords Go.Proofs.YtkdlfejokahohaaW.PrintLast Go.Proofs.YtkdlfejokahohaaW.PrintMore
set_option linter.unusedVariables false
set_option linter.unusedSimpArgs false
def vint_Text.f (k : Nat) (a0 : ByteArray) : Option (List Int) := (vint_Num.f k (a0.size : Int)).bind fun b => if a0.size ≤ 9223372036854775807 then vint_joined.f [b, bytesOf a0] else none
theorem vint_Text.mono : ∀ a0 k, LeO (vint_Text.f k a0) (vint_Text.f (k + 1) a0) := by
 intro a0 k r h
 unfold vint_Text.f at h ⊢
 obtain ⟨b, hb, h⟩ := Option.bind_eq_some_iff.mp h
 rw [vint_Num.mono _ _ _ hb]
 exact h
set_option maxHeartbeats 8000000 in
set_option maxRecDepth 1000000 in
theorem vint_Text.calls (k : Nat) (a0 : ByteArray) (r : List Int) (w : World) (h : vint_Text.f k a0 = some r) :
  Calls Try.prog 47 #[.string a0] w fun e w' => ∃ v0_ : Value, e = .returned v0_ ∧ Kd.V (Kd.int .u8) 5 w' w.heap.size (fun k_ => w.heap.size ≤ k_) v0_ r ∧ Below w.heap.size w w' := by
 unfold vint_Text.f at h
 obtain ⟨b, hb, h⟩ := Option.bind_eq_some_iff.mp h
 by_cases hm : a0.size ≤ 9223372036854775807
 case neg => rw [if_neg hm] at h; cases h
 rw [if_pos hm] at h
 have HN := Aside0.mk hb
 have HJ := Aside0.mk h
 clear hb h
 have hw : IntKind.u64.wrap (a0.size : Int) = (a0.size : Int) := by rw [IntKind.wrap_u64]; omega
 have kc := fun (W : World) => Lib.run_convert_string_bytes (P := Try.prog) W 9 31 5 a0 Try.underlying9 Try.underlying31 Try.underlying5
 go_enter Try.func47, Try.ntmps47
 go_wp2_with fail
 refine (vint_Num.calls k (a0.size : Int) b _ HN.out).mono ?_
 rintro e w1 ⟨v1, rfl, R1, b1⟩
 obtain ⟨A1, c1, rfl, hc1, C1⟩ := Kd.R_reads R1
 have HC1 := Aside0.mk C1
 clear R1 C1
 go_wp2_with fail
 have bW : Below w1.heap.size w1 (Lib.bytesWorld w1 5 a0) := Mem.below_bytes w1 5 a0
 have C2 : Kd.C (Kd.int .u8) (Lib.bytesWorld w1 5 a0) (some ⟨w1.heap.size, 0, none⟩) (bytesOf a0).length (bytesOf a0) := by
  rw [bytesOf_length]; exact Kd.C_of_reads (d := (0 : Int)) (readsInt_of.mp (bytes_reads w1 5 a0 hm))
 have hcap : a0.size ≤ grownCap w1 a0.size 0 5 := by simpa using grownCap_ge w1 a0.size 0 5
 have C1 := Kd.C_below HC1.out bW
 generalize Lib.bytesWorld w1 5 a0 = w2 at bW C2 C1 ⊢
 generalize grownCap w1 a0.size 0 5 = c2 at hcap ⊢
 have bl := bytesOf_length a0
 rw [← bl] at hcap
 have C3 : Kd.C (Kd.slice 5 (Kd.int .u8)) (w2.alloc (.cells #[.slice A1 b.length c1, .slice (some ⟨w1.heap.size, 0, none⟩) a0.size c2] 31)) (some ⟨w2.heap.size, 0, none⟩) 2 [b, bytesOf a0] := by
  refine Mem.C_rows (xs := [b, bytesOf a0]) (Mem.alloc_new _ _) (by simp) (fun i hi => ?_)
  match i, hi with
  | 0, _ => exact ⟨A1, c1, rfl, hc1, Kd.C_alloc C1 _⟩
  | 1, _ => exact ⟨some ⟨w1.heap.size, 0, none⟩, c2, by rw [← bl]; rfl, hcap, Kd.C_alloc C2 _⟩
 refine (vint_joined.calls _ 2 [b, bytesOf a0] r _ C3 (Nat.le_refl _) HJ.out).mono ?_
 rintro e w3 ⟨v3, rfl, V3, b3⟩
 have B := below_step (below_alloc (below_step b1 bW) _) b3
 have HV := Aside0.mk (Kd.V_mono V3 (fun k hk => Nat.le_trans (below_size (below_alloc (below_step b1 bW) _)) hk))
 go_wp2_with fail
 go_ret
 exact ⟨_, rfl, HV.out, B⟩
end Go.Proofs.Ytkdlfejokahohaa.X
namespace Go.Proofs.Ytkdlfejokahohaa.X
open Go.RowKit Go.Proofs.YtkdlfejokahohaaW.PrintWords Go.Proofs.YtkdlfejokahohaaW.PrintLast Go.Proofs.YtkdlfejokahohaaW.PrintMore
attribute [local go_sem] max2_int min2_int max_two min_two max_three min_three max_four min_four   -- for this text's walks alone
set_option linter.unusedVariables false
open List (setIfInBounds_toArray set_cons_zero set_cons_succ)
set_option linter.unusedSimpArgs false

def cell_Put.f (k : Nat) (a0 : Int) (a1_0 : Bool) (a1_1 : Int) (a1_2 : ByteArray) : Option (List Int) := (cell_flag.f a1_0 a1_1 a1_2).bind fun t174 => ((some (([(t174) % 256] : List Int) : List Int)).bind fun y175 => (if a1_0 = true then (some y175) else (if a0 = 3 then ((vint_Text.f k a1_2).bind fun t178 => (if y175.length + t178.length < 140737488355328 then (some (y175 ++ t178)) else (none))) else (if a0 = 1 then ((vint_Int.f k a1_1).bind fun t184 => (if y175.length + t184.length < 140737488355328 then (some (y175 ++ t184)) else (none))) else (if a0 = 2 then ((vint_Int.f k a1_1).bind fun t190 => (if y175.length + t190.length < 140737488355328 then (some (y175 ++ t190)) else (none))) else (some y175))))))
theorem cell_Put.mono : ∀ a0 a1 a2 a3 k, LeO (cell_Put.f k a0 a1 a2 a3) (cell_Put.f (k + 1) a0 a1 a2 a3) := by
 intro a0 a1 a2 a3 k
 unfold cell_Put.f
 repeat' first
   | (with_reducible exact vint_Int.mono _ _)
   | (with_reducible exact vint_Text.mono _ _)
   | (with_reducible exact LeO.refl _)
   | (with_reducible exact LeO.none _)
   | (with_reducible refine LeO.ite ?_ ?_)
   | (with_reducible refine LeO.bind ?_ (fun _ => ?_))
   | exact vint_Int.mono _ _
   | exact vint_Text.mono _ _
   | exact LeO.none _
   | refine LeO.ite ?_ ?_
   | refine LeO.bind ?_ (fun _ => ?_)
theorem cell_Put.calls (k : Nat) (a0 : Int) (a1_0 : Bool) (a1_1 : Int) (a1_2 : ByteArray) (r : List Int) (w : World) (h : cell_Put.f k a0 a1_0 a1_1 a1_2 = some r) :
  Calls Try.prog 63 #[.int .i64 a0, .agg #[.bool a1_0, .int .i64 a1_1, .string a1_2]] w fun e w' => ∃ v0_ : Value, e = .returned (v0_) ∧ Kd.R (Kd.int .u8) 5 w' w.heap.size (fun _ => True) v0_ r ∧ Below w.heap.size w w' := by
 have hu23 := Try.underlying23
 have HB := A_ (Below.refl w.heap.size w)
 have H : ((cell_flag.f a1_0 a1_1 a1_2).bind fun t174 => ((some (([(t174) % 256] : List Int) : List Int)).bind fun y175 => (if a1_0 = true then (some y175) else (if a0 = 3 then ((vint_Text.f k a1_2).bind fun t178 => (if y175.length + t178.length < 140737488355328 then (some (y175 ++ t178)) else (none))) else (if a0 = 1 then ((vint_Int.f k a1_1).bind fun t184 => (if y175.length + t184.length < 140737488355328 then (some (y175 ++ t184)) else (none))) else (if a0 = 2 then ((vint_Int.f k a1_1).bind fun t190 => (if y175.length + t190.length < 140737488355328 then (some (y175 ++ t190)) else (none))) else (some y175))))))) = some r := h
 clear h
 replace H := Option.bind_eq_some_iff.mp H
 obtain ⟨t174, A30, H⟩ := H
 replace H : ((some (([(t174) % 256] : List Int) : List Int)).bind fun y175 => (if a1_0 = true then (some y175) else (if a0 = 3 then ((vint_Text.f k a1_2).bind fun t178 => (if y175.length + t178.length < 140737488355328 then (some (y175 ++ t178)) else (none))) else (if a0 = 1 then ((vint_Int.f k a1_1).bind fun t184 => (if y175.length + t184.length < 140737488355328 then (some (y175 ++ t184)) else (none))) else (if a0 = 2 then ((vint_Int.f k a1_1).bind fun t190 => (if y175.length + t190.length < 140737488355328 then (some (y175 ++ t190)) else (none))) else (some y175)))))) = some r := H
 have A3 := A_ A30
 clear A30
 obtain ⟨y175, hy175⟩ : ∃ y_ : List Int, y_ = (([(t174) % 256] : List Int)) := ⟨_, rfl⟩
 replace H : (if a1_0 = true then (some y175) else (if a0 = 3 then ((vint_Text.f k a1_2).bind fun t178 => (if y175.length + t178.length < 140737488355328 then (some (y175 ++ t178)) else (none))) else (if a0 = 1 then ((vint_Int.f k a1_1).bind fun t184 => (if y175.length + t184.length < 140737488355328 then (some (y175 ++ t184)) else (none))) else (if a0 = 2 then ((vint_Int.f k a1_1).bind fun t190 => (if y175.length + t190.length < 140737488355328 then (some (y175 ++ t190)) else (none))) else (some y175))))) = some r := by first | (rw [hy175]; with_reducible exact H) | (have H2_ := (Option.bind_some _ _).symm.trans H; rw [hy175]; with_reducible exact H2_) | (have H2_ := (Option.bind_some _ _).symm.trans H; with_reducible exact H2_) | with_reducible exact H | (rw [hy175]; exact H) | exact H
 have Ny175 := A_ hy175
 clear hy175
 by_cases c4 : a1_0 = true
 ·subst c4
  have H1 : (some y175) = some r := by rw [if_pos rfl] at H; exact H
  clear H
  have H := H1
  clear H1
  obtain rfl := Option.some.inj H
  go_enter Try.func63, Try.ntmps63
  go_wp2_with (first | ((with_reducible refine gate_dst (N := 3) rfl ?_); refine box_event ?hg (N := 3) ?hd (cs := #[.bool true, .int .i64 a1_1, .string a1_2]) (t := 23) ?hr ?_; (case hd => rfl); (case hg => rfl); (case hr => first | (go_simp; done) | (go_simp; rfl)); intro gb173 hg w5 hbox hb; have n0_ := A_ (bp_ (by repeat (first | (with_reducible first | exact HB.out | apply ba_ | apply bn_ | apply bd_) | exact HB.out)) hb); have n1_ := A_ (hbox); have n2_ := A_ ((by rw [hg]; exact (below_size (by repeat (first | (with_reducible first | exact HB.out | apply ba_ | apply bn_ | apply bd_) | exact HB.out))) : w.heap.size ≤ gb173)); have n3_ := A_ ((by rw [hg]; exact (below_size (by repeat (first | (with_reducible first | exact HB.out | apply ba_ | apply bn_ | apply bd_) | exact HB.out))) : w.heap.size ≤ gb173)); clear HB; have HB := n0_; have BK173 := n1_; have GW173 := n2_; have GE173 := n3_; clear n0_ n1_ n2_ n3_; clear hb hbox hg; have hcz6_0 : w5.cell? ⟨gb173, 0, none⟩ = some (.bool true) := (bc_ BK173.out 0).trans rfl; have hcz6_1 : w5.cell? ⟨gb173, 1, none⟩ = some (.int .i64 a1_1) := (bc_ BK173.out 1).trans rfl; have hcz6_2 : w5.cell? ⟨gb173, 2, none⟩ = some (.string a1_2) := (bc_ BK173.out 2).trans rfl; have hfz6_0 := bf_ BK173.out 0; have hfz6_1 := bf_ BK173.out 1; have hfz6_2 := bf_ BK173.out 2) | ((with_reducible refine gate_callee (f := 89) rfl ?_); refine goesL_ (some 7) rfl rfl Try.func89 (by kernel_rfl) rfl #[.agg #[.bool true, .int .i64 a1_1, .string a1_2]] rfl (by (try simp only [List.map_toArray, List.map_cons, List.map_nil]); first | done | rfl | (simp only [List.length_drop, List.length_take]; rfl)) ?_; (with_reducible refine (cell_flag.calls true a1_1 a1_2 t174 _ A3.out).mono ?_); rintro e w7 ⟨rfl, hb⟩; refine ⟨_, rfl, ?_⟩; have n0_ := A_ (blk_below (g := gb173) (o := .cells #[.bool true, .int .i64 a1_1, .string a1_2] 23 (0, 0)) (by (with_reducible repeat (first | refine kn_ ?_ _ | refine kd_ ?_ | refine ka_ ?_ _)); exact BK173.out) hb); have n1_ := A_ (bp_ (by repeat (first | (with_reducible first | exact HB.out | apply ba_ | apply bn_ | apply bd_ | refine bs_ ?_ GE173.out) | exact HB.out)) hb); clear BK173; clear HB; have BK173 := n0_; have HB := n1_; clear n0_ n1_; (try clear hb); (try clear hb2); (try clear hk); (try clear hi)) | ((with_reducible refine gate_dst (N := 9) rfl ?_); refine Kd.R_lit (Kd.int .u8) _ 5 ?hg (N := 9) ?hd (xs := ([(t174) % 256] : List Int)) (inner := [.int .u8 ((t174) % 256)]) (ok := fun _ => True) (okp := fun _ => True) ?hr ?hp (fun _ hk => hk) trivial (Below.refl _ _) (Nat.le_refl _) (by simp) ?_; (case hd => rfl); (case hg => rfl); (case hr => first | (go_simp; done) | (go_simp; rfl)); (case hp => exact (Reps.one (show Kd.M (Kd.int .u8) _ _ _ ((t174) % 256) [.int .u8 ((t174) % 256)] from rfl) (Reps.none _ _))); intro v176 w8 ho9 hb hg_ hnew_; clear hg_ hnew_; (first | rw [← Ny175.out] at ho9 | (simp only [Int.reduceToNat] at ho9; rw [← Ny175.out] at ho9)); have n0_ := A_ (Kd.R_lower ho9 (below_size (by repeat (first | (with_reducible first | exact HB.out | apply ba_ | apply bn_ | apply bd_ | refine bs_ ?_ GE173.out) | exact HB.out)))); have n1_ := A_ (blk_below (g := gb173) (o := .cells #[.bool true, .int .i64 a1_1, .string a1_2] 23 (0, 0)) (by (with_reducible repeat (first | refine kn_ ?_ _ | refine kd_ ?_ | refine ka_ ?_ _)); exact BK173.out) hb); have n2_ := A_ (bp_ (by repeat (first | (with_reducible first | exact HB.out | apply ba_ | apply bn_ | apply bd_ | refine bs_ ?_ GE173.out) | exact HB.out)) hb); clear BK173; clear HB; have HO177 := n0_; have BK173 := n1_; have HB := n2_; clear n0_ n1_ n2_; clear hb ho9; have hcz10_0 : w8.cell? ⟨gb173, 0, none⟩ = some (.bool true) := (bc_ BK173.out 0).trans rfl; have hcz10_1 : w8.cell? ⟨gb173, 1, none⟩ = some (.int .i64 a1_1) := (bc_ BK173.out 1).trans rfl; have hcz10_2 : w8.cell? ⟨gb173, 2, none⟩ = some (.string a1_2) := (bc_ BK173.out 2).trans rfl; have hfz10_0 := bf_ BK173.out 0; have hfz10_1 := bf_ BK173.out 1; have hfz10_2 := bf_ BK173.out 2))
  go_ret
  exact ⟨_, by first | rfl | (simp [errW_none, errW_some] <;> rfl) | (simp [*, errW_none, errW_some] <;> rfl), by (with_reducible repeat (first | apply Kd.R_alloc | apply Kd.R_drewN | apply Kd.R_drew)); exact HO177.out, by repeat (first | (with_reducible first | exact HB.out | apply ba_ | apply bn_ | apply bd_ | refine bs_ ?_ GE173.out) | exact HB.out)⟩
 ·replace c4 := Bool.eq_false_iff.mpr c4
  subst c4
  have H1 : (if a0 = 3 then ((vint_Text.f k a1_2).bind fun t178 => (if y175.length + t178.length < 140737488355328 then (some (y175 ++ t178)) else (none))) else (if a0 = 1 then ((vint_Int.f k a1_1).bind fun t184 => (if y175.length + t184.length < 140737488355328 then (some (y175 ++ t184)) else (none))) else (if a0 = 2 then ((vint_Int.f k a1_1).bind fun t190 => (if y175.length + t190.length < 140737488355328 then (some (y175 ++ t190)) else (none))) else (some y175)))) = some r := by rw [if_neg (show ¬ (false = true) by decide)] at H; exact H
  clear H
  have H := H1
  clear H1
  by_cases c11 : a0 = 3
  ·rw [if_pos c11] at H
   have c11b0 : (a0 == 3) = true := beq_iff_eq.mpr c11
   have c11b1 : (a0 != 3) = false := bne_eq_false_iff_eq.mpr c11
   clear c11
   replace H := Option.bind_eq_some_iff.mp H
   obtain ⟨t178, A120, H⟩ := H
   replace H : (if y175.length + t178.length < 140737488355328 then (some (y175 ++ t178)) else (none)) = some r := H
   have A12 := A_ A120
   clear A120
   by_cases c13 : y175.length + t178.length < 140737488355328
   ·rw [if_pos c13] at H
    have LMc13 := A_ c13
    clear c13
    obtain ⟨y181, hy181⟩ : ∃ y_ : List Int, y_ = (y175 ++ t178) := ⟨_, rfl⟩
    replace H : (some y181) = some r := by first | (rw [hy181]; with_reducible exact H) | (have H2_ := (Option.bind_some _ _).symm.trans H; rw [hy181]; with_reducible exact H2_) | (have H2_ := (Option.bind_some _ _).symm.trans H; with_reducible exact H2_) | with_reducible exact H | (rw [hy181]; exact H) | exact H
    have Ny181 := A_ hy181
    clear hy181
    obtain rfl := Option.some.inj H
    go_enter Try.func63, Try.ntmps63
    go_wp2_with (first | ((with_reducible refine gate_dst (N := 3) rfl ?_); refine box_event ?hg (N := 3) ?hd (cs := #[.bool false, .int .i64 a1_1, .string a1_2]) (t := 23) ?hr ?_; (case hd => rfl); (case hg => rfl); (case hr => first | (go_simp; done) | (go_simp; rfl)); intro gb173 hg w14 hbox hb; have n0_ := A_ (bp_ (by repeat (first | (with_reducible first | exact HB.out | apply ba_ | apply bn_ | apply bd_) | exact HB.out)) hb); have n1_ := A_ (hbox); have n2_ := A_ ((by rw [hg]; exact (below_size (by repeat (first | (with_reducible first | exact HB.out | apply ba_ | apply bn_ | apply bd_) | exact HB.out))) : w.heap.size ≤ gb173)); have n3_ := A_ ((by rw [hg]; exact (below_size (by repeat (first | (with_reducible first | exact HB.out | apply ba_ | apply bn_ | apply bd_) | exact HB.out))) : w.heap.size ≤ gb173)); clear HB; have HB := n0_; have BK173 := n1_; have GW173 := n2_; have GE173 := n3_; clear n0_ n1_ n2_ n3_; clear hb hbox hg; have hcz15_0 : w14.cell? ⟨gb173, 0, none⟩ = some (.bool false) := (bc_ BK173.out 0).trans rfl; have hcz15_1 : w14.cell? ⟨gb173, 1, none⟩ = some (.int .i64 a1_1) := (bc_ BK173.out 1).trans rfl; have hcz15_2 : w14.cell? ⟨gb173, 2, none⟩ = some (.string a1_2) := (bc_ BK173.out 2).trans rfl; have hfz15_0 := bf_ BK173.out 0; have hfz15_1 := bf_ BK173.out 1; have hfz15_2 := bf_ BK173.out 2) | ((with_reducible refine gate_callee (f := 89) rfl ?_); refine goesL_ (some 7) rfl rfl Try.func89 (by kernel_rfl) rfl #[.agg #[.bool false, .int .i64 a1_1, .string a1_2]] rfl (by (try simp only [List.map_toArray, List.map_cons, List.map_nil]); first | done | rfl | (simp only [List.length_drop, List.length_take]; rfl)) ?_; (with_reducible refine (cell_flag.calls false a1_1 a1_2 t174 _ A3.out).mono ?_); rintro e w16 ⟨rfl, hb⟩; refine ⟨_, rfl, ?_⟩; have n0_ := A_ (blk_below (g := gb173) (o := .cells #[.bool false, .int .i64 a1_1, .string a1_2] 23 (0, 0)) (by (with_reducible repeat (first | refine kn_ ?_ _ | refine kd_ ?_ | refine ka_ ?_ _)); exact BK173.out) hb); have n1_ := A_ (bp_ (by repeat (first | (with_reducible first | exact HB.out | apply ba_ | apply bn_ | apply bd_ | refine bs_ ?_ GE173.out) | exact HB.out)) hb); clear BK173; clear HB; have BK173 := n0_; have HB := n1_; clear n0_ n1_; (try clear hb); (try clear hb2); (try clear hk); (try clear hi)) | ((with_reducible refine gate_dst (N := 9) rfl ?_); refine Kd.R_lit (Kd.int .u8) _ 5 ?hg (N := 9) ?hd (xs := ([(t174) % 256] : List Int)) (inner := [.int .u8 ((t174) % 256)]) (ok := fun _ => True) (okp := fun _ => True) ?hr ?hp (fun _ hk => hk) trivial (Below.refl _ _) (Nat.le_refl _) (by simp) ?_; (case hd => rfl); (case hg => rfl); (case hr => first | (go_simp; done) | (go_simp; rfl)); (case hp => exact (Reps.one (show Kd.M (Kd.int .u8) _ _ _ ((t174) % 256) [.int .u8 ((t174) % 256)] from rfl) (Reps.none _ _))); intro v176 w17 ho18 hb hg_ hnew_; clear hg_ hnew_; (first | rw [← Ny175.out] at ho18 | (simp only [Int.reduceToNat] at ho18; rw [← Ny175.out] at ho18)); have n0_ := A_ (Kd.R_lower ho18 (below_size (by repeat (first | (with_reducible first | exact HB.out | apply ba_ | apply bn_ | apply bd_ | refine bs_ ?_ GE173.out) | exact HB.out)))); have n1_ := A_ (blk_below (g := gb173) (o := .cells #[.bool false, .int .i64 a1_1, .string a1_2] 23 (0, 0)) (by (with_reducible repeat (first | refine kn_ ?_ _ | refine kd_ ?_ | refine ka_ ?_ _)); exact BK173.out) hb); have n2_ := A_ (bp_ (by repeat (first | (with_reducible first | exact HB.out | apply ba_ | apply bn_ | apply bd_ | refine bs_ ?_ GE173.out) | exact HB.out)) hb); clear BK173; clear HB; have HO177 := n0_; have BK173 := n1_; have HB := n2_; clear n0_ n1_ n2_; clear hb ho18; have hcz19_0 : w17.cell? ⟨gb173, 0, none⟩ = some (.bool false) := (bc_ BK173.out 0).trans rfl; have hcz19_1 : w17.cell? ⟨gb173, 1, none⟩ = some (.int .i64 a1_1) := (bc_ BK173.out 1).trans rfl; have hcz19_2 : w17.cell? ⟨gb173, 2, none⟩ = some (.string a1_2) := (bc_ BK173.out 2).trans rfl; have hfz19_0 := bf_ BK173.out 0; have hfz19_1 := bf_ BK173.out 1; have hfz19_2 := bf_ BK173.out 2) | ((with_reducible refine gate_callee (f := 47) rfl ?_); refine goesL_ (some 20) rfl rfl Try.func47 (by kernel_rfl) rfl #[.string a1_2] rfl (by (try simp only [List.map_toArray, List.map_cons, List.map_nil]); first | done | rfl | (simp only [List.length_drop, List.length_take]; rfl)) ?_; (with_reducible refine (vint_Text.calls k a1_2 t178 _ A12.out).mono ?_); rintro e w20 ⟨v179, rfl, ho0, hb⟩; refine ⟨_, rfl, ?_⟩; have n0_ := A_ (Kd.R_below (by (with_reducible repeat (first | apply Kd.R_alloc | apply Kd.R_drewN | apply Kd.R_drew)); exact HO177.out) hb); have n1_ := A_ (Kd.V_lower (Kd.V_mono (ok' := fun k_ => some k_ ≠ (v176 : Value).ownBlock ∧ k_ ≠ gb173) ho0 (fun k_ hk_ => ⟨(Kd.fresh' (Kd.R_lt (by (with_reducible repeat (first | apply Kd.R_alloc | apply Kd.R_drewN | apply Kd.R_drew)); exact HO177.out)) k_ hk_), (Kd.freshB (g := gb173) (o := .cells #[.bool false, .int .i64 a1_1, .string a1_2] 23 (0, 0)) (by (with_reducible repeat (first | refine kn_ ?_ _ | refine kd_ ?_ | refine ka_ ?_ _)); exact BK173.out) k_ hk_)⟩)) (below_size (by repeat (first | (with_reducible first | exact HB.out | apply ba_ | apply bn_ | apply bd_ | refine bs_ ?_ GE173.out) | exact HB.out)))); have n2_ := A_ (blk_below (g := gb173) (o := .cells #[.bool false, .int .i64 a1_1, .string a1_2] 23 (0, 0)) (by (with_reducible repeat (first | refine kn_ ?_ _ | refine kd_ ?_ | refine ka_ ?_ _)); exact BK173.out) hb); have n3_ := A_ (bp_ (by repeat (first | (with_reducible first | exact HB.out | apply ba_ | apply bn_ | apply bd_ | refine bs_ ?_ GE173.out) | exact HB.out)) hb); clear HO177; clear BK173; clear HB; have HO177 := n0_; have HO180 := n1_; have BK173 := n2_; have HB := n3_; clear n0_ n1_ n2_ n3_; (try clear hb); (try clear hb2); (try clear hk); (try clear hi); (try clear ho0); obtain ⟨Ao22, co22, eo22⟩ := Kd.V_slice HO180.out; subst eo22) | ((with_reducible refine gate_builtin (b := .append) (xs := #[.tmp 17, .tmp 20]) rfl ?_); at_builtin; refine Kd.R_append_rows (Kd.int .u8) (w0 := w) w.heap.size rfl (.tmp 17) (.tmp 20) 31 5 (.int .u8 0) 1 rfl Try.underlying31 info5 rfl (by decide) (by omega) v176 y175 t178 _ _ _ (fun _ => True) (fun _ => False) rfl rfl ?aO ?aR (fun _ _ h => h) (fun _ h => h.elim) ?aF ?aB ?aS ?aL ?_; (case aR => repeat (first | exact (Kd.V_reads' HO180.out).2.2 | (with_reducible refine Kd.C_alloc ?_ _) | (with_reducible refine Kd.C_drewN ?_ _) | (with_reducible refine Kd.C_drew ?_))); (case aB => exact (by repeat (first | (with_reducible first | exact HB.out | apply ba_ | apply bn_ | apply bd_ | refine bs_ ?_ GE173.out) | exact HB.out))); (case aF => exact (fun _ _ => trivial)); (case aO => exact (by (with_reducible repeat (first | apply Kd.R_alloc | apply Kd.R_drewN | apply Kd.R_drew)); exact HO177.out)); (case aS => exact (below_size (by repeat (first | (with_reducible first | exact HB.out | apply ba_ | apply bn_ | apply bd_ | refine bs_ ?_ GE173.out) | exact HB.out)))); (case aL => have := LMc13.out; omega); intro v182 w21 ho hb hg hat; rw [← Ny181.out] at ho; have n0_ := A_ (blk_grown (g := gb173) (o := .cells #[.bool false, .int .i64 a1_1, .string a1_2] 23 (0, 0)) (by (with_reducible repeat (first | refine kn_ ?_ _ | refine kd_ ?_ | refine ka_ ?_ _)); exact BK173.out) hg (Kd.R_ne HO177.out BK173.out (by decide))); have n1_ := A_ (Kd.V_afterv (ok := (fun k_ => k_ ≠ gb173)) (by (with_reducible repeat (first | apply Kd.V_alloc | apply Kd.V_drewN | apply Kd.V_drew)); exact Kd.V_mono HO180.out (fun _ hk => ⟨hk.2, hk.1⟩)) hg hat); have n2_ := A_ (hb); have n3_ := A_ (ho); clear BK173; clear HO180; clear HB; clear HO177; have BK173 := n0_; have HO180 := n1_; have HB := n2_; have HO183 := n3_; clear n0_ n1_ n2_ n3_; clear ho hb hg hat))
    go_ret
    exact ⟨_, by first | rfl | (simp [errW_none, errW_some] <;> rfl) | (simp [*, errW_none, errW_some] <;> rfl), by (with_reducible repeat (first | apply Kd.R_alloc | apply Kd.R_drewN | apply Kd.R_drew)); exact HO183.out, by repeat (first | (with_reducible first | exact HB.out | apply ba_ | apply bn_ | apply bd_ | refine bs_ ?_ GE173.out) | exact HB.out)⟩
   ·rw [if_neg c13] at H
    exact absurd H (by simp)
  ·rw [if_neg c11] at H
   have c11b0 : (a0 == 3) = false := beq_eq_false_iff_ne.mpr c11
   have c11b1 : (a0 != 3) = true := bne_iff_ne.mpr c11
   by_cases c23 : a0 = 1
   ·rw [if_pos c23] at H
    have c23b0 : (a0 == 1) = true := beq_iff_eq.mpr c23
    have c23b1 : (a0 != 1) = false := bne_eq_false_iff_eq.mpr c23
    clear c23
    replace H := Option.bind_eq_some_iff.mp H
    obtain ⟨t184, A240, H⟩ := H
    replace H : (if y175.length + t184.length < 140737488355328 then (some (y175 ++ t184)) else (none)) = some r := H
    have A24 := A_ A240
    clear A240
    by_cases c25 : y175.length + t184.length < 140737488355328
    ·rw [if_pos c25] at H
     have LMc25 := A_ c25
     clear c25
     obtain ⟨y187, hy187⟩ : ∃ y_ : List Int, y_ = (y175 ++ t184) := ⟨_, rfl⟩
     replace H : (some y187) = some r := by first | (rw [hy187]; with_reducible exact H) | (have H2_ := (Option.bind_some _ _).symm.trans H; rw [hy187]; with_reducible exact H2_) | (have H2_ := (Option.bind_some _ _).symm.trans H; with_reducible exact H2_) | with_reducible exact H | (rw [hy187]; exact H) | exact H
     have Ny187 := A_ hy187
     clear hy187
     obtain rfl := Option.some.inj H
     go_enter Try.func63, Try.ntmps63
     go_wp2_with (first | ((with_reducible refine gate_dst (N := 3) rfl ?_); refine box_event ?hg (N := 3) ?hd (cs := #[.bool false, .int .i64 a1_1, .string a1_2]) (t := 23) ?hr ?_; (case hd => rfl); (case hg => rfl); (case hr => first | (go_simp; done) | (go_simp; rfl)); intro gb173 hg w26 hbox hb; have n0_ := A_ (bp_ (by repeat (first | (with_reducible first | exact HB.out | apply ba_ | apply bn_ | apply bd_) | exact HB.out)) hb); have n1_ := A_ (hbox); have n2_ := A_ ((by rw [hg]; exact (below_size (by repeat (first | (with_reducible first | exact HB.out | apply ba_ | apply bn_ | apply bd_) | exact HB.out))) : w.heap.size ≤ gb173)); have n3_ := A_ ((by rw [hg]; exact (below_size (by repeat (first | (with_reducible first | exact HB.out | apply ba_ | apply bn_ | apply bd_) | exact HB.out))) : w.heap.size ≤ gb173)); clear HB; have HB := n0_; have BK173 := n1_; have GW173 := n2_; have GE173 := n3_; clear n0_ n1_ n2_ n3_; clear hb hbox hg; have hcz27_0 : w26.cell? ⟨gb173, 0, none⟩ = some (.bool false) := (bc_ BK173.out 0).trans rfl; have hcz27_1 : w26.cell? ⟨gb173, 1, none⟩ = some (.int .i64 a1_1) := (bc_ BK173.out 1).trans rfl; have hcz27_2 : w26.cell? ⟨gb173, 2, none⟩ = some (.string a1_2) := (bc_ BK173.out 2).trans rfl; have hfz27_0 := bf_ BK173.out 0; have hfz27_1 := bf_ BK173.out 1; have hfz27_2 := bf_ BK173.out 2) | ((with_reducible refine gate_callee (f := 89) rfl ?_); refine goesL_ (some 7) rfl rfl Try.func89 (by kernel_rfl) rfl #[.agg #[.bool false, .int .i64 a1_1, .string a1_2]] rfl (by (try simp only [List.map_toArray, List.map_cons, List.map_nil]); first | done | rfl | (simp only [List.length_drop, List.length_take]; rfl)) ?_; (with_reducible refine (cell_flag.calls false a1_1 a1_2 t174 _ A3.out).mono ?_); rintro e w28 ⟨rfl, hb⟩; refine ⟨_, rfl, ?_⟩; have n0_ := A_ (blk_below (g := gb173) (o := .cells #[.bool false, .int .i64 a1_1, .string a1_2] 23 (0, 0)) (by (with_reducible repeat (first | refine kn_ ?_ _ | refine kd_ ?_ | refine ka_ ?_ _)); exact BK173.out) hb); have n1_ := A_ (bp_ (by repeat (first | (with_reducible first | exact HB.out | apply ba_ | apply bn_ | apply bd_ | refine bs_ ?_ GE173.out) | exact HB.out)) hb); clear BK173; clear HB; have BK173 := n0_; have HB := n1_; clear n0_ n1_; (try clear hb); (try clear hb2); (try clear hk); (try clear hi)) | ((with_reducible refine gate_dst (N := 9) rfl ?_); refine Kd.R_lit (Kd.int .u8) _ 5 ?hg (N := 9) ?hd (xs := ([(t174) % 256] : List Int)) (inner := [.int .u8 ((t174) % 256)]) (ok := fun _ => True) (okp := fun _ => True) ?hr ?hp (fun _ hk => hk) trivial (Below.refl _ _) (Nat.le_refl _) (by simp) ?_; (case hd => rfl); (case hg => rfl); (case hr => first | (go_simp; done) | (go_simp; rfl)); (case hp => exact (Reps.one (show Kd.M (Kd.int .u8) _ _ _ ((t174) % 256) [.int .u8 ((t174) % 256)] from rfl) (Reps.none _ _))); intro v176 w29 ho30 hb hg_ hnew_; clear hg_ hnew_; (first | rw [← Ny175.out] at ho30 | (simp only [Int.reduceToNat] at ho30; rw [← Ny175.out] at ho30)); have n0_ := A_ (Kd.R_lower ho30 (below_size (by repeat (first | (with_reducible first | exact HB.out | apply ba_ | apply bn_ | apply bd_ | refine bs_ ?_ GE173.out) | exact HB.out)))); have n1_ := A_ (blk_below (g := gb173) (o := .cells #[.bool false, .int .i64 a1_1, .string a1_2] 23 (0, 0)) (by (with_reducible repeat (first | refine kn_ ?_ _ | refine kd_ ?_ | refine ka_ ?_ _)); exact BK173.out) hb); have n2_ := A_ (bp_ (by repeat (first | (with_reducible first | exact HB.out | apply ba_ | apply bn_ | apply bd_ | refine bs_ ?_ GE173.out) | exact HB.out)) hb); clear BK173; clear HB; have HO177 := n0_; have BK173 := n1_; have HB := n2_; clear n0_ n1_ n2_; clear hb ho30; have hcz31_0 : w29.cell? ⟨gb173, 0, none⟩ = some (.bool false) := (bc_ BK173.out 0).trans rfl; have hcz31_1 : w29.cell? ⟨gb173, 1, none⟩ = some (.int .i64 a1_1) := (bc_ BK173.out 1).trans rfl; have hcz31_2 : w29.cell? ⟨gb173, 2, none⟩ = some (.string a1_2) := (bc_ BK173.out 2).trans rfl; have hfz31_0 := bf_ BK173.out 0; have hfz31_1 := bf_ BK173.out 1; have hfz31_2 := bf_ BK173.out 2) | ((with_reducible refine gate_callee (f := 46) rfl ?_); refine goesL_ (some 32) rfl rfl Try.func46 (by kernel_rfl) rfl #[.int .i64 a1_1] rfl (by (try simp only [List.map_toArray, List.map_cons, List.map_nil]); first | done | rfl | (simp only [List.length_drop, List.length_take]; rfl)) ?_; (with_reducible refine (vint_Int.calls k a1_1 t184 _ A24.out).mono ?_); rintro e w32 ⟨v185, rfl, ho0, hb⟩; refine ⟨_, rfl, ?_⟩; have n0_ := A_ (Kd.R_elder' (by (with_reducible repeat (first | apply Kd.R_alloc | apply Kd.R_drewN | apply Kd.R_drew)); exact HO177.out) (Kd.R_base ho0) hb); have n1_ := A_ (Kd.R_lower (Kd.R_new' ho0 (Kd.R_lt (by (with_reducible repeat (first | apply Kd.R_alloc | apply Kd.R_drewN | apply Kd.R_drew)); exact HO177.out))) (below_size (by repeat (first | (with_reducible first | exact HB.out | apply ba_ | apply bn_ | apply bd_ | refine bs_ ?_ GE173.out) | exact HB.out)))); have n2_ := A_ (blk_below (g := gb173) (o := .cells #[.bool false, .int .i64 a1_1, .string a1_2] 23 (0, 0)) (by (with_reducible repeat (first | refine kn_ ?_ _ | refine kd_ ?_ | refine ka_ ?_ _)); exact BK173.out) hb); have n3_ := A_ (bp_ (by repeat (first | (with_reducible first | exact HB.out | apply ba_ | apply bn_ | apply bd_ | refine bs_ ?_ GE173.out) | exact HB.out)) hb); clear HO177; clear BK173; clear HB; have HO177 := n0_; have HO186 := n1_; have BK173 := n2_; have HB := n3_; clear n0_ n1_ n2_ n3_; (try clear hb); (try clear hb2); (try clear hk); (try clear hi); (try clear ho0); obtain ⟨Ao34, co34, eo34⟩ := Kd.R_slice HO186.out; subst eo34) | ((with_reducible refine gate_builtin (b := .append) (xs := #[.tmp 29, .tmp 32]) rfl ?_); at_builtin; refine Kd.R_append_rows (Kd.int .u8) (w0 := w) w.heap.size rfl (.tmp 29) (.tmp 32) 31 5 (.int .u8 0) 1 rfl Try.underlying31 info5 rfl (by decide) (by omega) v176 y175 t184 _ _ _ (fun k_ => some k_ ≠ (.slice Ao34 t184.length co34 : Value).ownBlock) (fun _ => False) rfl rfl ?aO ?aR (fun _ _ h => h) (fun _ h => h.elim) ?aF ?aB ?aS ?aL ?_; (case aR => repeat (first | exact (Kd.R_reads' HO186.out).2.2 | (with_reducible refine Kd.C_alloc ?_ _) | (with_reducible refine Kd.C_drewN ?_ _) | (with_reducible refine Kd.C_drew ?_))); (case aB => exact (by repeat (first | (with_reducible first | exact HB.out | apply ba_ | apply bn_ | apply bd_ | refine bs_ ?_ GE173.out) | exact HB.out))); (case aF => exact (fun k_ hk => Kd.fresh' (Kd.R_lt (by (with_reducible repeat (first | apply Kd.R_alloc | apply Kd.R_drewN | apply Kd.R_drew)); exact HO186.out)) k_ hk)); (case aO => exact (by (with_reducible repeat (first | apply Kd.R_alloc | apply Kd.R_drewN | apply Kd.R_drew)); exact Kd.R_mono HO177.out (fun _ hk => hk.2))); (case aS => exact (below_size (by repeat (first | (with_reducible first | exact HB.out | apply ba_ | apply bn_ | apply bd_ | refine bs_ ?_ GE173.out) | exact HB.out)))); (case aL => have := LMc25.out; omega); intro v188 w33 ho hb hg hat; rw [← Ny187.out] at ho; have n0_ := A_ (blk_grown (g := gb173) (o := .cells #[.bool false, .int .i64 a1_1, .string a1_2] 23 (0, 0)) (by (with_reducible repeat (first | refine kn_ ?_ _ | refine kd_ ?_ | refine ka_ ?_ _)); exact BK173.out) hg (Kd.R_ne HO177.out BK173.out (by decide))); have n1_ := A_ (Kd.R_after (ok := (fun _ => True)) (by (with_reducible repeat (first | apply Kd.R_alloc | apply Kd.R_drewN | apply Kd.R_drew)); exact HO186.out) hg hat); have n2_ := A_ (hb); have n3_ := A_ (ho); clear BK173; clear HO186; clear HB; clear HO177; have BK173 := n0_; have HO186 := n1_; have HB := n2_; have HO189 := n3_; clear n0_ n1_ n2_ n3_; clear ho hb hg hat))
     go_ret
     exact ⟨_, by first | rfl | (simp [errW_none, errW_some] <;> rfl) | (simp [*, errW_none, errW_some] <;> rfl), by (with_reducible repeat (first | apply Kd.R_alloc | apply Kd.R_drewN | apply Kd.R_drew)); exact Kd.R_mono HO189.out (fun _ hk => trivial), by repeat (first | (with_reducible first | exact HB.out | apply ba_ | apply bn_ | apply bd_ | refine bs_ ?_ GE173.out) | exact HB.out)⟩
    ·rw [if_neg c25] at H
     exact absurd H (by simp)
   ·rw [if_neg c23] at H
    have c23b0 : (a0 == 1) = false := beq_eq_false_iff_ne.mpr c23
    have c23b1 : (a0 != 1) = true := bne_iff_ne.mpr c23
    by_cases c35 : a0 = 2
    ·rw [if_pos c35] at H
     have c35b0 : (a0 == 2) = true := beq_iff_eq.mpr c35
     have c35b1 : (a0 != 2) = false := bne_eq_false_iff_eq.mpr c35
     clear c35
     replace H := Option.bind_eq_some_iff.mp H
     obtain ⟨t190, A360, H⟩ := H
     replace H : (if y175.length + t190.length < 140737488355328 then (some (y175 ++ t190)) else (none)) = some r := H
     have A36 := A_ A360
     clear A360
     by_cases c37 : y175.length + t190.length < 140737488355328
     ·rw [if_pos c37] at H
      have LMc37 := A_ c37
      clear c37
      obtain ⟨y193, hy193⟩ : ∃ y_ : List Int, y_ = (y175 ++ t190) := ⟨_, rfl⟩
      replace H : (some y193) = some r := by first | (rw [hy193]; with_reducible exact H) | (have H2_ := (Option.bind_some _ _).symm.trans H; rw [hy193]; with_reducible exact H2_) | (have H2_ := (Option.bind_some _ _).symm.trans H; with_reducible exact H2_) | with_reducible exact H | (rw [hy193]; exact H) | exact H
      have Ny193 := A_ hy193
      clear hy193
      obtain rfl := Option.some.inj H
      go_enter Try.func63, Try.ntmps63
      go_wp2_with (first | ((with_reducible refine gate_dst (N := 3) rfl ?_); refine box_event ?hg (N := 3) ?hd (cs := #[.bool false, .int .i64 a1_1, .string a1_2]) (t := 23) ?hr ?_; (case hd => rfl); (case hg => rfl); (case hr => first | (go_simp; done) | (go_simp; rfl)); intro gb173 hg w38 hbox hb; have n0_ := A_ (bp_ (by repeat (first | (with_reducible first | exact HB.out | apply ba_ | apply bn_ | apply bd_) | exact HB.out)) hb); have n1_ := A_ (hbox); have n2_ := A_ ((by rw [hg]; exact (below_size (by repeat (first | (with_reducible first | exact HB.out | apply ba_ | apply bn_ | apply bd_) | exact HB.out))) : w.heap.size ≤ gb173)); have n3_ := A_ ((by rw [hg]; exact (below_size (by repeat (first | (with_reducible first | exact HB.out | apply ba_ | apply bn_ | apply bd_) | exact HB.out))) : w.heap.size ≤ gb173)); clear HB; have HB := n0_; have BK173 := n1_; have GW173 := n2_; have GE173 := n3_; clear n0_ n1_ n2_ n3_; clear hb hbox hg; have hcz39_0 : w38.cell? ⟨gb173, 0, none⟩ = some (.bool false) := (bc_ BK173.out 0).trans rfl; have hcz39_1 : w38.cell? ⟨gb173, 1, none⟩ = some (.int .i64 a1_1) := (bc_ BK173.out 1).trans rfl; have hcz39_2 : w38.cell? ⟨gb173, 2, none⟩ = some (.string a1_2) := (bc_ BK173.out 2).trans rfl; have hfz39_0 := bf_ BK173.out 0; have hfz39_1 := bf_ BK173.out 1; have hfz39_2 := bf_ BK173.out 2) | ((with_reducible refine gate_callee (f := 89) rfl ?_); refine goesL_ (some 7) rfl rfl Try.func89 (by kernel_rfl) rfl #[.agg #[.bool false, .int .i64 a1_1, .string a1_2]] rfl (by (try simp only [List.map_toArray, List.map_cons, List.map_nil]); first | done | rfl | (simp only [List.length_drop, List.length_take]; rfl)) ?_; (with_reducible refine (cell_flag.calls false a1_1 a1_2 t174 _ A3.out).mono ?_); rintro e w40 ⟨rfl, hb⟩; refine ⟨_, rfl, ?_⟩; have n0_ := A_ (blk_below (g := gb173) (o := .cells #[.bool false, .int .i64 a1_1, .string a1_2] 23 (0, 0)) (by (with_reducible repeat (first | refine kn_ ?_ _ | refine kd_ ?_ | refine ka_ ?_ _)); exact BK173.out) hb); have n1_ := A_ (bp_ (by repeat (first | (with_reducible first | exact HB.out | apply ba_ | apply bn_ | apply bd_ | refine bs_ ?_ GE173.out) | exact HB.out)) hb); clear BK173; clear HB; have BK173 := n0_; have HB := n1_; clear n0_ n1_; (try clear hb); (try clear hb2); (try clear hk); (try clear hi)) | ((with_reducible refine gate_dst (N := 9) rfl ?_); refine Kd.R_lit (Kd.int .u8) _ 5 ?hg (N := 9) ?hd (xs := ([(t174) % 256] : List Int)) (inner := [.int .u8 ((t174) % 256)]) (ok := fun _ => True) (okp := fun _ => True) ?hr ?hp (fun _ hk => hk) trivial (Below.refl _ _) (Nat.le_refl _) (by simp) ?_; (case hd => rfl); (case hg => rfl); (case hr => first | (go_simp; done) | (go_simp; rfl)); (case hp => exact (Reps.one (show Kd.M (Kd.int .u8) _ _ _ ((t174) % 256) [.int .u8 ((t174) % 256)] from rfl) (Reps.none _ _))); intro v176 w41 ho42 hb hg_ hnew_; clear hg_ hnew_; (first | rw [← Ny175.out] at ho42 | (simp only [Int.reduceToNat] at ho42; rw [← Ny175.out] at ho42)); have n0_ := A_ (Kd.R_lower ho42 (below_size (by repeat (first | (with_reducible first | exact HB.out | apply ba_ | apply bn_ | apply bd_ | refine bs_ ?_ GE173.out) | exact HB.out)))); have n1_ := A_ (blk_below (g := gb173) (o := .cells #[.bool false, .int .i64 a1_1, .string a1_2] 23 (0, 0)) (by (with_reducible repeat (first | refine kn_ ?_ _ | refine kd_ ?_ | refine ka_ ?_ _)); exact BK173.out) hb); have n2_ := A_ (bp_ (by repeat (first | (with_reducible first | exact HB.out | apply ba_ | apply bn_ | apply bd_ | refine bs_ ?_ GE173.out) | exact HB.out)) hb); clear BK173; clear HB; have HO177 := n0_; have BK173 := n1_; have HB := n2_; clear n0_ n1_ n2_; clear hb ho42; have hcz43_0 : w41.cell? ⟨gb173, 0, none⟩ = some (.bool false) := (bc_ BK173.out 0).trans rfl; have hcz43_1 : w41.cell? ⟨gb173, 1, none⟩ = some (.int .i64 a1_1) := (bc_ BK173.out 1).trans rfl; have hcz43_2 : w41.cell? ⟨gb173, 2, none⟩ = some (.string a1_2) := (bc_ BK173.out 2).trans rfl; have hfz43_0 := bf_ BK173.out 0; have hfz43_1 := bf_ BK173.out 1; have hfz43_2 := bf_ BK173.out 2) | ((with_reducible refine gate_callee (f := 46) rfl ?_); refine goesL_ (some 32) rfl rfl Try.func46 (by kernel_rfl) rfl #[.int .i64 a1_1] rfl (by (try simp only [List.map_toArray, List.map_cons, List.map_nil]); first | done | rfl | (simp only [List.length_drop, List.length_take]; rfl)) ?_; (with_reducible refine (vint_Int.calls k a1_1 t190 _ A36.out).mono ?_); rintro e w44 ⟨v191, rfl, ho0, hb⟩; refine ⟨_, rfl, ?_⟩; have n0_ := A_ (Kd.R_elder' (by (with_reducible repeat (first | apply Kd.R_alloc | apply Kd.R_drewN | apply Kd.R_drew)); exact HO177.out) (Kd.R_base ho0) hb); have n1_ := A_ (Kd.R_lower (Kd.R_new' ho0 (Kd.R_lt (by (with_reducible repeat (first | apply Kd.R_alloc | apply Kd.R_drewN | apply Kd.R_drew)); exact HO177.out))) (below_size (by repeat (first | (with_reducible first | exact HB.out | apply ba_ | apply bn_ | apply bd_ | refine bs_ ?_ GE173.out) | exact HB.out)))); have n2_ := A_ (blk_below (g := gb173) (o := .cells #[.bool false, .int .i64 a1_1, .string a1_2] 23 (0, 0)) (by (with_reducible repeat (first | refine kn_ ?_ _ | refine kd_ ?_ | refine ka_ ?_ _)); exact BK173.out) hb); have n3_ := A_ (bp_ (by repeat (first | (with_reducible first | exact HB.out | apply ba_ | apply bn_ | apply bd_ | refine bs_ ?_ GE173.out) | exact HB.out)) hb); clear HO177; clear BK173; clear HB; have HO177 := n0_; have HO192 := n1_; have BK173 := n2_; have HB := n3_; clear n0_ n1_ n2_ n3_; (try clear hb); (try clear hb2); (try clear hk); (try clear hi); (try clear ho0); obtain ⟨Ao46, co46, eo46⟩ := Kd.R_slice HO192.out; subst eo46) | ((with_reducible refine gate_builtin (b := .append) (xs := #[.tmp 29, .tmp 32]) rfl ?_); at_builtin; refine Kd.R_append_rows (Kd.int .u8) (w0 := w) w.heap.size rfl (.tmp 29) (.tmp 32) 31 5 (.int .u8 0) 1 rfl Try.underlying31 info5 rfl (by decide) (by omega) v176 y175 t190 _ _ _ (fun k_ => some k_ ≠ (.slice Ao46 t190.length co46 : Value).ownBlock) (fun _ => False) rfl rfl ?aO ?aR (fun _ _ h => h) (fun _ h => h.elim) ?aF ?aB ?aS ?aL ?_; (case aR => repeat (first | exact (Kd.R_reads' HO192.out).2.2 | (with_reducible refine Kd.C_alloc ?_ _) | (with_reducible refine Kd.C_drewN ?_ _) | (with_reducible refine Kd.C_drew ?_))); (case aB => exact (by repeat (first | (with_reducible first | exact HB.out | apply ba_ | apply bn_ | apply bd_ | refine bs_ ?_ GE173.out) | exact HB.out))); (case aF => exact (fun k_ hk => Kd.fresh' (Kd.R_lt (by (with_reducible repeat (first | apply Kd.R_alloc | apply Kd.R_drewN | apply Kd.R_drew)); exact HO192.out)) k_ hk)); (case aO => exact (by (with_reducible repeat (first | apply Kd.R_alloc | apply Kd.R_drewN | apply Kd.R_drew)); exact Kd.R_mono HO177.out (fun _ hk => hk.2))); (case aS => exact (below_size (by repeat (first | (with_reducible first | exact HB.out | apply ba_ | apply bn_ | apply bd_ | refine bs_ ?_ GE173.out) | exact HB.out)))); (case aL => have := LMc37.out; omega); intro v194 w45 ho hb hg hat; rw [← Ny193.out] at ho; have n0_ := A_ (blk_grown (g := gb173) (o := .cells #[.bool false, .int .i64 a1_1, .string a1_2] 23 (0, 0)) (by (with_reducible repeat (first | refine kn_ ?_ _ | refine kd_ ?_ | refine ka_ ?_ _)); exact BK173.out) hg (Kd.R_ne HO177.out BK173.out (by decide))); have n1_ := A_ (Kd.R_after (ok := (fun _ => True)) (by (with_reducible repeat (first | apply Kd.R_alloc | apply Kd.R_drewN | apply Kd.R_drew)); exact HO192.out) hg hat); have n2_ := A_ (hb); have n3_ := A_ (ho); clear BK173; clear HO192; clear HB; clear HO177; have BK173 := n0_; have HO192 := n1_; have HB := n2_; have HO195 := n3_; clear n0_ n1_ n2_ n3_; clear ho hb hg hat))
      go_ret
      exact ⟨_, by first | rfl | (simp [errW_none, errW_some] <;> rfl) | (simp [*, errW_none, errW_some] <;> rfl), by (with_reducible repeat (first | apply Kd.R_alloc | apply Kd.R_drewN | apply Kd.R_drew)); exact Kd.R_mono HO195.out (fun _ hk => trivial), by repeat (first | (with_reducible first | exact HB.out | apply ba_ | apply bn_ | apply bd_ | refine bs_ ?_ GE173.out) | exact HB.out)⟩
     ·rw [if_neg c37] at H
      exact absurd H (by simp)
    ·rw [if_neg c35] at H
     have c35b0 : (a0 == 2) = false := beq_eq_false_iff_ne.mpr c35
     have c35b1 : (a0 != 2) = true := bne_iff_ne.mpr c35
     obtain rfl := Option.some.inj H
     go_enter Try.func63, Try.ntmps63
     go_wp2_with (first | ((with_reducible refine gate_dst (N := 3) rfl ?_); refine box_event ?hg (N := 3) ?hd (cs := #[.bool false, .int .i64 a1_1, .string a1_2]) (t := 23) ?hr ?_; (case hd => rfl); (case hg => rfl); (case hr => first | (go_simp; done) | (go_simp; rfl)); intro gb173 hg w47 hbox hb; have n0_ := A_ (bp_ (by repeat (first | (with_reducible first | exact HB.out | apply ba_ | apply bn_ | apply bd_) | exact HB.out)) hb); have n1_ := A_ (hbox); have n2_ := A_ ((by rw [hg]; exact (below_size (by repeat (first | (with_reducible first | exact HB.out | apply ba_ | apply bn_ | apply bd_) | exact HB.out))) : w.heap.size ≤ gb173)); have n3_ := A_ ((by rw [hg]; exact (below_size (by repeat (first | (with_reducible first | exact HB.out | apply ba_ | apply bn_ | apply bd_) | exact HB.out))) : w.heap.size ≤ gb173)); clear HB; have HB := n0_; have BK173 := n1_; have GW173 := n2_; have GE173 := n3_; clear n0_ n1_ n2_ n3_; clear hb hbox hg; have hcz48_0 : w47.cell? ⟨gb173, 0, none⟩ = some (.bool false) := (bc_ BK173.out 0).trans rfl; have hcz48_1 : w47.cell? ⟨gb173, 1, none⟩ = some (.int .i64 a1_1) := (bc_ BK173.out 1).trans rfl; have hcz48_2 : w47.cell? ⟨gb173, 2, none⟩ = some (.string a1_2) := (bc_ BK173.out 2).trans rfl; have hfz48_0 := bf_ BK173.out 0; have hfz48_1 := bf_ BK173.out 1; have hfz48_2 := bf_ BK173.out 2) | ((with_reducible refine gate_callee (f := 89) rfl ?_); refine goesL_ (some 7) rfl rfl Try.func89 (by kernel_rfl) rfl #[.agg #[.bool false, .int .i64 a1_1, .string a1_2]] rfl (by (try simp only [List.map_toArray, List.map_cons, List.map_nil]); first | done | rfl | (simp only [List.length_drop, List.length_take]; rfl)) ?_; (with_reducible refine (cell_flag.calls false a1_1 a1_2 t174 _ A3.out).mono ?_); rintro e w49 ⟨rfl, hb⟩; refine ⟨_, rfl, ?_⟩; have n0_ := A_ (blk_below (g := gb173) (o := .cells #[.bool false, .int .i64 a1_1, .string a1_2] 23 (0, 0)) (by (with_reducible repeat (first | refine kn_ ?_ _ | refine kd_ ?_ | refine ka_ ?_ _)); exact BK173.out) hb); have n1_ := A_ (bp_ (by repeat (first | (with_reducible first | exact HB.out | apply ba_ | apply bn_ | apply bd_ | refine bs_ ?_ GE173.out) | exact HB.out)) hb); clear BK173; clear HB; have BK173 := n0_; have HB := n1_; clear n0_ n1_; (try clear hb); (try clear hb2); (try clear hk); (try clear hi)) | ((with_reducible refine gate_dst (N := 9) rfl ?_); refine Kd.R_lit (Kd.int .u8) _ 5 ?hg (N := 9) ?hd (xs := ([(t174) % 256] : List Int)) (inner := [.int .u8 ((t174) % 256)]) (ok := fun _ => True) (okp := fun _ => True) ?hr ?hp (fun _ hk => hk) trivial (Below.refl _ _) (Nat.le_refl _) (by simp) ?_; (case hd => rfl); (case hg => rfl); (case hr => first | (go_simp; done) | (go_simp; rfl)); (case hp => exact (Reps.one (show Kd.M (Kd.int .u8) _ _ _ ((t174) % 256) [.int .u8 ((t174) % 256)] from rfl) (Reps.none _ _))); intro v176 w50 ho51 hb hg_ hnew_; clear hg_ hnew_; (first | rw [← Ny175.out] at ho51 | (simp only [Int.reduceToNat] at ho51; rw [← Ny175.out] at ho51)); have n0_ := A_ (Kd.R_lower ho51 (below_size (by repeat (first | (with_reducible first | exact HB.out | apply ba_ | apply bn_ | apply bd_ | refine bs_ ?_ GE173.out) | exact HB.out)))); have n1_ := A_ (blk_below (g := gb173) (o := .cells #[.bool false, .int .i64 a1_1, .string a1_2] 23 (0, 0)) (by (with_reducible repeat (first | refine kn_ ?_ _ | refine kd_ ?_ | refine ka_ ?_ _)); exact BK173.out) hb); have n2_ := A_ (bp_ (by repeat (first | (with_reducible first | exact HB.out | apply ba_ | apply bn_ | apply bd_ | refine bs_ ?_ GE173.out) | exact HB.out)) hb); clear BK173; clear HB; have HO177 := n0_; have BK173 := n1_; have HB := n2_; clear n0_ n1_ n2_; clear hb ho51; have hcz52_0 : w50.cell? ⟨gb173, 0, none⟩ = some (.bool false) := (bc_ BK173.out 0).trans rfl; have hcz52_1 : w50.cell? ⟨gb173, 1, none⟩ = some (.int .i64 a1_1) := (bc_ BK173.out 1).trans rfl; have hcz52_2 : w50.cell? ⟨gb173, 2, none⟩ = some (.string a1_2) := (bc_ BK173.out 2).trans rfl; have hfz52_0 := bf_ BK173.out 0; have hfz52_1 := bf_ BK173.out 1; have hfz52_2 := bf_ BK173.out 2))
     go_ret
     exact ⟨_, by first | rfl | (simp [errW_none, errW_some] <;> rfl) | (simp [*, errW_none, errW_some] <;> rfl), by (with_reducible repeat (first | apply Kd.R_alloc | apply Kd.R_drewN | apply Kd.R_drew)); exact HO177.out, by repeat (first | (with_reducible first | exact HB.out | apply ba_ | apply bn_ | apply bd_ | refine bs_ ?_ GE173.out) | exact HB.out)⟩


end Go.Proofs.Ytkdlfejokahohaa.X
/- The contract of slices.Concat at []byte: the parts' bytes, one behind the other, in memory of their own. -/
namespace Go.Proofs.Ytkdlfejokahohaa.X
open Go.RowKit Go.Proofs.YtkdlfejokahohaaW.PrintWords Go.Proofs.YtkdlfejokahohaaW.PrintLast Go.Proofs.YtkdlfejokahohaaW.PrintMore
set_option linter.unusedVariables false
set_option linter.unusedSimpArgs false
def slices_Concat_byte.f (l0 : List (List Int)) : Option (List Int) := if l0.flatten.length < 140737488355328 then some l0.flatten else none
theorem concat_take (l0 : List (List Int)) (i : Nat) (h : i < l0.length) : (l0.take (i + 1)).flatten = (l0.take i).flatten ++ l0[i] := by
 rw [List.take_succ_eq_append_getElem h, List.flatten_append, List.flatten_singleton]
theorem concat_le (l0 : List (List Int)) (i : Nat) : (l0.take i).flatten.length ≤ l0.flatten.length := by
 conv => rhs; rw [← List.take_append_drop i l0, List.flatten_append, List.length_append]
 omega
set_option maxHeartbeats 8000000 in
set_option maxRecDepth 1000000 in
theorem slices_Grow_nil (n : Nat) (hn : n < 140737488355328) (w : World) :
  Calls Try.prog 102 #[.slice none 0 0, .int .i64 (n : Int)] w fun e w' => ∃ v0_ : Value, e = .returned v0_ ∧ Kd.R (Kd.int .u8) 5 w' w.heap.size (fun _ => True) v0_ ([] : List Int) ∧ Below w.heap.size w w' := by
 have hb0 : decide ((n : Int) < 0) = false := decide_eq_false (by omega)
 by_cases h0 : 0 < n
 ·have hb1 : decide ((0 : Int) < (n : Int)) = true := decide_eq_true (by omega)
  have hb2 : decide (0 < n) = true := decide_eq_true h0
  go_enter Try.func102, Try.ntmps102
  obtain ⟨i5, hi5, hsz5⟩ : ∃ i, Try.prog.info? 5 = some i ∧ i.size = (Kd.int .u8).sz := by
   obtain ⟨i, hi, hz⟩ := Option.map_eq_some_iff.1 info5
   simp only [Prod.mk.injEq] at hz
   exact ⟨i, hi, hz.2.1⟩
  go_wp2_with ((with_reducible refine gate_builtin (b := .append) (xs := #[.tmp 20, .tmp 21]) rfl ?_); at_builtin; refine Kd.R_append_zeros (Kd.int .u8) (w0 := w) w.heap.size rfl (.tmp 20) (.tmp 21) 31 3 5 (.int .u8 0) 1 rfl Try.underlying31 Try.underlying3 info5 rfl (by decide) (by omega) (.slice none 0 0) [] (0 : Int) (n : Int) (fun _ => True) rfl rfl rfl (fun _ _ => trivial) (Kd.R_nil _ _ _ _ _) (by omega) (Below.refl _ _) (Nat.le_refl _) (by simp; omega) ?_; intro v1 w1 ho hb hg hat; obtain ⟨A1, c1, rfl⟩ := Kd.R_slice ho; have HO := Aside0.mk ho; have HB := Aside0.mk hb; have hcut := cut_to (P := Try.prog) 31 5 .i64 Try.underlying31 hi5 A1 ([] ++ List.replicate (n : Int).toNat (0 : Int)).length c1 0 (by omega) (by omega) (Kd.R_reads' ho).2.1; clear ho hb hg hat)
  go_ret
  exact ⟨_, rfl, by have := Kd.R_take (m := 0) HO.out (Nat.zero_le _); rwa [List.take_zero] at this, HB.out⟩
 ·obtain rfl : n = 0 := by omega
  go_enter Try.func102, Try.ntmps102
  go_wp2_with fail
  go_ret
  exact ⟨_, rfl, Kd.R_nil _ _ _ _ _, Below.refl _ _⟩
set_option maxHeartbeats 8000000 in
set_option maxRecDepth 1000000 in
theorem slices_Concat_byte.calls (A0 : Option Addr) (c0 : Nat) (l0 : List (List Int)) (r : List Int) (w : World) (hr0 : Kd.C (Kd.slice 5 (Kd.int .u8)) w A0 l0.length l0) (hc0 : l0.length ≤ c0) (h : slices_Concat_byte.f l0 = some r) :
  Calls Try.prog 91 #[.slice A0 l0.length c0] w fun e w' => ∃ v0_ : Value, e = .returned v0_ ∧ Kd.R (Kd.int .u8) 5 w' w.heap.size (fun _ => True) v0_ r ∧ Below w.heap.size w w' := by
 unfold slices_Concat_byte.f at h
 by_cases hf : l0.flatten.length < 140737488355328
 case neg => rw [if_neg hf] at h; cases h
 rw [if_pos hf] at h
 obtain rfl := Option.some.inj h
 clear h
 have hmax := Kd.C_max hr0
 have HR0 := Aside0.mk hr0
 have HLEN := Aside0.mk hf
 clear hr0 hf
 have HC : Aside0 (∀ i : Nat, (hi : i < l0.length) → ∃ (ad : Addr) (Ai : Option Addr) (ci : Nat), A0 = some ad ∧ w.cell? (ad.add i) = some (.slice Ai (l0[i]).length ci) ∧ (Kd.int .u8).C w Ai (l0[i]).length (l0[i])) := ⟨fun i hi => by
  obtain ⟨ad', Ai, ci, e, hc, _, hC⟩ := Mem.at_row HR0.out i hi
  exact ⟨ad', Ai, ci, e, hc, hC⟩⟩
 go_enter Try.func91, Try.ntmps91
 go_wp2_with fail
 go_loopg [3, 11] l0.length (fun g s3 s11 wr => w = wr ∧ ∃ i : Nat, i ≤ l0.length ∧ g = l0.length - i ∧ s11 = .int .i64 i ∧ s3 = .int .i64 (((l0.take i).flatten.length : Nat) : Int))
 case atStart => exact ⟨rfl, 0, Nat.zero_le _, rfl, rfl, rfl⟩
 case round =>
  obtain ⟨rfl, i, hi, rfl, rfl, rfl⟩ := hrel
  by_cases hlt : i < l0.length
  ·obtain ⟨ad, Ai, ci, rfl, hcell, _⟩ := HC.out i hlt
   have hs1 : (l0.take (i + 1)).flatten.length = (l0.take i).flatten.length + (l0[i]).length := by rw [concat_take l0 i hlt, List.length_append]
   have hs2 := concat_le l0 (i + 1)
   have hL := HLEN.out
   generalize (l0.take i).flatten.length = acc at hs1 ⊢
   generalize (l0[i]).length = m at hs1 hcell
   have hb : decide (((acc : Nat) : Int) + (m : Int) < 0) = false := decide_eq_false (by omega)
   go_wp2_with fail
   go_roundg (l0.length - (i + 1))
   case measure => omega
   case rel => exact ⟨rfl, i + 1, by omega, rfl, by go_num, by rw [hs1]; go_num⟩
  ·obtain rfl : i = l0.length := by omega
   rw [List.take_length]
   have hL := HLEN.out
   generalize l0.flatten.length = T at hL ⊢
   go_wp2_with fail
   refine (slices_Grow_nil T hL _).mono ?_
   rintro e w1 ⟨v1, rfl, R1, b1⟩
   have HR1 := Aside0.mk R1
   have HB1 := Aside0.mk b1
   clear R1 b1
   go_wp2_with fail
   go_loopg [6, 27] l0.length (fun g s6 s27 wr => ∃ i : Nat, i ≤ l0.length ∧ g = l0.length - i ∧ s27 = .int .i64 i ∧ Aside0 (Kd.R (Kd.int .u8) 5 wr w.heap.size (fun _ => True) s6 (l0.take i).flatten) ∧ Aside0 (Below w.heap.size w wr))
   case atStart => exact ⟨0, Nat.zero_le _, rfl, rfl, HR1, HB1⟩
   case round =>
    clear HR1 HB1
    obtain ⟨i, hi2, rfl, rfl, HO, HB⟩ := hrel
    by_cases hlt2 : i < l0.length
    ·obtain ⟨ad, Ai, ci, rfl, hcell, hC⟩ := HC.out i hlt2
     have hcell2 := (HB.out.cell (World.block_lt_of_cell? w _ hcell)).trans hcell
     have HCi := Aside0.mk (Kd.C_below hC HB.out)
     have hs1 := concat_take l0 i hlt2
     have hs2 := concat_le l0 (i + 1)
     rw [hs1, List.length_append] at hs2
     have HS1 := Aside0.mk hs1
     have HS2 := Aside0.mk hs2
     clear hcell hC hs1 hs2
     go_wp2_with ((with_reducible refine gate_builtin (b := .append) (xs := #[.tmp 31, .tmp 32]) rfl ?_); at_builtin; refine Kd.R_append_rows (Kd.int .u8) (w0 := w) w.heap.size rfl (.tmp 31) (.tmp 32) 31 5 (.int .u8 0) 1 rfl Try.underlying31 info5 rfl (by decide) (by omega) u6 (l0.take i).flatten (l0[i]) _ _ _ (fun _ => True) (fun _ => False) rfl rfl HO.out HCi.out (fun _ _ h => h) (fun _ h => h.elim) (fun _ _ => trivial) HB.out (below_size HB.out) (by have := HS2.out; have := HLEN.out; omega) ?_; intro v4 w4 ho hb hg hat; have HO4 := Aside0.mk ho; have HB4 := Aside0.mk hb; clear HO HB ho hb hg hat)
     go_roundg (l0.length - (i + 1))
     case measure => omega
     case rel => exact ⟨i + 1, by omega, rfl, by go_num, ⟨by rw [HS1.out]; exact HO4.out⟩, HB4⟩
    ·obtain rfl : i = l0.length := by omega
     have hO := HO.out
     rw [List.take_length] at hO
     have HO2 := Aside0.mk hO
     clear hO HO
     go_wp2_with fail
     go_ret
     exact ⟨_, rfl, HO2.out, HB.out⟩
end Go.Proofs.Ytkdlfejokahohaa.X
