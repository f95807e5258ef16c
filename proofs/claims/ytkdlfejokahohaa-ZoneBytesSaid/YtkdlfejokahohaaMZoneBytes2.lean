/- ZoneBytes: for every input the call returns true, and each argument reads behind the call as it read before it. No condition. (Part 3 of 10: this session's texts, laid together by wip/merge.py.) -/
import Derived.Test.YtkdlfejokahohaaX0
import Derived.Test.YtkdlfejokahohaaDec
import Derived.Test.YtkdlfejokahohaaStrs
import Derived.Test.YtkdlfejokahohaaMem
import Derived.StillTailTactics
import Derived.RegionTactic
import Derived.ChangeAlike
import Derived.Lib.Hide
import Derived.Laws.Rows
import Derived.Test.YtkdlfejokahohaaMZoneBytes0
import Derived.Test.YtkdlfejokahohaaMZoneBytes1
set_option maxHeartbeats 8000000
set_option maxRecDepth 100000
namespace Go.Proofs.Ytkdlfejokahohaa.X
open Go.RowKit Go.Proofs.YtkdlfejokahohaaW.PrintWords Go.Proofs.YtkdlfejokahohaaW.PrintLast Go.Proofs.YtkdlfejokahohaaW.PrintMore
attribute [local go_sem] max2_int min2_int max_two min_two max_three min_three max_four min_four   -- for this text's walks alone
set_option linter.unusedVariables false
open List (setIfInBounds_toArray set_cons_zero set_cons_succ)
set_option linter.unusedSimpArgs false

def zone_Put.f (k : Nat) (a0 : Int) (a1_0 : Int) (a1_1 : Int) (a1_2 : Bool) (a1_3 : Int) (a1_4 : ByteArray) (a1_5 : Bool) (a1_6 : Int) (a1_7 : ByteArray) : Option (List Int) := (zone_May.f k a0 a1_0 a1_1 a1_2 a1_3 a1_4 a1_5 a1_6 a1_7).bind fun t197 => (if t197 = true then ((vint_Num.f k (IntKind.u64.wrap (a1_0))).bind fun t198 => ((vint_Num.f k (IntKind.u64.wrap (a1_1))).bind fun t201 => ((slices_Concat_byte.f (([t198, t201] : List (List Int)))).bind fun t207 => ((zone_some.f a1_0 a1_1 a1_2 a1_3 a1_4 a1_5 a1_6 a1_7).bind fun t210 => (if t210 = true then ((cell_Put.f k a0 a1_2 a1_3 a1_4).bind fun t211 => ((cell_Put.f k a0 a1_5 a1_6 a1_7).bind fun t214 => ((slices_Concat_byte.f (([t207, t211, t214] : List (List Int)))).bind fun t220 => (some t220)))) else (some t207)))))) else (some ([] : List Int)))
theorem zone_Put.mono : ∀ a0 a1 a2 a3 a4 a5 a6 a7 a8 k, LeO (zone_Put.f k a0 a1 a2 a3 a4 a5 a6 a7 a8) (zone_Put.f (k + 1) a0 a1 a2 a3 a4 a5 a6 a7 a8) := by
 intro a0 a1 a2 a3 a4 a5 a6 a7 a8 k
 unfold zone_Put.f
 repeat' first
   | (with_reducible exact cell_Put.mono _ _ _ _ _)
   | (with_reducible exact vint_Num.mono _ _)
   | (with_reducible exact zone_May.mono _ _ _ _ _ _ _ _ _ _)
   | (with_reducible exact LeO.refl _)
   | (with_reducible exact LeO.none _)
   | (with_reducible refine LeO.ite ?_ ?_)
   | (with_reducible refine LeO.bind ?_ (fun _ => ?_))
   | exact cell_Put.mono _ _ _ _ _
   | exact vint_Num.mono _ _
   | exact zone_May.mono _ _ _ _ _ _ _ _ _ _
   | exact LeO.none _
   | refine LeO.ite ?_ ?_
   | refine LeO.bind ?_ (fun _ => ?_)
def zone_Put.T3 : Bool × List (List Nat × List Nat) := (true, [([], []), ([0], [0]), ([1], [1]), ([2], [2]), ([], []), ([4], [4]), ([5], [5]), ([6, 3], [6]), ([3, 7], [3, 7]), ([8, 7], [8]), ([9, 9, 0, 1, 2, 3, 4, 5, 6, 7, 8, 9], [9])])
def zone_Put.B3 : List Nat := [0, 1, 3, 7, 0, 16, 48, 127, 255, 511, 1023]
theorem zone_Put.tab3 : rtab .any (opsOf Try.f68 3) = zone_Put.T3 := by kernel_rfl
theorem zone_Put.bits3 : waitsOk zone_Put.T3.2 zone_Put.B3 = true := by kernel_rfl
def zone_Put.T6 : Bool × List (List Nat × List Nat) := (true, [([], []), ([], []), ([], []), ([2], [2]), ([1, 3], [1, 3]), ([], []), ([], []), ([6], [6]), ([5, 7, 4], [5, 7]), ([0, 4, 8], [0, 4, 8]), ([9, 8], [9]), ([10, 10, 0, 1, 2, 3, 4, 5, 6, 7, 8, 9, 10], [10])])
def zone_Put.B6 : List Nat := [0, 0, 0, 4, 14, 0, 0, 64, 254, 511, 1023, 2047]
theorem zone_Put.tab6 : rtab .any (opsOf Try.f68 6) = zone_Put.T6 := by kernel_rfl
theorem zone_Put.bits6 : waitsOk zone_Put.T6.2 zone_Put.B6 = true := by kernel_rfl
theorem zone_Put.calls (k : Nat) (a0 : Int) (a1_0 : Int) (a1_1 : Int) (a1_2 : Bool) (a1_3 : Int) (a1_4 : ByteArray) (a1_5 : Bool) (a1_6 : Int) (a1_7 : ByteArray) (r : List Int) (w : World) (h : zone_Put.f k a0 a1_0 a1_1 a1_2 a1_3 a1_4 a1_5 a1_6 a1_7 = some r) :
  Calls Try.prog 68 #[.int .i64 a0, .agg #[.int .i64 a1_0, .int .i64 a1_1, .bool a1_2, .int .i64 a1_3, .string a1_4, .bool a1_5, .int .i64 a1_6, .string a1_7]] w fun e w' => ∃ v0_ : Value, e = .returned (v0_) ∧ Kd.R (Kd.int .u8) 5 w' w.heap.size (fun _ => True) v0_ r ∧ Below w.heap.size w w' := by
 have hu25 := Try.underlying25
 have hu23 := Try.underlying23
 have HB := A_ (Below.refl w.heap.size w)
 have H : ((zone_May.f k a0 a1_0 a1_1 a1_2 a1_3 a1_4 a1_5 a1_6 a1_7).bind fun t197 => (if t197 = true then ((vint_Num.f k (IntKind.u64.wrap (a1_0))).bind fun t198 => ((vint_Num.f k (IntKind.u64.wrap (a1_1))).bind fun t201 => ((slices_Concat_byte.f (([t198, t201] : List (List Int)))).bind fun t207 => ((zone_some.f a1_0 a1_1 a1_2 a1_3 a1_4 a1_5 a1_6 a1_7).bind fun t210 => (if t210 = true then ((cell_Put.f k a0 a1_2 a1_3 a1_4).bind fun t211 => ((cell_Put.f k a0 a1_5 a1_6 a1_7).bind fun t214 => ((slices_Concat_byte.f (([t207, t211, t214] : List (List Int)))).bind fun t220 => (some t220)))) else (some t207)))))) else (some ([] : List Int)))) = some r := h
 clear h
 replace H := Option.bind_eq_some_iff.mp H
 obtain ⟨t197, A30, H⟩ := H
 replace H : (if t197 = true then ((vint_Num.f k (IntKind.u64.wrap (a1_0))).bind fun t198 => ((vint_Num.f k (IntKind.u64.wrap (a1_1))).bind fun t201 => ((slices_Concat_byte.f (([t198, t201] : List (List Int)))).bind fun t207 => ((zone_some.f a1_0 a1_1 a1_2 a1_3 a1_4 a1_5 a1_6 a1_7).bind fun t210 => (if t210 = true then ((cell_Put.f k a0 a1_2 a1_3 a1_4).bind fun t211 => ((cell_Put.f k a0 a1_5 a1_6 a1_7).bind fun t214 => ((slices_Concat_byte.f (([t207, t211, t214] : List (List Int)))).bind fun t220 => (some t220)))) else (some t207)))))) else (some ([] : List Int))) = some r := H
 have A3 := A_ A30
 clear A30
 by_cases c4 : t197 = true
 ·subst c4
  have H1 : ((vint_Num.f k (IntKind.u64.wrap (a1_0))).bind fun t198 => ((vint_Num.f k (IntKind.u64.wrap (a1_1))).bind fun t201 => ((slices_Concat_byte.f (([t198, t201] : List (List Int)))).bind fun t207 => ((zone_some.f a1_0 a1_1 a1_2 a1_3 a1_4 a1_5 a1_6 a1_7).bind fun t210 => (if t210 = true then ((cell_Put.f k a0 a1_2 a1_3 a1_4).bind fun t211 => ((cell_Put.f k a0 a1_5 a1_6 a1_7).bind fun t214 => ((slices_Concat_byte.f (([t207, t211, t214] : List (List Int)))).bind fun t220 => (some t220)))) else (some t207)))))) = some r := by rw [if_pos rfl] at H; exact H
  clear H
  have H := H1
  clear H1
  replace H := Option.bind_eq_some_iff.mp H
  obtain ⟨t198, A50, H⟩ := H
  replace H : ((vint_Num.f k (IntKind.u64.wrap (a1_1))).bind fun t201 => ((slices_Concat_byte.f (([t198, t201] : List (List Int)))).bind fun t207 => ((zone_some.f a1_0 a1_1 a1_2 a1_3 a1_4 a1_5 a1_6 a1_7).bind fun t210 => (if t210 = true then ((cell_Put.f k a0 a1_2 a1_3 a1_4).bind fun t211 => ((cell_Put.f k a0 a1_5 a1_6 a1_7).bind fun t214 => ((slices_Concat_byte.f (([t207, t211, t214] : List (List Int)))).bind fun t220 => (some t220)))) else (some t207))))) = some r := H
  have A5 := A_ A50
  clear A50
  replace H := Option.bind_eq_some_iff.mp H
  obtain ⟨t201, A60, H⟩ := H
  replace H : ((slices_Concat_byte.f (([t198, t201] : List (List Int)))).bind fun t207 => ((zone_some.f a1_0 a1_1 a1_2 a1_3 a1_4 a1_5 a1_6 a1_7).bind fun t210 => (if t210 = true then ((cell_Put.f k a0 a1_2 a1_3 a1_4).bind fun t211 => ((cell_Put.f k a0 a1_5 a1_6 a1_7).bind fun t214 => ((slices_Concat_byte.f (([t207, t211, t214] : List (List Int)))).bind fun t220 => (some t220)))) else (some t207)))) = some r := H
  have A6 := A_ A60
  clear A60
  obtain ⟨y204, hy204⟩ : ∃ y_ : List (List Int), y_ = (([t198, t201] : List (List Int))) := ⟨_, rfl⟩
  replace H : ((slices_Concat_byte.f y204).bind fun t207 => ((zone_some.f a1_0 a1_1 a1_2 a1_3 a1_4 a1_5 a1_6 a1_7).bind fun t210 => (if t210 = true then ((cell_Put.f k a0 a1_2 a1_3 a1_4).bind fun t211 => ((cell_Put.f k a0 a1_5 a1_6 a1_7).bind fun t214 => ((slices_Concat_byte.f (([t207, t211, t214] : List (List Int)))).bind fun t220 => (some t220)))) else (some t207)))) = some r := by first | (rw [hy204]; with_reducible exact H) | (have H2_ := (Option.bind_some _ _).symm.trans H; rw [hy204]; with_reducible exact H2_) | (have H2_ := (Option.bind_some _ _).symm.trans H; with_reducible exact H2_) | with_reducible exact H | (rw [hy204]; exact H) | exact H
  have Ny204 := A_ hy204
  clear hy204
  replace H := Option.bind_eq_some_iff.mp H
  obtain ⟨t207, A70, H⟩ := H
  replace H : ((zone_some.f a1_0 a1_1 a1_2 a1_3 a1_4 a1_5 a1_6 a1_7).bind fun t210 => (if t210 = true then ((cell_Put.f k a0 a1_2 a1_3 a1_4).bind fun t211 => ((cell_Put.f k a0 a1_5 a1_6 a1_7).bind fun t214 => ((slices_Concat_byte.f (([t207, t211, t214] : List (List Int)))).bind fun t220 => (some t220)))) else (some t207))) = some r := H
  have A7 := A_ A70
  clear A70
  replace H := Option.bind_eq_some_iff.mp H
  obtain ⟨t210, A80, H⟩ := H
  replace H : (if t210 = true then ((cell_Put.f k a0 a1_2 a1_3 a1_4).bind fun t211 => ((cell_Put.f k a0 a1_5 a1_6 a1_7).bind fun t214 => ((slices_Concat_byte.f (([t207, t211, t214] : List (List Int)))).bind fun t220 => (some t220)))) else (some t207)) = some r := H
  have A8 := A_ A80
  clear A80
  by_cases c9 : t210 = true
  ·subst c9
   have H1 : ((cell_Put.f k a0 a1_2 a1_3 a1_4).bind fun t211 => ((cell_Put.f k a0 a1_5 a1_6 a1_7).bind fun t214 => ((slices_Concat_byte.f (([t207, t211, t214] : List (List Int)))).bind fun t220 => (some t220)))) = some r := by rw [if_pos rfl] at H; exact H
   clear H
   have H := H1
   clear H1
   replace H := Option.bind_eq_some_iff.mp H
   obtain ⟨t211, A100, H⟩ := H
   replace H : ((cell_Put.f k a0 a1_5 a1_6 a1_7).bind fun t214 => ((slices_Concat_byte.f (([t207, t211, t214] : List (List Int)))).bind fun t220 => (some t220))) = some r := H
   have A10 := A_ A100
   clear A100
   replace H := Option.bind_eq_some_iff.mp H
   obtain ⟨t214, A110, H⟩ := H
   replace H : ((slices_Concat_byte.f (([t207, t211, t214] : List (List Int)))).bind fun t220 => (some t220)) = some r := H
   have A11 := A_ A110
   clear A110
   obtain ⟨y217, hy217⟩ : ∃ y_ : List (List Int), y_ = (([t207, t211, t214] : List (List Int))) := ⟨_, rfl⟩
   replace H : ((slices_Concat_byte.f y217).bind fun t220 => (some t220)) = some r := by first | (rw [hy217]; with_reducible exact H) | (have H2_ := (Option.bind_some _ _).symm.trans H; rw [hy217]; with_reducible exact H2_) | (have H2_ := (Option.bind_some _ _).symm.trans H; with_reducible exact H2_) | with_reducible exact H | (rw [hy217]; exact H) | exact H
   have Ny217 := A_ hy217
   clear hy217
   replace H := Option.bind_eq_some_iff.mp H
   obtain ⟨t220, A120, H⟩ := H
   replace H : (some t220) = some r := H
   have A12 := A_ A120
   clear A120
   obtain rfl := Option.some.inj H
   go_enter Try.func68, Try.ntmps68
   try go_wp2_with (first | ((with_reducible refine gate_dst (N := 3) rfl ?_); refine box_event ?hg (N := 3) ?hd (cs := #[.int .i64 a1_0, .int .i64 a1_1, .bool a1_2, .int .i64 a1_3, .string a1_4, .bool a1_5, .int .i64 a1_6, .string a1_7]) (t := 25) ?hr ?_; (case hd => rfl); (case hg => rfl); (case hr => first | (go_simp; done) | (go_simp; rfl)); intro gb196 hg w13 hbox hb; have n0_ := A_ (bp_ (by repeat (first | (with_reducible first | exact HB.out | apply ba_ | apply bn_ | apply bd_) | exact HB.out)) hb); have n1_ := A_ (hbox); have n2_ := A_ ((by rw [hg]; exact (below_size (by repeat (first | (with_reducible first | exact HB.out | apply ba_ | apply bn_ | apply bd_) | exact HB.out))) : w.heap.size ≤ gb196)); have n3_ := A_ ((by rw [hg]; exact (below_size (by repeat (first | (with_reducible first | exact HB.out | apply ba_ | apply bn_ | apply bd_) | exact HB.out))) : w.heap.size ≤ gb196)); clear HB; have HB := n0_; have BK196 := n1_; have GW196 := n2_; have GE196 := n3_; clear n0_ n1_ n2_ n3_; clear hb hbox hg; have hcz14_0 : w13.cell? ⟨gb196, 0, none⟩ = some (.int .i64 a1_0) := (bc_ BK196.out 0).trans rfl; have hcz14_1 : w13.cell? ⟨gb196, 1, none⟩ = some (.int .i64 a1_1) := (bc_ BK196.out 1).trans rfl; have hcz14_2 : w13.cell? ⟨gb196, 2, none⟩ = some (.bool a1_2) := (bc_ BK196.out 2).trans rfl; have hcz14_3 : w13.cell? ⟨gb196, 3, none⟩ = some (.int .i64 a1_3) := (bc_ BK196.out 3).trans rfl; have hcz14_4 : w13.cell? ⟨gb196, 4, none⟩ = some (.string a1_4) := (bc_ BK196.out 4).trans rfl; have hcz14_5 : w13.cell? ⟨gb196, 5, none⟩ = some (.bool a1_5) := (bc_ BK196.out 5).trans rfl; have hcz14_6 : w13.cell? ⟨gb196, 6, none⟩ = some (.int .i64 a1_6) := (bc_ BK196.out 6).trans rfl; have hcz14_7 : w13.cell? ⟨gb196, 7, none⟩ = some (.string a1_7) := (bc_ BK196.out 7).trans rfl; have hfz14_0 := bf_ BK196.out 0; have hfz14_1 := bf_ BK196.out 1; have hfz14_2 := bf_ BK196.out 2; have hfz14_3 := bf_ BK196.out 3; have hfz14_4 := bf_ BK196.out 4; have hfz14_5 := bf_ BK196.out 5; have hfz14_6 := bf_ BK196.out 6; have hfz14_7 := bf_ BK196.out 7) | ((with_reducible refine gate_callee (f := 16) rfl ?_); refine goesL_ (some 8) rfl rfl Try.func16 (by kernel_rfl) rfl #[.int .i64 a0, .agg #[.int .i64 a1_0, .int .i64 a1_1, .bool a1_2, .int .i64 a1_3, .string a1_4, .bool a1_5, .int .i64 a1_6, .string a1_7]] rfl (by (try simp only [List.map_toArray, List.map_cons, List.map_nil]); first | done | rfl | (simp only [List.length_drop, List.length_take]; rfl)) ?_; (with_reducible refine (zone_May.calls k a0 a1_0 a1_1 a1_2 a1_3 a1_4 a1_5 a1_6 a1_7 true _ A3.out).mono ?_); rintro e w15 ⟨rfl, hb⟩; refine ⟨_, rfl, ?_⟩; have n0_ := A_ (blk_below (g := gb196) (o := .cells #[.int .i64 a1_0, .int .i64 a1_1, .bool a1_2, .int .i64 a1_3, .string a1_4, .bool a1_5, .int .i64 a1_6, .string a1_7] 25 (0, 0)) (by (with_reducible repeat (first | refine kn_ ?_ _ | refine kd_ ?_ | refine ka_ ?_ _)); exact BK196.out) hb); have n1_ := A_ (bp_ (by repeat (first | (with_reducible first | exact HB.out | apply ba_ | apply bn_ | apply bd_ | refine bs_ ?_ GE196.out) | exact HB.out)) hb); clear BK196; clear HB; have BK196 := n0_; have HB := n1_; clear n0_ n1_; (try clear hb); (try clear hb2); (try clear hk); (try clear hi)))
   have n0_ := A_ (kd_ BK196.out)
   have n1_ := A_ (bd_ HB.out)
   clear BK196
   clear HB
   have BK196 := n0_
   have HB := n1_
   clear n0_ n1_
   refine start_ (n := 11) (S := fun w' => w'.cell? ⟨gb196, 0, none⟩ = some (.int .i64 a1_0) ∧ w'.cell? ⟨gb196, 1, none⟩ = some (.int .i64 a1_1) ∧ w'.cell? ⟨gb196, 2, none⟩ = some (.bool a1_2) ∧ w'.cell? ⟨gb196, 3, none⟩ = some (.int .i64 a1_3) ∧ w'.cell? ⟨gb196, 4, none⟩ = some (.string a1_4) ∧ w'.cell? ⟨gb196, 5, none⟩ = some (.bool a1_5) ∧ w'.cell? ⟨gb196, 6, none⟩ = some (.int .i64 a1_6) ∧ w'.cell? ⟨gb196, 7, none⟩ = some (.string a1_7)) (ds := []) #[f_, f_, f_, f_, f_, f_, f_, f_, f_, f_, f_] (by kernel_rfl) rfl rfl ⟨(bc_ BK196.out 0).trans rfl, (bc_ BK196.out 1).trans rfl, (bc_ BK196.out 2).trans rfl, (bc_ BK196.out 3).trans rfl, (bc_ BK196.out 4).trans rfl, (bc_ BK196.out 5).trans rfl, (bc_ BK196.out 6).trans rfl, (bc_ BK196.out 7).trans rfl⟩ (fun hHeld => ?_); refine with_tabW zone_Put.tab3 zone_Put.bits3 (fun HT_ HW_ => ?_)
   generalize w15.drew = w16 at BK196 HB hHeld ⊢
   refine pure_ (i := 0) (N := some 10) (v := ?_) (a' := ?_) #[t_, f_, f_, f_, f_, f_, f_, f_, f_, f_, f_] rfl rfl (any_of HT_.out (by kernel_rfl)) (fun _ _ _ h => h) (Or.inl ⟨by rfl, ?_⟩) ?_ ?_
   rotate_left
   ·intro w'
    go_simp
    with_reducible rfl
   rotate_left
   ·simp only [Act.put, setIfInBounds_toArray, set_cons_zero, set_cons_succ, i64_w, i32_w]
    rfl
   refine pure_ (i := 4) (N := some 14) (v := ?_) (a' := ?_) #[t_, f_, f_, f_, t_, f_, f_, f_, f_, f_, f_] rfl rfl (any_of HT_.out (by kernel_rfl)) (fun _ _ _ h => h) (Or.inl ⟨by rfl, ?_⟩) ?_ ?_
   rotate_left
   ·intro w'
    go_simp
    with_reducible rfl
   rotate_left
   ·simp only [Act.put, setIfInBounds_toArray, set_cons_zero, set_cons_succ, i64_w, i32_w]
    rfl
   refine take_ (i := 1) (N := some 11) (v := ?_) (a' := ?_) #[t_, t_, f_, f_, t_, f_, f_, f_, f_, f_, f_] rfl rfl (take_ofW HT_.out HW_.out (by kernel_rfl)) (fun _ _ _ h => h) (Or.inl ⟨by rfl, ?_⟩) hHeld ?_ ?_
   rotate_left
   ·rintro w' ⟨s0, s1, s2, s3, s4, s5, s6, s7⟩
    go_simp
    with_reducible rfl
   rotate_left
   ·simp only [Act.put, setIfInBounds_toArray, set_cons_zero, set_cons_succ, i64_w, i32_w]
    rfl
   refine pure_ (i := 2) (N := some 12) (v := ?_) (a' := ?_) #[t_, t_, t_, f_, t_, f_, f_, f_, f_, f_, f_] rfl rfl (any_of HT_.out (by kernel_rfl)) (fun _ _ _ h => h) (Or.inl ⟨by rfl, ?_⟩) ?_ ?_
   rotate_left
   ·intro w'
    go_simp
    with_reducible rfl
   rotate_left
   ·simp only [Act.put, setIfInBounds_toArray, set_cons_zero, set_cons_succ, i64_w, i32_w]
    rfl
   refine take_ (i := 5) (N := some 15) (v := ?_) (a' := ?_) #[t_, t_, t_, f_, t_, t_, f_, f_, f_, f_, f_] rfl rfl (take_ofW HT_.out HW_.out (by kernel_rfl)) (fun _ _ _ h => h) (Or.inl ⟨by rfl, ?_⟩) hHeld ?_ ?_
   rotate_left
   ·rintro w' ⟨s0, s1, s2, s3, s4, s5, s6, s7⟩
    go_simp
    with_reducible rfl
   rotate_left
   ·simp only [Act.put, setIfInBounds_toArray, set_cons_zero, set_cons_succ, i64_w, i32_w]
    rfl
   refine pure_ (i := 6) (N := some 16) (v := ?_) (a' := ?_) #[t_, t_, t_, f_, t_, t_, t_, f_, f_, f_, f_] rfl rfl (any_of HT_.out (by kernel_rfl)) (fun _ _ _ h => h) (Or.inl ⟨by rfl, ?_⟩) ?_ ?_
   rotate_left
   ·intro w'
    go_simp
    with_reducible rfl
   rotate_left
   ·simp only [Act.put, setIfInBounds_toArray, set_cons_zero, set_cons_succ, i64_w, i32_w]
    rfl
   refine one_ (i := 3) (N := some 13) #[t_, t_, t_, t_, t_, t_, t_, f_, f_, f_, f_] rfl rfl (one_of HT_.out (by kernel_rfl)) (by decide) (fun K hK => ?_)
   refine goes_ Try.func45 (by kernel_rfl) rfl #[.int .u64 (IntKind.u64.wrap (a1_0))] (by rfl) rfl rfl (by (try simp only [List.map_toArray, List.map_cons, List.map_nil]); first | done | rfl | (simp only [List.length_drop, List.length_take]; rfl)) ?_
   with_reducible refine (vint_Num.calls k (IntKind.u64.wrap (a1_0)) t198 _ A5.out).mono ?_
   rintro e w17 ⟨v199, rfl, ho0, hb⟩
   refine ⟨_, rfl, ?_⟩
   have n0_ := A_ (Kd.R_lower ho0 (below_size (by repeat (first | (with_reducible first | exact HB.out | apply ba_ | apply bn_ | apply bd_ | refine bs_ ?_ GE196.out) | exact HB.out))))
   have n1_ := A_ (blk_below (g := gb196) (o := .cells #[.int .i64 a1_0, .int .i64 a1_1, .bool a1_2, .int .i64 a1_3, .string a1_4, .bool a1_5, .int .i64 a1_6, .string a1_7] 25 (0, 0)) (by (with_reducible repeat (first | refine kn_ ?_ _ | refine kd_ ?_ | refine ka_ ?_ _)); exact BK196.out) hb)
   have n2_ := A_ (bp_ (by repeat (first | (with_reducible first | exact HB.out | apply ba_ | apply bn_ | apply bd_ | refine bs_ ?_ GE196.out) | exact HB.out)) hb)
   clear BK196
   clear HB
   have HO200 := n0_
   have BK196 := n1_
   have HB := n2_
   clear n0_ n1_ n2_
   (try clear hb)
   (try clear hb2)
   (try clear hk)
   (try clear hi)
   (try clear ho0)
   (try clear A5)
   refine hK.out _ _ ⟨(bc_ BK196.out 0).trans rfl, (bc_ BK196.out 1).trans rfl, (bc_ BK196.out 2).trans rfl, (bc_ BK196.out 3).trans rfl, (bc_ BK196.out 4).trans rfl, (bc_ BK196.out 5).trans rfl, (bc_ BK196.out 6).trans rfl, (bc_ BK196.out 7).trans rfl⟩ (fun hHeld => ?_)
   clear hK K
   refine norm_ (a' := ?_) ?_ ?_
   rotate_left
   ·show Act.put _ (some 13) _ = _
    simp only [Act.put, setIfInBounds_toArray, set_cons_zero, set_cons_succ, i64_w, i32_w]
    rfl
   refine one_ (i := 7) (N := some 17) #[t_, t_, t_, t_, t_, t_, t_, t_, f_, f_, f_] rfl rfl (one_of HT_.out (by kernel_rfl)) (by decide) (fun K hK => ?_)
   refine goes_ Try.func45 (by kernel_rfl) rfl #[.int .u64 (IntKind.u64.wrap (a1_1))] (by rfl) rfl rfl (by (try simp only [List.map_toArray, List.map_cons, List.map_nil]); first | done | rfl | (simp only [List.length_drop, List.length_take]; rfl)) ?_
   with_reducible refine (vint_Num.calls k (IntKind.u64.wrap (a1_1)) t201 _ A6.out).mono ?_
   rintro e w18 ⟨v202, rfl, ho0, hb⟩
   refine ⟨_, rfl, ?_⟩
   have n0_ := A_ (Kd.R_elder' (by (with_reducible repeat (first | apply Kd.R_alloc | apply Kd.R_drewN | apply Kd.R_drew)); exact HO200.out) (Kd.R_base ho0) hb)
   have n1_ := A_ (Kd.R_lower (Kd.R_new' ho0 (Kd.R_lt (by (with_reducible repeat (first | apply Kd.R_alloc | apply Kd.R_drewN | apply Kd.R_drew)); exact HO200.out))) (below_size (by repeat (first | (with_reducible first | exact HB.out | apply ba_ | apply bn_ | apply bd_ | refine bs_ ?_ GE196.out) | exact HB.out))))
   have n2_ := A_ (blk_below (g := gb196) (o := .cells #[.int .i64 a1_0, .int .i64 a1_1, .bool a1_2, .int .i64 a1_3, .string a1_4, .bool a1_5, .int .i64 a1_6, .string a1_7] 25 (0, 0)) (by (with_reducible repeat (first | refine kn_ ?_ _ | refine kd_ ?_ | refine ka_ ?_ _)); exact BK196.out) hb)
   have n3_ := A_ (bp_ (by repeat (first | (with_reducible first | exact HB.out | apply ba_ | apply bn_ | apply bd_ | refine bs_ ?_ GE196.out) | exact HB.out)) hb)
   clear HO200
   clear BK196
   clear HB
   have HO200 := n0_
   have HO203 := n1_
   have BK196 := n2_
   have HB := n3_
   clear n0_ n1_ n2_ n3_
   (try clear hb)
   (try clear hb2)
   (try clear hk)
   (try clear hi)
   (try clear ho0)
   (try clear A6)
   obtain ⟨Ao19, co19, eo19⟩ := Kd.R_slice HO200.out
   (first | subst eo19 | (injection eo19 with f1_ f2_ f3_; have f4_ := f1_.symm; have f5_ := f3_.symm; clear f1_ f2_ f3_; subst f4_; subst f5_))
   obtain ⟨Ao20, co20, eo20⟩ := Kd.R_slice HO203.out
   (first | subst eo20 | (injection eo20 with f1_ f2_ f3_; have f4_ := f1_.symm; have f5_ := f3_.symm; clear f1_ f2_ f3_; subst f4_; subst f5_))
   refine hK.out _ _ ⟨(bc_ BK196.out 0).trans rfl, (bc_ BK196.out 1).trans rfl, (bc_ BK196.out 2).trans rfl, (bc_ BK196.out 3).trans rfl, (bc_ BK196.out 4).trans rfl, (bc_ BK196.out 5).trans rfl, (bc_ BK196.out 6).trans rfl, (bc_ BK196.out 7).trans rfl⟩ (fun hHeld => ?_)
   clear hK K
   refine norm_ (a' := ?_) ?_ ?_
   rotate_left
   ·show Act.put _ (some 17) _ = _
    simp only [Act.put, setIfInBounds_toArray, set_cons_zero, set_cons_succ, i64_w, i32_w]
    rfl
   refine one_ (i := 8) (N := some 18) #[t_, t_, t_, t_, t_, t_, t_, t_, t_, f_, f_] rfl rfl (one_of HT_.out (by kernel_rfl)) (by decide) (fun K hK => ?_)
   refine Kd.N_lit_step (Kd.slice 5 (Kd.int .u8)) _ 31 ?hg (N' := 18) ?hd (xs := ([t198, t201] : List (List Int))) (inner := [.slice Ao19 t198.length co19, .slice Ao20 t201.length co20]) (ok := (fun k_ => k_ ≠ gb196)) (okp := (fun k_ => k_ ≠ gb196)) ?hr ?hp (fun _ hk => hk) ((show ∀ k_, w18.heap.size ≤ k_ → (fun k_ => k_ ≠ gb196) k_ from fun k_ hk => Kd.freshB (g := gb196) (o := .cells #[.int .i64 a1_0, .int .i64 a1_1, .bool a1_2, .int .i64 a1_3, .string a1_4, .bool a1_5, .int .i64 a1_6, .string a1_7] 25 (0, 0)) (by (with_reducible repeat (first | refine kn_ ?_ _ | refine kd_ ?_ | refine ka_ ?_ _)); exact BK196.out) k_ hk) _ (Nat.le_refl _)) (Below.refl _ _) (Nat.le_refl _) (by simp) ?_; (case hd => rfl); (case hg => rfl); (case hr => first | (go_simp; done) | (go_simp; rfl)); (case hp => exact (Reps.one (show Kd.FK (Kd.slice 5 (Kd.int .u8)) _ _ t198 [.slice Ao19 t198.length co19] from (Kd.FK_slice_mk (Kd.R_reads' (Kd.R_mono (ok' := (fun k_ => k_ ≠ gb196)) (Kd.R_types (HO200.out) BK196.out (by decide)) (fun k_ hk => hk.2))).2.1 (Kd.R_F (Kd.R_mono (ok' := (fun k_ => k_ ≠ gb196)) (Kd.R_types (HO200.out) BK196.out (by decide)) (fun k_ hk => hk.2))))) (Reps.one (show Kd.FK (Kd.slice 5 (Kd.int .u8)) _ _ t201 [.slice Ao20 t201.length co20] from (Kd.FK_slice_mk (Kd.R_reads' (Kd.R_mono (ok' := (fun k_ => k_ ≠ gb196)) (Kd.R_types (HO203.out) BK196.out (by decide)) (fun k_ hk => hk.2))).2.1 (Kd.R_F (Kd.R_mono (ok' := (fun k_ => k_ ≠ gb196)) (Kd.R_types (HO203.out) BK196.out (by decide)) (fun k_ hk => hk.2))))) (Reps.none _ _))))
   intro v205 w21 ho22 hb hg_ hnew_
   clear hg_ hnew_
   (first | rw [← Ny204.out] at ho22 | (simp only [Int.reduceToNat] at ho22; rw [← Ny204.out] at ho22))
   have n0_ := A_ (Kd.N_lower ho22 (below_size (by repeat (first | (with_reducible first | exact HB.out | apply ba_ | apply bn_ | apply bd_ | refine bs_ ?_ GE196.out) | exact HB.out))))
   have n1_ := A_ (blk_below (g := gb196) (o := .cells #[.int .i64 a1_0, .int .i64 a1_1, .bool a1_2, .int .i64 a1_3, .string a1_4, .bool a1_5, .int .i64 a1_6, .string a1_7] 25 (0, 0)) (by (with_reducible repeat (first | refine kn_ ?_ _ | refine kd_ ?_ | refine ka_ ?_ _)); exact BK196.out) hb)
   have n2_ := A_ (bp_ (by repeat (first | (with_reducible first | exact HB.out | apply ba_ | apply bn_ | apply bd_ | refine bs_ ?_ GE196.out) | exact HB.out)) hb)
   clear BK196
   clear HB
   clear HO200
   clear HO203
   have HO206 := n0_
   have BK196 := n1_
   have HB := n2_
   clear n0_ n1_ n2_
   clear hb ho22
   obtain ⟨Ao23, co23, eo23⟩ := Kd.N_slice HO206.out
   (first | subst eo23 | (injection eo23 with f1_ f2_ f3_; have f4_ := f1_.symm; have f5_ := f3_.symm; clear f1_ f2_ f3_; subst f4_; subst f5_))
   refine hK.out _ _ ⟨(bc_ BK196.out 0).trans rfl, (bc_ BK196.out 1).trans rfl, (bc_ BK196.out 2).trans rfl, (bc_ BK196.out 3).trans rfl, (bc_ BK196.out 4).trans rfl, (bc_ BK196.out 5).trans rfl, (bc_ BK196.out 6).trans rfl, (bc_ BK196.out 7).trans rfl⟩ (fun hHeld => ?_)
   clear hK K
   refine norm_ (a' := ?_) ?_ ?_
   rotate_left
   ·show Act.put _ (some 18) _ = _
    simp only [Act.put, setIfInBounds_toArray, set_cons_zero, set_cons_succ, i64_w, i32_w]
    rfl
   refine one_ (i := 9) (N := some 19) #[t_, t_, t_, t_, t_, t_, t_, t_, t_, t_, f_] rfl rfl (one_of HT_.out (by kernel_rfl)) (by decide) (fun K hK => ?_)
   refine goes_ Try.func91 (by kernel_rfl) rfl #[.slice Ao23 y204.length co23] (by rfl) rfl rfl (by (try simp only [List.map_toArray, List.map_cons, List.map_nil]); first | done | rfl | (simp only [List.length_drop, List.length_take]; rfl)) ?_
   with_reducible refine (slices_Concat_byte.calls _ _ y204 t207 _ ?side1 ?side2 A7.out).mono ?_
   (case side1 => repeat (first | exact (Kd.N_reads' HO206.out).2.2 | (with_reducible refine Kd.C_alloc ?_ _) | (with_reducible refine Kd.C_drewN ?_ _) | (with_reducible refine Kd.C_drew ?_)))
   (case side2 => exact (Kd.N_reads' HO206.out).2.1)
   rintro e w24 ⟨v208, rfl, ho0, hb⟩
   refine ⟨_, rfl, ?_⟩
   have n0_ := A_ (Kd.N_elder' (by (with_reducible repeat (first | apply Kd.N_alloc | apply Kd.N_drewN | apply Kd.N_drew)); exact HO206.out) (Kd.R_base ho0) hb)
   have n1_ := A_ (Kd.R_lower ho0 (below_size (by repeat (first | (with_reducible first | exact HB.out | apply ba_ | apply bn_ | apply bd_ | refine bs_ ?_ GE196.out) | exact HB.out))))
   have n2_ := A_ (blk_below (g := gb196) (o := .cells #[.int .i64 a1_0, .int .i64 a1_1, .bool a1_2, .int .i64 a1_3, .string a1_4, .bool a1_5, .int .i64 a1_6, .string a1_7] 25 (0, 0)) (by (with_reducible repeat (first | refine kn_ ?_ _ | refine kd_ ?_ | refine ka_ ?_ _)); exact BK196.out) hb)
   have n3_ := A_ (bp_ (by repeat (first | (with_reducible first | exact HB.out | apply ba_ | apply bn_ | apply bd_ | refine bs_ ?_ GE196.out) | exact HB.out)) hb)
   clear HO206
   clear BK196
   clear HB
   have HO206 := n0_
   have HO209 := n1_
   have BK196 := n2_
   have HB := n3_
   clear n0_ n1_ n2_ n3_
   (try clear hb)
   (try clear hb2)
   (try clear hk)
   (try clear hi)
   (try clear ho0)
   (try clear A7)
   refine hK.out _ _ ⟨(bc_ BK196.out 0).trans rfl, (bc_ BK196.out 1).trans rfl, (bc_ BK196.out 2).trans rfl, (bc_ BK196.out 3).trans rfl, (bc_ BK196.out 4).trans rfl, (bc_ BK196.out 5).trans rfl, (bc_ BK196.out 6).trans rfl, (bc_ BK196.out 7).trans rfl⟩ (fun hHeld => ?_)
   clear hK K
   refine norm_ (a' := ?_) ?_ ?_
   rotate_left
   ·show Act.put _ (some 19) _ = _
    simp only [Act.put, setIfInBounds_toArray, set_cons_zero, set_cons_succ, i64_w, i32_w]
    rfl
   refine pure_ (i := 10) (N := some 5) (v := ?_) (a' := ?_) #[t_, t_, t_, t_, t_, t_, t_, t_, t_, t_, t_] rfl rfl (any_of HT_.out (by kernel_rfl)) (fun _ _ _ h => h) (Or.inl ⟨by rfl, ?_⟩) ?_ ?_
   rotate_left
   ·intro w'
    go_simp
    with_reducible rfl
   rotate_left
   ·simp only [Act.put, setIfInBounds_toArray, set_cons_zero, set_cons_succ, i64_w, i32_w]
    rfl
   refine done_ (done_of HT_.out (by kernel_rfl)) ?_
   have hcz25_0 : w24.cell? ⟨gb196, 0, none⟩ = some (.int .i64 a1_0) := (bc_ BK196.out 0).trans rfl
   have hcz25_1 : w24.cell? ⟨gb196, 1, none⟩ = some (.int .i64 a1_1) := (bc_ BK196.out 1).trans rfl
   have hcz25_2 : w24.cell? ⟨gb196, 2, none⟩ = some (.bool a1_2) := (bc_ BK196.out 2).trans rfl
   have hcz25_3 : w24.cell? ⟨gb196, 3, none⟩ = some (.int .i64 a1_3) := (bc_ BK196.out 3).trans rfl
   have hcz25_4 : w24.cell? ⟨gb196, 4, none⟩ = some (.string a1_4) := (bc_ BK196.out 4).trans rfl
   have hcz25_5 : w24.cell? ⟨gb196, 5, none⟩ = some (.bool a1_5) := (bc_ BK196.out 5).trans rfl
   have hcz25_6 : w24.cell? ⟨gb196, 6, none⟩ = some (.int .i64 a1_6) := (bc_ BK196.out 6).trans rfl
   have hcz25_7 : w24.cell? ⟨gb196, 7, none⟩ = some (.string a1_7) := (bc_ BK196.out 7).trans rfl
   have hfz25_0 := bf_ BK196.out 0
   have hfz25_1 := bf_ BK196.out 1
   have hfz25_2 := bf_ BK196.out 2
   have hfz25_3 := bf_ BK196.out 3
   have hfz25_4 := bf_ BK196.out 4
   have hfz25_5 := bf_ BK196.out 5
   have hfz25_6 := bf_ BK196.out 6
   have hfz25_7 := bf_ BK196.out 7
   try go_wp2_with (first | ((with_reducible refine gate_callee (f := 72) rfl ?_); refine goesL_ (some 21) rfl rfl Try.func72 (by kernel_rfl) rfl #[.agg #[.int .i64 a1_0, .int .i64 a1_1, .bool a1_2, .int .i64 a1_3, .string a1_4, .bool a1_5, .int .i64 a1_6, .string a1_7]] rfl (by (try simp only [List.map_toArray, List.map_cons, List.map_nil]); first | done | rfl | (simp only [List.length_drop, List.length_take]; rfl)) ?_; (with_reducible refine (zone_some.calls a1_0 a1_1 a1_2 a1_3 a1_4 a1_5 a1_6 a1_7 true _ A8.out).mono ?_); rintro e w26 ⟨rfl, hb⟩; refine ⟨_, rfl, ?_⟩; have n0_ := A_ (Kd.N_below (by (with_reducible repeat (first | apply Kd.N_alloc | apply Kd.N_drewN | apply Kd.N_drew)); exact HO206.out) hb); have n1_ := A_ (Kd.R_below (by (with_reducible repeat (first | apply Kd.R_alloc | apply Kd.R_drewN | apply Kd.R_drew)); exact HO209.out) hb); have n2_ := A_ (blk_below (g := gb196) (o := .cells #[.int .i64 a1_0, .int .i64 a1_1, .bool a1_2, .int .i64 a1_3, .string a1_4, .bool a1_5, .int .i64 a1_6, .string a1_7] 25 (0, 0)) (by (with_reducible repeat (first | refine kn_ ?_ _ | refine kd_ ?_ | refine ka_ ?_ _)); exact BK196.out) hb); have n3_ := A_ (bp_ (by repeat (first | (with_reducible first | exact HB.out | apply ba_ | apply bn_ | apply bd_ | refine bs_ ?_ GE196.out) | exact HB.out)) hb); clear HO206; clear HO209; clear BK196; clear HB; have HO206 := n0_; have HO209 := n1_; have BK196 := n2_; have HB := n3_; clear n0_ n1_ n2_ n3_; (try clear hb); (try clear hb2); (try clear hk); (try clear hi)))
   have n0_ := A_ (Kd.N_drew HO206.out)
   have n1_ := A_ (Kd.R_drew HO209.out)
   have n2_ := A_ (kd_ BK196.out)
   have n3_ := A_ (bd_ HB.out)
   clear HO206
   clear HO209
   clear BK196
   clear HB
   have HO206 := n0_
   have HO209 := n1_
   have BK196 := n2_
   have HB := n3_
   clear n0_ n1_ n2_ n3_
   refine start_ (n := 12) (S := fun w' => w'.cell? ⟨gb196, 0, none⟩ = some (.int .i64 a1_0) ∧ w'.cell? ⟨gb196, 1, none⟩ = some (.int .i64 a1_1) ∧ w'.cell? ⟨gb196, 2, none⟩ = some (.bool a1_2) ∧ w'.cell? ⟨gb196, 3, none⟩ = some (.int .i64 a1_3) ∧ w'.cell? ⟨gb196, 4, none⟩ = some (.string a1_4) ∧ w'.cell? ⟨gb196, 5, none⟩ = some (.bool a1_5) ∧ w'.cell? ⟨gb196, 6, none⟩ = some (.int .i64 a1_6) ∧ w'.cell? ⟨gb196, 7, none⟩ = some (.string a1_7)) (ds := []) #[f_, f_, f_, f_, f_, f_, f_, f_, f_, f_, f_, f_] (by kernel_rfl) rfl rfl ⟨(bc_ BK196.out 0).trans rfl, (bc_ BK196.out 1).trans rfl, (bc_ BK196.out 2).trans rfl, (bc_ BK196.out 3).trans rfl, (bc_ BK196.out 4).trans rfl, (bc_ BK196.out 5).trans rfl, (bc_ BK196.out 6).trans rfl, (bc_ BK196.out 7).trans rfl⟩ (fun hHeld => ?_); refine with_tabW zone_Put.tab6 zone_Put.bits6 (fun HT_ HW_ => ?_)
   generalize w26.drew = w27 at HO206 HO209 BK196 HB hHeld ⊢
   refine pure_ (i := 0) (N := some 24) (v := ?_) (a' := ?_) #[t_, f_, f_, f_, f_, f_, f_, f_, f_, f_, f_, f_] rfl rfl (any_of HT_.out (by kernel_rfl)) (fun _ _ _ h => h) (Or.inl ⟨by rfl, ?_⟩) ?_ ?_
   rotate_left
   ·intro w'
    go_simp
    with_reducible rfl
   rotate_left
   ·simp only [Act.put, setIfInBounds_toArray, set_cons_zero, set_cons_succ, i64_w, i32_w]
    rfl
   refine pure_ (i := 1) (N := some 25) (v := ?_) (a' := ?_) #[t_, t_, f_, f_, f_, f_, f_, f_, f_, f_, f_, f_] rfl rfl (any_of HT_.out (by kernel_rfl)) (fun _ _ _ h => h) (Or.inl ⟨by rfl, ?_⟩) ?_ ?_
   rotate_left
   ·intro w'
    go_simp
    with_reducible rfl
   rotate_left
   ·simp only [Act.put, setIfInBounds_toArray, set_cons_zero, set_cons_succ, i64_w, i32_w]
    rfl
   refine pure_ (i := 2) (N := some 26) (v := ?_) (a' := ?_) #[t_, t_, t_, f_, f_, f_, f_, f_, f_, f_, f_, f_] rfl rfl (any_of HT_.out (by kernel_rfl)) (fun _ _ _ h => h) (Or.inl ⟨by rfl, ?_⟩) ?_ ?_
   rotate_left
   ·intro w'
    go_simp
    with_reducible rfl
   rotate_left
   ·simp only [Act.put, setIfInBounds_toArray, set_cons_zero, set_cons_succ, i64_w, i32_w]
    rfl
   refine pure_ (i := 5) (N := some 29) (v := ?_) (a' := ?_) #[t_, t_, t_, f_, f_, t_, f_, f_, f_, f_, f_, f_] rfl rfl (any_of HT_.out (by kernel_rfl)) (fun _ _ _ h => h) (Or.inl ⟨by rfl, ?_⟩) ?_ ?_
   rotate_left
   ·intro w'
    go_simp
    with_reducible rfl
   rotate_left
   ·simp only [Act.put, setIfInBounds_toArray, set_cons_zero, set_cons_succ, i64_w, i32_w]
    rfl
   refine pure_ (i := 6) (N := some 30) (v := ?_) (a' := ?_) #[t_, t_, t_, f_, f_, t_, t_, f_, f_, f_, f_, f_] rfl rfl (any_of HT_.out (by kernel_rfl)) (fun _ _ _ h => h) (Or.inl ⟨by rfl, ?_⟩) ?_ ?_
   rotate_left
   ·intro w'
    go_simp
    with_reducible rfl
   rotate_left
   ·simp only [Act.put, setIfInBounds_toArray, set_cons_zero, set_cons_succ, i64_w, i32_w]
    rfl
   refine take_ (i := 3) (N := some 27) (v := ?_) (a' := ?_) #[t_, t_, t_, t_, f_, t_, t_, f_, f_, f_, f_, f_] rfl rfl (take_ofW HT_.out HW_.out (by kernel_rfl)) (fun _ _ _ h => h) (Or.inl ⟨by rfl, ?_⟩) hHeld ?_ ?_
   rotate_left
   ·rintro w' ⟨s0, s1, s2, s3, s4, s5, s6, s7⟩
    go_simp
    with_reducible rfl
   rotate_left
   ·simp only [Act.put, setIfInBounds_toArray, set_cons_zero, set_cons_succ, i64_w, i32_w]
    rfl
   refine take_ (i := 7) (N := some 31) (v := ?_) (a' := ?_) #[t_, t_, t_, t_, f_, t_, t_, t_, f_, f_, f_, f_] rfl rfl (take_ofW HT_.out HW_.out (by kernel_rfl)) (fun _ _ _ h => h) (Or.inl ⟨by rfl, ?_⟩) hHeld ?_ ?_
   rotate_left
   ·rintro w' ⟨s0, s1, s2, s3, s4, s5, s6, s7⟩
    go_simp
    with_reducible rfl
   rotate_left
   ·simp only [Act.put, setIfInBounds_toArray, set_cons_zero, set_cons_succ, i64_w, i32_w]
    rfl
   refine one_ (i := 4) (N := some 28) #[t_, t_, t_, t_, t_, t_, t_, t_, f_, f_, f_, f_] rfl rfl (one_of HT_.out (by kernel_rfl)) (by decide) (fun K hK => ?_)
   refine goes_ Try.func63 (by kernel_rfl) rfl #[.int .i64 a0, .agg #[.bool a1_2, .int .i64 a1_3, .string a1_4]] (by rfl) rfl rfl (by (try simp only [List.map_toArray, List.map_cons, List.map_nil]); first | done | rfl | (simp only [List.length_drop, List.length_take]; rfl)) ?_
   with_reducible refine (cell_Put.calls k a0 a1_2 a1_3 a1_4 t211 _ A10.out).mono ?_
   rintro e w28 ⟨v212, rfl, ho0, hb⟩
   refine ⟨_, rfl, ?_⟩
   have n0_ := A_ (Kd.N_elder' (by (with_reducible repeat (first | apply Kd.N_alloc | apply Kd.N_drewN | apply Kd.N_drew)); exact HO206.out) (Kd.R_base ho0) hb)
   have n1_ := A_ (Kd.R_elder' (by (with_reducible repeat (first | apply Kd.R_alloc | apply Kd.R_drewN | apply Kd.R_drew)); exact HO209.out) (Kd.R_base ho0) hb)
   have n2_ := A_ (Kd.R_lower (Kd.R_new' ho0 (Kd.R_lt (by (with_reducible repeat (first | apply Kd.R_alloc | apply Kd.R_drewN | apply Kd.R_drew)); exact HO209.out))) (below_size (by repeat (first | (with_reducible first | exact HB.out | apply ba_ | apply bn_ | apply bd_ | refine bs_ ?_ GE196.out) | exact HB.out))))
   have n3_ := A_ (blk_below (g := gb196) (o := .cells #[.int .i64 a1_0, .int .i64 a1_1, .bool a1_2, .int .i64 a1_3, .string a1_4, .bool a1_5, .int .i64 a1_6, .string a1_7] 25 (0, 0)) (by (with_reducible repeat (first | refine kn_ ?_ _ | refine kd_ ?_ | refine ka_ ?_ _)); exact BK196.out) hb)
   have n4_ := A_ (bp_ (by repeat (first | (with_reducible first | exact HB.out | apply ba_ | apply bn_ | apply bd_ | refine bs_ ?_ GE196.out) | exact HB.out)) hb)
   clear HO206
   clear HO209
   clear BK196
   clear HB
   have HO206 := n0_
   have HO209 := n1_
   have HO213 := n2_
   have BK196 := n3_
   have HB := n4_
   clear n0_ n1_ n2_ n3_ n4_
   (try clear hb)
   (try clear hb2)
   (try clear hk)
   (try clear hi)
   (try clear ho0)
   (try clear A10)
   refine hK.out _ _ ⟨(bc_ BK196.out 0).trans rfl, (bc_ BK196.out 1).trans rfl, (bc_ BK196.out 2).trans rfl, (bc_ BK196.out 3).trans rfl, (bc_ BK196.out 4).trans rfl, (bc_ BK196.out 5).trans rfl, (bc_ BK196.out 6).trans rfl, (bc_ BK196.out 7).trans rfl⟩ (fun hHeld => ?_)
   clear hK K
   refine norm_ (a' := ?_) ?_ ?_
   rotate_left
   ·show Act.put _ (some 28) _ = _
    simp only [Act.put, setIfInBounds_toArray, set_cons_zero, set_cons_succ, i64_w, i32_w]
    rfl
   refine one_ (i := 8) (N := some 32) #[t_, t_, t_, t_, t_, t_, t_, t_, t_, f_, f_, f_] rfl rfl (one_of HT_.out (by kernel_rfl)) (by decide) (fun K hK => ?_)
   refine goes_ Try.func63 (by kernel_rfl) rfl #[.int .i64 a0, .agg #[.bool a1_5, .int .i64 a1_6, .string a1_7]] (by rfl) rfl rfl (by (try simp only [List.map_toArray, List.map_cons, List.map_nil]); first | done | rfl | (simp only [List.length_drop, List.length_take]; rfl)) ?_
   with_reducible refine (cell_Put.calls k a0 a1_5 a1_6 a1_7 t214 _ A11.out).mono ?_
   rintro e w29 ⟨v215, rfl, ho0, hb⟩
   refine ⟨_, rfl, ?_⟩
   have n0_ := A_ (Kd.N_elder' (by (with_reducible repeat (first | apply Kd.N_alloc | apply Kd.N_drewN | apply Kd.N_drew)); exact HO206.out) (Kd.R_base ho0) hb)
   have n1_ := A_ (Kd.R_elder' (by (with_reducible repeat (first | apply Kd.R_alloc | apply Kd.R_drewN | apply Kd.R_drew)); exact HO209.out) (Kd.R_base ho0) hb)
   have n2_ := A_ (Kd.R_elder' (by (with_reducible repeat (first | apply Kd.R_alloc | apply Kd.R_drewN | apply Kd.R_drew)); exact HO213.out) (Kd.R_base ho0) hb)
   have n3_ := A_ (Kd.R_lower (Kd.R_new' (Kd.R_new' ho0 (Kd.R_lt (by (with_reducible repeat (first | apply Kd.R_alloc | apply Kd.R_drewN | apply Kd.R_drew)); exact HO209.out))) (Kd.R_lt (by (with_reducible repeat (first | apply Kd.R_alloc | apply Kd.R_drewN | apply Kd.R_drew)); exact HO213.out))) (below_size (by repeat (first | (with_reducible first | exact HB.out | apply ba_ | apply bn_ | apply bd_ | refine bs_ ?_ GE196.out) | exact HB.out))))
   have n4_ := A_ (blk_below (g := gb196) (o := .cells #[.int .i64 a1_0, .int .i64 a1_1, .bool a1_2, .int .i64 a1_3, .string a1_4, .bool a1_5, .int .i64 a1_6, .string a1_7] 25 (0, 0)) (by (with_reducible repeat (first | refine kn_ ?_ _ | refine kd_ ?_ | refine ka_ ?_ _)); exact BK196.out) hb)
   have n5_ := A_ (bp_ (by repeat (first | (with_reducible first | exact HB.out | apply ba_ | apply bn_ | apply bd_ | refine bs_ ?_ GE196.out) | exact HB.out)) hb)
   clear HO206
   clear HO209
   clear HO213
   clear BK196
   clear HB
   have HO206 := n0_
   have HO209 := n1_
   have HO213 := n2_
   have HO216 := n3_
   have BK196 := n4_
   have HB := n5_
   clear n0_ n1_ n2_ n3_ n4_ n5_
   (try clear hb)
   (try clear hb2)
   (try clear hk)
   (try clear hi)
   (try clear ho0)
   (try clear A11)
   obtain ⟨Ao30, co30, eo30⟩ := Kd.R_slice HO209.out
   (first | subst eo30 | (injection eo30 with f1_ f2_ f3_; have f4_ := f1_.symm; have f5_ := f3_.symm; clear f1_ f2_ f3_; subst f4_; subst f5_))
   obtain ⟨Ao31, co31, eo31⟩ := Kd.R_slice HO213.out
   (first | subst eo31 | (injection eo31 with f1_ f2_ f3_; have f4_ := f1_.symm; have f5_ := f3_.symm; clear f1_ f2_ f3_; subst f4_; subst f5_))
   obtain ⟨Ao32, co32, eo32⟩ := Kd.R_slice HO216.out
   (first | subst eo32 | (injection eo32 with f1_ f2_ f3_; have f4_ := f1_.symm; have f5_ := f3_.symm; clear f1_ f2_ f3_; subst f4_; subst f5_))
   refine hK.out _ _ ⟨(bc_ BK196.out 0).trans rfl, (bc_ BK196.out 1).trans rfl, (bc_ BK196.out 2).trans rfl, (bc_ BK196.out 3).trans rfl, (bc_ BK196.out 4).trans rfl, (bc_ BK196.out 5).trans rfl, (bc_ BK196.out 6).trans rfl, (bc_ BK196.out 7).trans rfl⟩ (fun hHeld => ?_)
   clear hK K
   refine norm_ (a' := ?_) ?_ ?_
   rotate_left
   ·show Act.put _ (some 32) _ = _
    simp only [Act.put, setIfInBounds_toArray, set_cons_zero, set_cons_succ, i64_w, i32_w]
    rfl
   refine one_ (i := 9) (N := some 33) #[t_, t_, t_, t_, t_, t_, t_, t_, t_, t_, f_, f_] rfl rfl (one_of HT_.out (by kernel_rfl)) (by decide) (fun K hK => ?_)
   refine Kd.N_lit_step (Kd.slice 5 (Kd.int .u8)) _ 31 ?hg (N' := 33) ?hd (xs := ([t207, t211, t214] : List (List Int))) (inner := [.slice Ao30 t207.length co30, .slice Ao31 t211.length co31, .slice Ao32 t214.length co32]) (ok := (fun k_ => some k_ ≠ (.slice Ao23 y204.length co23 : Value).ownBlock ∧ k_ ≠ gb196)) (okp := (fun k_ => some k_ ≠ (.slice Ao23 y204.length co23 : Value).ownBlock ∧ k_ ≠ gb196)) ?hr ?hp (fun _ hk => hk) ((show ∀ k_, w29.heap.size ≤ k_ → (fun k_ => some k_ ≠ (.slice Ao23 y204.length co23 : Value).ownBlock ∧ k_ ≠ gb196) k_ from fun k_ hk => ⟨Kd.fresh' (Kd.N_lt (by (with_reducible repeat (first | apply Kd.N_alloc | apply Kd.N_drewN | apply Kd.N_drew)); exact HO206.out)) k_ hk, Kd.freshB (g := gb196) (o := .cells #[.int .i64 a1_0, .int .i64 a1_1, .bool a1_2, .int .i64 a1_3, .string a1_4, .bool a1_5, .int .i64 a1_6, .string a1_7] 25 (0, 0)) (by (with_reducible repeat (first | refine kn_ ?_ _ | refine kd_ ?_ | refine ka_ ?_ _)); exact BK196.out) k_ hk⟩) _ (Nat.le_refl _)) (Below.refl _ _) (Nat.le_refl _) (by simp) ?_; (case hd => rfl); (case hg => rfl); (case hr => first | (go_simp; done) | (go_simp; rfl)); (case hp => exact (Reps.one (show Kd.FK (Kd.slice 5 (Kd.int .u8)) _ _ t207 [.slice Ao30 t207.length co30] from (Kd.FK_slice_mk (Kd.R_reads' (Kd.R_mono (ok' := (fun k_ => some k_ ≠ (.slice Ao23 y204.length co23 : Value).ownBlock ∧ k_ ≠ gb196)) (Kd.R_types (Kd.R_apart' (HO209.out) (Kd.N_typed HO206.out) (by decide)) BK196.out (by decide)) (fun k_ hk => ⟨hk.1.2, hk.2⟩))).2.1 (Kd.R_F (Kd.R_mono (ok' := (fun k_ => some k_ ≠ (.slice Ao23 y204.length co23 : Value).ownBlock ∧ k_ ≠ gb196)) (Kd.R_types (Kd.R_apart' (HO209.out) (Kd.N_typed HO206.out) (by decide)) BK196.out (by decide)) (fun k_ hk => ⟨hk.1.2, hk.2⟩))))) (Reps.one (show Kd.FK (Kd.slice 5 (Kd.int .u8)) _ _ t211 [.slice Ao31 t211.length co31] from (Kd.FK_slice_mk (Kd.R_reads' (Kd.R_mono (ok' := (fun k_ => some k_ ≠ (.slice Ao23 y204.length co23 : Value).ownBlock ∧ k_ ≠ gb196)) (Kd.R_types (Kd.R_apart' (HO213.out) (Kd.N_typed HO206.out) (by decide)) BK196.out (by decide)) (fun k_ hk => ⟨hk.1.2, hk.2⟩))).2.1 (Kd.R_F (Kd.R_mono (ok' := (fun k_ => some k_ ≠ (.slice Ao23 y204.length co23 : Value).ownBlock ∧ k_ ≠ gb196)) (Kd.R_types (Kd.R_apart' (HO213.out) (Kd.N_typed HO206.out) (by decide)) BK196.out (by decide)) (fun k_ hk => ⟨hk.1.2, hk.2⟩))))) (Reps.one (show Kd.FK (Kd.slice 5 (Kd.int .u8)) _ _ t214 [.slice Ao32 t214.length co32] from (Kd.FK_slice_mk (Kd.R_reads' (Kd.R_mono (ok' := (fun k_ => some k_ ≠ (.slice Ao23 y204.length co23 : Value).ownBlock ∧ k_ ≠ gb196)) (Kd.R_types (Kd.R_apart' (HO216.out) (Kd.N_typed HO206.out) (by decide)) BK196.out (by decide)) (fun k_ hk => ⟨hk.1.2, hk.2⟩))).2.1 (Kd.R_F (Kd.R_mono (ok' := (fun k_ => some k_ ≠ (.slice Ao23 y204.length co23 : Value).ownBlock ∧ k_ ≠ gb196)) (Kd.R_types (Kd.R_apart' (HO216.out) (Kd.N_typed HO206.out) (by decide)) BK196.out (by decide)) (fun k_ hk => ⟨hk.1.2, hk.2⟩))))) (Reps.none _ _)))))
   intro v218 w33 ho34 hb hg_ hnew_
   clear hg_ hnew_
   (first | rw [← Ny217.out] at ho34 | (simp only [Int.reduceToNat] at ho34; rw [← Ny217.out] at ho34))
   have n0_ := A_ (Kd.N_elder' (by (with_reducible repeat (first | apply Kd.N_alloc | apply Kd.N_drewN | apply Kd.N_drew)); exact HO206.out) (Kd.N_base ho34) hb)
   have n1_ := A_ (Kd.N_lower ho34 (below_size (by repeat (first | (with_reducible first | exact HB.out | apply ba_ | apply bn_ | apply bd_ | refine bs_ ?_ GE196.out) | exact HB.out))))
   have n2_ := A_ (blk_below (g := gb196) (o := .cells #[.int .i64 a1_0, .int .i64 a1_1, .bool a1_2, .int .i64 a1_3, .string a1_4, .bool a1_5, .int .i64 a1_6, .string a1_7] 25 (0, 0)) (by (with_reducible repeat (first | refine kn_ ?_ _ | refine kd_ ?_ | refine ka_ ?_ _)); exact BK196.out) hb)
   have n3_ := A_ (bp_ (by repeat (first | (with_reducible first | exact HB.out | apply ba_ | apply bn_ | apply bd_ | refine bs_ ?_ GE196.out) | exact HB.out)) hb)
   clear HO206
   clear BK196
   clear HB
   clear HO209
   clear HO213
   clear HO216
   have HO206 := n0_
   have HO219 := n1_
   have BK196 := n2_
   have HB := n3_
   clear n0_ n1_ n2_ n3_
   clear hb ho34
   obtain ⟨Ao35, co35, eo35⟩ := Kd.N_slice HO219.out
   (first | subst eo35 | (injection eo35 with f1_ f2_ f3_; have f4_ := f1_.symm; have f5_ := f3_.symm; clear f1_ f2_ f3_; subst f4_; subst f5_))
   refine hK.out _ _ ⟨(bc_ BK196.out 0).trans rfl, (bc_ BK196.out 1).trans rfl, (bc_ BK196.out 2).trans rfl, (bc_ BK196.out 3).trans rfl, (bc_ BK196.out 4).trans rfl, (bc_ BK196.out 5).trans rfl, (bc_ BK196.out 6).trans rfl, (bc_ BK196.out 7).trans rfl⟩ (fun hHeld => ?_)
   clear hK K
   refine norm_ (a' := ?_) ?_ ?_
   rotate_left
   ·show Act.put _ (some 33) _ = _
    simp only [Act.put, setIfInBounds_toArray, set_cons_zero, set_cons_succ, i64_w, i32_w]
    rfl
   refine one_ (i := 10) (N := some 34) #[t_, t_, t_, t_, t_, t_, t_, t_, t_, t_, t_, f_] rfl rfl (one_of HT_.out (by kernel_rfl)) (by decide) (fun K hK => ?_)
   refine goes_ Try.func91 (by kernel_rfl) rfl #[.slice Ao35 y217.length co35] (by rfl) rfl rfl (by (try simp only [List.map_toArray, List.map_cons, List.map_nil]); first | done | rfl | (simp only [List.length_drop, List.length_take]; rfl)) ?_
   with_reducible refine (slices_Concat_byte.calls _ _ y217 t220 _ ?side1 ?side2 A12.out).mono ?_
   (case side1 => repeat (first | exact (Kd.N_reads' HO219.out).2.2 | (with_reducible refine Kd.C_alloc ?_ _) | (with_reducible refine Kd.C_drewN ?_ _) | (with_reducible refine Kd.C_drew ?_)))
   (case side2 => exact (Kd.N_reads' HO219.out).2.1)
   rintro e w36 ⟨v221, rfl, ho0, hb⟩
   refine ⟨_, rfl, ?_⟩
   have n0_ := A_ (Kd.N_elder' (by (with_reducible repeat (first | apply Kd.N_alloc | apply Kd.N_drewN | apply Kd.N_drew)); exact HO206.out) (Kd.R_base ho0) hb)
   have n1_ := A_ (Kd.N_elder' (by (with_reducible repeat (first | apply Kd.N_alloc | apply Kd.N_drewN | apply Kd.N_drew)); exact HO219.out) (Kd.R_base ho0) hb)
   have n2_ := A_ (Kd.R_lower ho0 (below_size (by repeat (first | (with_reducible first | exact HB.out | apply ba_ | apply bn_ | apply bd_ | refine bs_ ?_ GE196.out) | exact HB.out))))
   have n3_ := A_ (blk_below (g := gb196) (o := .cells #[.int .i64 a1_0, .int .i64 a1_1, .bool a1_2, .int .i64 a1_3, .string a1_4, .bool a1_5, .int .i64 a1_6, .string a1_7] 25 (0, 0)) (by (with_reducible repeat (first | refine kn_ ?_ _ | refine kd_ ?_ | refine ka_ ?_ _)); exact BK196.out) hb)
   have n4_ := A_ (bp_ (by repeat (first | (with_reducible first | exact HB.out | apply ba_ | apply bn_ | apply bd_ | refine bs_ ?_ GE196.out) | exact HB.out)) hb)
   clear HO206
   clear HO219
   clear BK196
   clear HB
   have HO206 := n0_
   have HO219 := n1_
   have HO222 := n2_
   have BK196 := n3_
   have HB := n4_
   clear n0_ n1_ n2_ n3_ n4_
   (try clear hb)
   (try clear hb2)
   (try clear hk)
   (try clear hi)
   (try clear ho0)
   (try clear A12)
   refine hK.out _ _ ⟨(bc_ BK196.out 0).trans rfl, (bc_ BK196.out 1).trans rfl, (bc_ BK196.out 2).trans rfl, (bc_ BK196.out 3).trans rfl, (bc_ BK196.out 4).trans rfl, (bc_ BK196.out 5).trans rfl, (bc_ BK196.out 6).trans rfl, (bc_ BK196.out 7).trans rfl⟩ (fun hHeld => ?_)
   clear hK K
   refine norm_ (a' := ?_) ?_ ?_
   rotate_left
   ·show Act.put _ (some 34) _ = _
    simp only [Act.put, setIfInBounds_toArray, set_cons_zero, set_cons_succ, i64_w, i32_w]
    rfl
   refine pure_ (i := 11) (N := some 4) (v := ?_) (a' := ?_) #[t_, t_, t_, t_, t_, t_, t_, t_, t_, t_, t_, t_] rfl rfl (any_of HT_.out (by kernel_rfl)) (fun _ _ _ h => h) (Or.inl ⟨by rfl, ?_⟩) ?_ ?_
   rotate_left
   ·intro w'
    go_simp
    with_reducible rfl
   rotate_left
   ·simp only [Act.put, setIfInBounds_toArray, set_cons_zero, set_cons_succ, i64_w, i32_w]
    rfl
   refine done_ (done_of HT_.out (by kernel_rfl)) ?_
   try go_wp2
   go_ret
   exact ⟨_, by first | rfl | (simp [errW_none, errW_some] <;> rfl) | (simp [*, errW_none, errW_some] <;> rfl), by (with_reducible repeat (first | apply Kd.R_alloc | apply Kd.R_drewN | apply Kd.R_drew)); exact HO222.out, by repeat (first | (with_reducible first | exact HB.out | apply ba_ | apply bn_ | apply bd_ | refine bs_ ?_ GE196.out) | exact HB.out)⟩
  ·replace c9 := Bool.eq_false_iff.mpr c9
   subst c9
   have H1 : (some t207) = some r := by rw [if_neg (show ¬ (false = true) by decide)] at H; exact H
   clear H
   have H := H1
   clear H1
   obtain rfl := Option.some.inj H
   go_enter Try.func68, Try.ntmps68
   try go_wp2_with (first | ((with_reducible refine gate_dst (N := 3) rfl ?_); refine box_event ?hg (N := 3) ?hd (cs := #[.int .i64 a1_0, .int .i64 a1_1, .bool a1_2, .int .i64 a1_3, .string a1_4, .bool a1_5, .int .i64 a1_6, .string a1_7]) (t := 25) ?hr ?_; (case hd => rfl); (case hg => rfl); (case hr => first | (go_simp; done) | (go_simp; rfl)); intro gb196 hg w37 hbox hb; have n0_ := A_ (bp_ (by repeat (first | (with_reducible first | exact HB.out | apply ba_ | apply bn_ | apply bd_) | exact HB.out)) hb); have n1_ := A_ (hbox); have n2_ := A_ ((by rw [hg]; exact (below_size (by repeat (first | (with_reducible first | exact HB.out | apply ba_ | apply bn_ | apply bd_) | exact HB.out))) : w.heap.size ≤ gb196)); have n3_ := A_ ((by rw [hg]; exact (below_size (by repeat (first | (with_reducible first | exact HB.out | apply ba_ | apply bn_ | apply bd_) | exact HB.out))) : w.heap.size ≤ gb196)); clear HB; have HB := n0_; have BK196 := n1_; have GW196 := n2_; have GE196 := n3_; clear n0_ n1_ n2_ n3_; clear hb hbox hg; have hcz38_0 : w37.cell? ⟨gb196, 0, none⟩ = some (.int .i64 a1_0) := (bc_ BK196.out 0).trans rfl; have hcz38_1 : w37.cell? ⟨gb196, 1, none⟩ = some (.int .i64 a1_1) := (bc_ BK196.out 1).trans rfl; have hcz38_2 : w37.cell? ⟨gb196, 2, none⟩ = some (.bool a1_2) := (bc_ BK196.out 2).trans rfl; have hcz38_3 : w37.cell? ⟨gb196, 3, none⟩ = some (.int .i64 a1_3) := (bc_ BK196.out 3).trans rfl; have hcz38_4 : w37.cell? ⟨gb196, 4, none⟩ = some (.string a1_4) := (bc_ BK196.out 4).trans rfl; have hcz38_5 : w37.cell? ⟨gb196, 5, none⟩ = some (.bool a1_5) := (bc_ BK196.out 5).trans rfl; have hcz38_6 : w37.cell? ⟨gb196, 6, none⟩ = some (.int .i64 a1_6) := (bc_ BK196.out 6).trans rfl; have hcz38_7 : w37.cell? ⟨gb196, 7, none⟩ = some (.string a1_7) := (bc_ BK196.out 7).trans rfl; have hfz38_0 := bf_ BK196.out 0; have hfz38_1 := bf_ BK196.out 1; have hfz38_2 := bf_ BK196.out 2; have hfz38_3 := bf_ BK196.out 3; have hfz38_4 := bf_ BK196.out 4; have hfz38_5 := bf_ BK196.out 5; have hfz38_6 := bf_ BK196.out 6; have hfz38_7 := bf_ BK196.out 7) | ((with_reducible refine gate_callee (f := 16) rfl ?_); refine goesL_ (some 8) rfl rfl Try.func16 (by kernel_rfl) rfl #[.int .i64 a0, .agg #[.int .i64 a1_0, .int .i64 a1_1, .bool a1_2, .int .i64 a1_3, .string a1_4, .bool a1_5, .int .i64 a1_6, .string a1_7]] rfl (by (try simp only [List.map_toArray, List.map_cons, List.map_nil]); first | done | rfl | (simp only [List.length_drop, List.length_take]; rfl)) ?_; (with_reducible refine (zone_May.calls k a0 a1_0 a1_1 a1_2 a1_3 a1_4 a1_5 a1_6 a1_7 true _ A3.out).mono ?_); rintro e w39 ⟨rfl, hb⟩; refine ⟨_, rfl, ?_⟩; have n0_ := A_ (blk_below (g := gb196) (o := .cells #[.int .i64 a1_0, .int .i64 a1_1, .bool a1_2, .int .i64 a1_3, .string a1_4, .bool a1_5, .int .i64 a1_6, .string a1_7] 25 (0, 0)) (by (with_reducible repeat (first | refine kn_ ?_ _ | refine kd_ ?_ | refine ka_ ?_ _)); exact BK196.out) hb); have n1_ := A_ (bp_ (by repeat (first | (with_reducible first | exact HB.out | apply ba_ | apply bn_ | apply bd_ | refine bs_ ?_ GE196.out) | exact HB.out)) hb); clear BK196; clear HB; have BK196 := n0_; have HB := n1_; clear n0_ n1_; (try clear hb); (try clear hb2); (try clear hk); (try clear hi)))
   have n0_ := A_ (kd_ BK196.out)
   have n1_ := A_ (bd_ HB.out)
   clear BK196
   clear HB
   have BK196 := n0_
   have HB := n1_
   clear n0_ n1_
   refine start_ (n := 11) (S := fun w' => w'.cell? ⟨gb196, 0, none⟩ = some (.int .i64 a1_0) ∧ w'.cell? ⟨gb196, 1, none⟩ = some (.int .i64 a1_1) ∧ w'.cell? ⟨gb196, 2, none⟩ = some (.bool a1_2) ∧ w'.cell? ⟨gb196, 3, none⟩ = some (.int .i64 a1_3) ∧ w'.cell? ⟨gb196, 4, none⟩ = some (.string a1_4) ∧ w'.cell? ⟨gb196, 5, none⟩ = some (.bool a1_5) ∧ w'.cell? ⟨gb196, 6, none⟩ = some (.int .i64 a1_6) ∧ w'.cell? ⟨gb196, 7, none⟩ = some (.string a1_7)) (ds := []) #[f_, f_, f_, f_, f_, f_, f_, f_, f_, f_, f_] (by kernel_rfl) rfl rfl ⟨(bc_ BK196.out 0).trans rfl, (bc_ BK196.out 1).trans rfl, (bc_ BK196.out 2).trans rfl, (bc_ BK196.out 3).trans rfl, (bc_ BK196.out 4).trans rfl, (bc_ BK196.out 5).trans rfl, (bc_ BK196.out 6).trans rfl, (bc_ BK196.out 7).trans rfl⟩ (fun hHeld => ?_); refine with_tabW zone_Put.tab3 zone_Put.bits3 (fun HT_ HW_ => ?_)
   generalize w39.drew = w40 at BK196 HB hHeld ⊢
   refine pure_ (i := 0) (N := some 10) (v := ?_) (a' := ?_) #[t_, f_, f_, f_, f_, f_, f_, f_, f_, f_, f_] rfl rfl (any_of HT_.out (by kernel_rfl)) (fun _ _ _ h => h) (Or.inl ⟨by rfl, ?_⟩) ?_ ?_
   rotate_left
   ·intro w'
    go_simp
    with_reducible rfl
   rotate_left
   ·simp only [Act.put, setIfInBounds_toArray, set_cons_zero, set_cons_succ, i64_w, i32_w]
    rfl
   refine pure_ (i := 4) (N := some 14) (v := ?_) (a' := ?_) #[t_, f_, f_, f_, t_, f_, f_, f_, f_, f_, f_] rfl rfl (any_of HT_.out (by kernel_rfl)) (fun _ _ _ h => h) (Or.inl ⟨by rfl, ?_⟩) ?_ ?_
   rotate_left
   ·intro w'
    go_simp
    with_reducible rfl
   rotate_left
   ·simp only [Act.put, setIfInBounds_toArray, set_cons_zero, set_cons_succ, i64_w, i32_w]
    rfl
   refine take_ (i := 1) (N := some 11) (v := ?_) (a' := ?_) #[t_, t_, f_, f_, t_, f_, f_, f_, f_, f_, f_] rfl rfl (take_ofW HT_.out HW_.out (by kernel_rfl)) (fun _ _ _ h => h) (Or.inl ⟨by rfl, ?_⟩) hHeld ?_ ?_
   rotate_left
   ·rintro w' ⟨s0, s1, s2, s3, s4, s5, s6, s7⟩
    go_simp
    with_reducible rfl
   rotate_left
   ·simp only [Act.put, setIfInBounds_toArray, set_cons_zero, set_cons_succ, i64_w, i32_w]
    rfl
   refine pure_ (i := 2) (N := some 12) (v := ?_) (a' := ?_) #[t_, t_, t_, f_, t_, f_, f_, f_, f_, f_, f_] rfl rfl (any_of HT_.out (by kernel_rfl)) (fun _ _ _ h => h) (Or.inl ⟨by rfl, ?_⟩) ?_ ?_
   rotate_left
   ·intro w'
    go_simp
    with_reducible rfl
   rotate_left
   ·simp only [Act.put, setIfInBounds_toArray, set_cons_zero, set_cons_succ, i64_w, i32_w]
    rfl
   refine take_ (i := 5) (N := some 15) (v := ?_) (a' := ?_) #[t_, t_, t_, f_, t_, t_, f_, f_, f_, f_, f_] rfl rfl (take_ofW HT_.out HW_.out (by kernel_rfl)) (fun _ _ _ h => h) (Or.inl ⟨by rfl, ?_⟩) hHeld ?_ ?_
   rotate_left
   ·rintro w' ⟨s0, s1, s2, s3, s4, s5, s6, s7⟩
    go_simp
    with_reducible rfl
   rotate_left
   ·simp only [Act.put, setIfInBounds_toArray, set_cons_zero, set_cons_succ, i64_w, i32_w]
    rfl
   refine pure_ (i := 6) (N := some 16) (v := ?_) (a' := ?_) #[t_, t_, t_, f_, t_, t_, t_, f_, f_, f_, f_] rfl rfl (any_of HT_.out (by kernel_rfl)) (fun _ _ _ h => h) (Or.inl ⟨by rfl, ?_⟩) ?_ ?_
   rotate_left
   ·intro w'
    go_simp
    with_reducible rfl
   rotate_left
   ·simp only [Act.put, setIfInBounds_toArray, set_cons_zero, set_cons_succ, i64_w, i32_w]
    rfl
   refine one_ (i := 3) (N := some 13) #[t_, t_, t_, t_, t_, t_, t_, f_, f_, f_, f_] rfl rfl (one_of HT_.out (by kernel_rfl)) (by decide) (fun K hK => ?_)
   refine goes_ Try.func45 (by kernel_rfl) rfl #[.int .u64 (IntKind.u64.wrap (a1_0))] (by rfl) rfl rfl (by (try simp only [List.map_toArray, List.map_cons, List.map_nil]); first | done | rfl | (simp only [List.length_drop, List.length_take]; rfl)) ?_
   with_reducible refine (vint_Num.calls k (IntKind.u64.wrap (a1_0)) t198 _ A5.out).mono ?_
   rintro e w41 ⟨v199, rfl, ho0, hb⟩
   refine ⟨_, rfl, ?_⟩
   have n0_ := A_ (Kd.R_lower ho0 (below_size (by repeat (first | (with_reducible first | exact HB.out | apply ba_ | apply bn_ | apply bd_ | refine bs_ ?_ GE196.out) | exact HB.out))))
   have n1_ := A_ (blk_below (g := gb196) (o := .cells #[.int .i64 a1_0, .int .i64 a1_1, .bool a1_2, .int .i64 a1_3, .string a1_4, .bool a1_5, .int .i64 a1_6, .string a1_7] 25 (0, 0)) (by (with_reducible repeat (first | refine kn_ ?_ _ | refine kd_ ?_ | refine ka_ ?_ _)); exact BK196.out) hb)
   have n2_ := A_ (bp_ (by repeat (first | (with_reducible first | exact HB.out | apply ba_ | apply bn_ | apply bd_ | refine bs_ ?_ GE196.out) | exact HB.out)) hb)
   clear BK196
   clear HB
   have HO200 := n0_
   have BK196 := n1_
   have HB := n2_
   clear n0_ n1_ n2_
   (try clear hb)
   (try clear hb2)
   (try clear hk)
   (try clear hi)
   (try clear ho0)
   (try clear A5)
   refine hK.out _ _ ⟨(bc_ BK196.out 0).trans rfl, (bc_ BK196.out 1).trans rfl, (bc_ BK196.out 2).trans rfl, (bc_ BK196.out 3).trans rfl, (bc_ BK196.out 4).trans rfl, (bc_ BK196.out 5).trans rfl, (bc_ BK196.out 6).trans rfl, (bc_ BK196.out 7).trans rfl⟩ (fun hHeld => ?_)
   clear hK K
   refine norm_ (a' := ?_) ?_ ?_
   rotate_left
   ·show Act.put _ (some 13) _ = _
    simp only [Act.put, setIfInBounds_toArray, set_cons_zero, set_cons_succ, i64_w, i32_w]
    rfl
   refine one_ (i := 7) (N := some 17) #[t_, t_, t_, t_, t_, t_, t_, t_, f_, f_, f_] rfl rfl (one_of HT_.out (by kernel_rfl)) (by decide) (fun K hK => ?_)
   refine goes_ Try.func45 (by kernel_rfl) rfl #[.int .u64 (IntKind.u64.wrap (a1_1))] (by rfl) rfl rfl (by (try simp only [List.map_toArray, List.map_cons, List.map_nil]); first | done | rfl | (simp only [List.length_drop, List.length_take]; rfl)) ?_
   with_reducible refine (vint_Num.calls k (IntKind.u64.wrap (a1_1)) t201 _ A6.out).mono ?_
   rintro e w42 ⟨v202, rfl, ho0, hb⟩
   refine ⟨_, rfl, ?_⟩
   have n0_ := A_ (Kd.R_elder' (by (with_reducible repeat (first | apply Kd.R_alloc | apply Kd.R_drewN | apply Kd.R_drew)); exact HO200.out) (Kd.R_base ho0) hb)
   have n1_ := A_ (Kd.R_lower (Kd.R_new' ho0 (Kd.R_lt (by (with_reducible repeat (first | apply Kd.R_alloc | apply Kd.R_drewN | apply Kd.R_drew)); exact HO200.out))) (below_size (by repeat (first | (with_reducible first | exact HB.out | apply ba_ | apply bn_ | apply bd_ | refine bs_ ?_ GE196.out) | exact HB.out))))
   have n2_ := A_ (blk_below (g := gb196) (o := .cells #[.int .i64 a1_0, .int .i64 a1_1, .bool a1_2, .int .i64 a1_3, .string a1_4, .bool a1_5, .int .i64 a1_6, .string a1_7] 25 (0, 0)) (by (with_reducible repeat (first | refine kn_ ?_ _ | refine kd_ ?_ | refine ka_ ?_ _)); exact BK196.out) hb)
   have n3_ := A_ (bp_ (by repeat (first | (with_reducible first | exact HB.out | apply ba_ | apply bn_ | apply bd_ | refine bs_ ?_ GE196.out) | exact HB.out)) hb)
   clear HO200
   clear BK196
   clear HB
   have HO200 := n0_
   have HO203 := n1_
   have BK196 := n2_
   have HB := n3_
   clear n0_ n1_ n2_ n3_
   (try clear hb)
   (try clear hb2)
   (try clear hk)
   (try clear hi)
   (try clear ho0)
   (try clear A6)
   obtain ⟨Ao43, co43, eo43⟩ := Kd.R_slice HO200.out
   (first | subst eo43 | (injection eo43 with f1_ f2_ f3_; have f4_ := f1_.symm; have f5_ := f3_.symm; clear f1_ f2_ f3_; subst f4_; subst f5_))
   obtain ⟨Ao44, co44, eo44⟩ := Kd.R_slice HO203.out
   (first | subst eo44 | (injection eo44 with f1_ f2_ f3_; have f4_ := f1_.symm; have f5_ := f3_.symm; clear f1_ f2_ f3_; subst f4_; subst f5_))
   refine hK.out _ _ ⟨(bc_ BK196.out 0).trans rfl, (bc_ BK196.out 1).trans rfl, (bc_ BK196.out 2).trans rfl, (bc_ BK196.out 3).trans rfl, (bc_ BK196.out 4).trans rfl, (bc_ BK196.out 5).trans rfl, (bc_ BK196.out 6).trans rfl, (bc_ BK196.out 7).trans rfl⟩ (fun hHeld => ?_)
   clear hK K
   refine norm_ (a' := ?_) ?_ ?_
   rotate_left
   ·show Act.put _ (some 17) _ = _
    simp only [Act.put, setIfInBounds_toArray, set_cons_zero, set_cons_succ, i64_w, i32_w]
    rfl
   refine one_ (i := 8) (N := some 18) #[t_, t_, t_, t_, t_, t_, t_, t_, t_, f_, f_] rfl rfl (one_of HT_.out (by kernel_rfl)) (by decide) (fun K hK => ?_)
   refine Kd.N_lit_step (Kd.slice 5 (Kd.int .u8)) _ 31 ?hg (N' := 18) ?hd (xs := ([t198, t201] : List (List Int))) (inner := [.slice Ao43 t198.length co43, .slice Ao44 t201.length co44]) (ok := (fun k_ => k_ ≠ gb196)) (okp := (fun k_ => k_ ≠ gb196)) ?hr ?hp (fun _ hk => hk) ((show ∀ k_, w42.heap.size ≤ k_ → (fun k_ => k_ ≠ gb196) k_ from fun k_ hk => Kd.freshB (g := gb196) (o := .cells #[.int .i64 a1_0, .int .i64 a1_1, .bool a1_2, .int .i64 a1_3, .string a1_4, .bool a1_5, .int .i64 a1_6, .string a1_7] 25 (0, 0)) (by (with_reducible repeat (first | refine kn_ ?_ _ | refine kd_ ?_ | refine ka_ ?_ _)); exact BK196.out) k_ hk) _ (Nat.le_refl _)) (Below.refl _ _) (Nat.le_refl _) (by simp) ?_; (case hd => rfl); (case hg => rfl); (case hr => first | (go_simp; done) | (go_simp; rfl)); (case hp => exact (Reps.one (show Kd.FK (Kd.slice 5 (Kd.int .u8)) _ _ t198 [.slice Ao43 t198.length co43] from (Kd.FK_slice_mk (Kd.R_reads' (Kd.R_mono (ok' := (fun k_ => k_ ≠ gb196)) (Kd.R_types (HO200.out) BK196.out (by decide)) (fun k_ hk => hk.2))).2.1 (Kd.R_F (Kd.R_mono (ok' := (fun k_ => k_ ≠ gb196)) (Kd.R_types (HO200.out) BK196.out (by decide)) (fun k_ hk => hk.2))))) (Reps.one (show Kd.FK (Kd.slice 5 (Kd.int .u8)) _ _ t201 [.slice Ao44 t201.length co44] from (Kd.FK_slice_mk (Kd.R_reads' (Kd.R_mono (ok' := (fun k_ => k_ ≠ gb196)) (Kd.R_types (HO203.out) BK196.out (by decide)) (fun k_ hk => hk.2))).2.1 (Kd.R_F (Kd.R_mono (ok' := (fun k_ => k_ ≠ gb196)) (Kd.R_types (HO203.out) BK196.out (by decide)) (fun k_ hk => hk.2))))) (Reps.none _ _))))
   intro v205 w45 ho46 hb hg_ hnew_
   clear hg_ hnew_
   (first | rw [← Ny204.out] at ho46 | (simp only [Int.reduceToNat] at ho46; rw [← Ny204.out] at ho46))
   have n0_ := A_ (Kd.N_lower ho46 (below_size (by repeat (first | (with_reducible first | exact HB.out | apply ba_ | apply bn_ | apply bd_ | refine bs_ ?_ GE196.out) | exact HB.out))))
   have n1_ := A_ (blk_below (g := gb196) (o := .cells #[.int .i64 a1_0, .int .i64 a1_1, .bool a1_2, .int .i64 a1_3, .string a1_4, .bool a1_5, .int .i64 a1_6, .string a1_7] 25 (0, 0)) (by (with_reducible repeat (first | refine kn_ ?_ _ | refine kd_ ?_ | refine ka_ ?_ _)); exact BK196.out) hb)
   have n2_ := A_ (bp_ (by repeat (first | (with_reducible first | exact HB.out | apply ba_ | apply bn_ | apply bd_ | refine bs_ ?_ GE196.out) | exact HB.out)) hb)
   clear BK196
   clear HB
   clear HO200
   clear HO203
   have HO206 := n0_
   have BK196 := n1_
   have HB := n2_
   clear n0_ n1_ n2_
   clear hb ho46
   obtain ⟨Ao47, co47, eo47⟩ := Kd.N_slice HO206.out
   (first | subst eo47 | (injection eo47 with f1_ f2_ f3_; have f4_ := f1_.symm; have f5_ := f3_.symm; clear f1_ f2_ f3_; subst f4_; subst f5_))
   refine hK.out _ _ ⟨(bc_ BK196.out 0).trans rfl, (bc_ BK196.out 1).trans rfl, (bc_ BK196.out 2).trans rfl, (bc_ BK196.out 3).trans rfl, (bc_ BK196.out 4).trans rfl, (bc_ BK196.out 5).trans rfl, (bc_ BK196.out 6).trans rfl, (bc_ BK196.out 7).trans rfl⟩ (fun hHeld => ?_)
   clear hK K
   refine norm_ (a' := ?_) ?_ ?_
   rotate_left
   ·show Act.put _ (some 18) _ = _
    simp only [Act.put, setIfInBounds_toArray, set_cons_zero, set_cons_succ, i64_w, i32_w]
    rfl
   refine one_ (i := 9) (N := some 19) #[t_, t_, t_, t_, t_, t_, t_, t_, t_, t_, f_] rfl rfl (one_of HT_.out (by kernel_rfl)) (by decide) (fun K hK => ?_)
   refine goes_ Try.func91 (by kernel_rfl) rfl #[.slice Ao47 y204.length co47] (by rfl) rfl rfl (by (try simp only [List.map_toArray, List.map_cons, List.map_nil]); first | done | rfl | (simp only [List.length_drop, List.length_take]; rfl)) ?_
   with_reducible refine (slices_Concat_byte.calls _ _ y204 t207 _ ?side1 ?side2 A7.out).mono ?_
   (case side1 => repeat (first | exact (Kd.N_reads' HO206.out).2.2 | (with_reducible refine Kd.C_alloc ?_ _) | (with_reducible refine Kd.C_drewN ?_ _) | (with_reducible refine Kd.C_drew ?_)))
   (case side2 => exact (Kd.N_reads' HO206.out).2.1)
   rintro e w48 ⟨v208, rfl, ho0, hb⟩
   refine ⟨_, rfl, ?_⟩
   have n0_ := A_ (Kd.N_elder' (by (with_reducible repeat (first | apply Kd.N_alloc | apply Kd.N_drewN | apply Kd.N_drew)); exact HO206.out) (Kd.R_base ho0) hb)
   have n1_ := A_ (Kd.R_lower ho0 (below_size (by repeat (first | (with_reducible first | exact HB.out | apply ba_ | apply bn_ | apply bd_ | refine bs_ ?_ GE196.out) | exact HB.out))))
   have n2_ := A_ (blk_below (g := gb196) (o := .cells #[.int .i64 a1_0, .int .i64 a1_1, .bool a1_2, .int .i64 a1_3, .string a1_4, .bool a1_5, .int .i64 a1_6, .string a1_7] 25 (0, 0)) (by (with_reducible repeat (first | refine kn_ ?_ _ | refine kd_ ?_ | refine ka_ ?_ _)); exact BK196.out) hb)
   have n3_ := A_ (bp_ (by repeat (first | (with_reducible first | exact HB.out | apply ba_ | apply bn_ | apply bd_ | refine bs_ ?_ GE196.out) | exact HB.out)) hb)
   clear HO206
   clear BK196
   clear HB
   have HO206 := n0_
   have HO209 := n1_
   have BK196 := n2_
   have HB := n3_
   clear n0_ n1_ n2_ n3_
   (try clear hb)
   (try clear hb2)
   (try clear hk)
   (try clear hi)
   (try clear ho0)
   (try clear A7)
   refine hK.out _ _ ⟨(bc_ BK196.out 0).trans rfl, (bc_ BK196.out 1).trans rfl, (bc_ BK196.out 2).trans rfl, (bc_ BK196.out 3).trans rfl, (bc_ BK196.out 4).trans rfl, (bc_ BK196.out 5).trans rfl, (bc_ BK196.out 6).trans rfl, (bc_ BK196.out 7).trans rfl⟩ (fun hHeld => ?_)
   clear hK K
   refine norm_ (a' := ?_) ?_ ?_
   rotate_left
   ·show Act.put _ (some 19) _ = _
    simp only [Act.put, setIfInBounds_toArray, set_cons_zero, set_cons_succ, i64_w, i32_w]
    rfl
   refine pure_ (i := 10) (N := some 5) (v := ?_) (a' := ?_) #[t_, t_, t_, t_, t_, t_, t_, t_, t_, t_, t_] rfl rfl (any_of HT_.out (by kernel_rfl)) (fun _ _ _ h => h) (Or.inl ⟨by rfl, ?_⟩) ?_ ?_
   rotate_left
   ·intro w'
    go_simp
    with_reducible rfl
   rotate_left
   ·simp only [Act.put, setIfInBounds_toArray, set_cons_zero, set_cons_succ, i64_w, i32_w]
    rfl
   refine done_ (done_of HT_.out (by kernel_rfl)) ?_
   have hcz49_0 : w48.cell? ⟨gb196, 0, none⟩ = some (.int .i64 a1_0) := (bc_ BK196.out 0).trans rfl
   have hcz49_1 : w48.cell? ⟨gb196, 1, none⟩ = some (.int .i64 a1_1) := (bc_ BK196.out 1).trans rfl
   have hcz49_2 : w48.cell? ⟨gb196, 2, none⟩ = some (.bool a1_2) := (bc_ BK196.out 2).trans rfl
   have hcz49_3 : w48.cell? ⟨gb196, 3, none⟩ = some (.int .i64 a1_3) := (bc_ BK196.out 3).trans rfl
   have hcz49_4 : w48.cell? ⟨gb196, 4, none⟩ = some (.string a1_4) := (bc_ BK196.out 4).trans rfl
   have hcz49_5 : w48.cell? ⟨gb196, 5, none⟩ = some (.bool a1_5) := (bc_ BK196.out 5).trans rfl
   have hcz49_6 : w48.cell? ⟨gb196, 6, none⟩ = some (.int .i64 a1_6) := (bc_ BK196.out 6).trans rfl
   have hcz49_7 : w48.cell? ⟨gb196, 7, none⟩ = some (.string a1_7) := (bc_ BK196.out 7).trans rfl
   have hfz49_0 := bf_ BK196.out 0
   have hfz49_1 := bf_ BK196.out 1
   have hfz49_2 := bf_ BK196.out 2
   have hfz49_3 := bf_ BK196.out 3
   have hfz49_4 := bf_ BK196.out 4
   have hfz49_5 := bf_ BK196.out 5
   have hfz49_6 := bf_ BK196.out 6
   have hfz49_7 := bf_ BK196.out 7
   try go_wp2_with (first | ((with_reducible refine gate_callee (f := 72) rfl ?_); refine goesL_ (some 21) rfl rfl Try.func72 (by kernel_rfl) rfl #[.agg #[.int .i64 a1_0, .int .i64 a1_1, .bool a1_2, .int .i64 a1_3, .string a1_4, .bool a1_5, .int .i64 a1_6, .string a1_7]] rfl (by (try simp only [List.map_toArray, List.map_cons, List.map_nil]); first | done | rfl | (simp only [List.length_drop, List.length_take]; rfl)) ?_; (with_reducible refine (zone_some.calls a1_0 a1_1 a1_2 a1_3 a1_4 a1_5 a1_6 a1_7 false _ A8.out).mono ?_); rintro e w50 ⟨rfl, hb⟩; refine ⟨_, rfl, ?_⟩; have n0_ := A_ (Kd.N_below (by (with_reducible repeat (first | apply Kd.N_alloc | apply Kd.N_drewN | apply Kd.N_drew)); exact HO206.out) hb); have n1_ := A_ (Kd.R_below (by (with_reducible repeat (first | apply Kd.R_alloc | apply Kd.R_drewN | apply Kd.R_drew)); exact HO209.out) hb); have n2_ := A_ (blk_below (g := gb196) (o := .cells #[.int .i64 a1_0, .int .i64 a1_1, .bool a1_2, .int .i64 a1_3, .string a1_4, .bool a1_5, .int .i64 a1_6, .string a1_7] 25 (0, 0)) (by (with_reducible repeat (first | refine kn_ ?_ _ | refine kd_ ?_ | refine ka_ ?_ _)); exact BK196.out) hb); have n3_ := A_ (bp_ (by repeat (first | (with_reducible first | exact HB.out | apply ba_ | apply bn_ | apply bd_ | refine bs_ ?_ GE196.out) | exact HB.out)) hb); clear HO206; clear HO209; clear BK196; clear HB; have HO206 := n0_; have HO209 := n1_; have BK196 := n2_; have HB := n3_; clear n0_ n1_ n2_ n3_; (try clear hb); (try clear hb2); (try clear hk); (try clear hi)))
   go_ret
   exact ⟨_, by first | rfl | (simp [errW_none, errW_some] <;> rfl) | (simp [*, errW_none, errW_some] <;> rfl), by (with_reducible repeat (first | apply Kd.R_alloc | apply Kd.R_drewN | apply Kd.R_drew)); exact HO209.out, by repeat (first | (with_reducible first | exact HB.out | apply ba_ | apply bn_ | apply bd_ | refine bs_ ?_ GE196.out) | exact HB.out)⟩
 ·replace c4 := Bool.eq_false_iff.mpr c4
  subst c4
  have H1 : (some ([] : List Int)) = some r := by rw [if_neg (show ¬ (false = true) by decide)] at H; exact H
  clear H
  have H := H1
  clear H1
  obtain rfl := Option.some.inj H
  go_enter Try.func68, Try.ntmps68
  go_wp2_with (first | ((with_reducible refine gate_dst (N := 3) rfl ?_); refine box_event ?hg (N := 3) ?hd (cs := #[.int .i64 a1_0, .int .i64 a1_1, .bool a1_2, .int .i64 a1_3, .string a1_4, .bool a1_5, .int .i64 a1_6, .string a1_7]) (t := 25) ?hr ?_; (case hd => rfl); (case hg => rfl); (case hr => first | (go_simp; done) | (go_simp; rfl)); intro gb196 hg w51 hbox hb; have n0_ := A_ (bp_ (by repeat (first | (with_reducible first | exact HB.out | apply ba_ | apply bn_ | apply bd_) | exact HB.out)) hb); have n1_ := A_ (hbox); have n2_ := A_ ((by rw [hg]; exact (below_size (by repeat (first | (with_reducible first | exact HB.out | apply ba_ | apply bn_ | apply bd_) | exact HB.out))) : w.heap.size ≤ gb196)); have n3_ := A_ ((by rw [hg]; exact (below_size (by repeat (first | (with_reducible first | exact HB.out | apply ba_ | apply bn_ | apply bd_) | exact HB.out))) : w.heap.size ≤ gb196)); clear HB; have HB := n0_; have BK196 := n1_; have GW196 := n2_; have GE196 := n3_; clear n0_ n1_ n2_ n3_; clear hb hbox hg; have hcz52_0 : w51.cell? ⟨gb196, 0, none⟩ = some (.int .i64 a1_0) := (bc_ BK196.out 0).trans rfl; have hcz52_1 : w51.cell? ⟨gb196, 1, none⟩ = some (.int .i64 a1_1) := (bc_ BK196.out 1).trans rfl; have hcz52_2 : w51.cell? ⟨gb196, 2, none⟩ = some (.bool a1_2) := (bc_ BK196.out 2).trans rfl; have hcz52_3 : w51.cell? ⟨gb196, 3, none⟩ = some (.int .i64 a1_3) := (bc_ BK196.out 3).trans rfl; have hcz52_4 : w51.cell? ⟨gb196, 4, none⟩ = some (.string a1_4) := (bc_ BK196.out 4).trans rfl; have hcz52_5 : w51.cell? ⟨gb196, 5, none⟩ = some (.bool a1_5) := (bc_ BK196.out 5).trans rfl; have hcz52_6 : w51.cell? ⟨gb196, 6, none⟩ = some (.int .i64 a1_6) := (bc_ BK196.out 6).trans rfl; have hcz52_7 : w51.cell? ⟨gb196, 7, none⟩ = some (.string a1_7) := (bc_ BK196.out 7).trans rfl; have hfz52_0 := bf_ BK196.out 0; have hfz52_1 := bf_ BK196.out 1; have hfz52_2 := bf_ BK196.out 2; have hfz52_3 := bf_ BK196.out 3; have hfz52_4 := bf_ BK196.out 4; have hfz52_5 := bf_ BK196.out 5; have hfz52_6 := bf_ BK196.out 6; have hfz52_7 := bf_ BK196.out 7) | ((with_reducible refine gate_callee (f := 16) rfl ?_); refine goesL_ (some 8) rfl rfl Try.func16 (by kernel_rfl) rfl #[.int .i64 a0, .agg #[.int .i64 a1_0, .int .i64 a1_1, .bool a1_2, .int .i64 a1_3, .string a1_4, .bool a1_5, .int .i64 a1_6, .string a1_7]] rfl (by (try simp only [List.map_toArray, List.map_cons, List.map_nil]); first | done | rfl | (simp only [List.length_drop, List.length_take]; rfl)) ?_; (with_reducible refine (zone_May.calls k a0 a1_0 a1_1 a1_2 a1_3 a1_4 a1_5 a1_6 a1_7 false _ A3.out).mono ?_); rintro e w53 ⟨rfl, hb⟩; refine ⟨_, rfl, ?_⟩; have n0_ := A_ (blk_below (g := gb196) (o := .cells #[.int .i64 a1_0, .int .i64 a1_1, .bool a1_2, .int .i64 a1_3, .string a1_4, .bool a1_5, .int .i64 a1_6, .string a1_7] 25 (0, 0)) (by (with_reducible repeat (first | refine kn_ ?_ _ | refine kd_ ?_ | refine ka_ ?_ _)); exact BK196.out) hb); have n1_ := A_ (bp_ (by repeat (first | (with_reducible first | exact HB.out | apply ba_ | apply bn_ | apply bd_ | refine bs_ ?_ GE196.out) | exact HB.out)) hb); clear BK196; clear HB; have BK196 := n0_; have HB := n1_; clear n0_ n1_; (try clear hb); (try clear hb2); (try clear hk); (try clear hi)))
  go_ret
  exact ⟨_, by first | rfl | (simp [errW_none, errW_some] <;> rfl) | (simp [*, errW_none, errW_some] <;> rfl), by first | exact Kd.R_nil _ _ _ _ _ | exact Kd.N_nil _ _ _ _ _ | exact Kd.V_nil _ _ _ _ _ | exact Kd.Q_nil _ _ _ _ _ | exact Kd.S_nil _ _ _ _ _, by repeat (first | (with_reducible first | exact HB.out | apply ba_ | apply bn_ | apply bd_ | refine bs_ ?_ GE196.out) | exact HB.out)⟩

end Go.Proofs.Ytkdlfejokahohaa.X
namespace Go.Proofs.Ytkdlfejokahohaa.X
open Go.RowKit Go.Proofs.YtkdlfejokahohaaW.PrintWords Go.Proofs.YtkdlfejokahohaaW.PrintLast Go.Proofs.YtkdlfejokahohaaW.PrintMore
attribute [local go_sem] max2_int min2_int max_two min_two max_three min_three max_four min_four   -- for this text's walks alone
set_option linter.unusedVariables false
open List (setIfInBounds_toArray set_cons_zero set_cons_succ)
set_option linter.unusedSimpArgs false

theorem eqA25 (d : Nat) (w : World) (x0 y0 : Int) (x1 y1 : Int) (x2 y2 : Bool) (x3 y3 : Int) (x4 y4 : ByteArray) (x5 y5 : Bool) (x6 y6 : Int) (x7 y7 : ByteArray) :
  (Op.equalIn (d + 3) 25 (.agg #[.int .i64 x0, .int .i64 x1, .bool x2, .int .i64 x3, .string x4, .bool x5, .int .i64 x6, .string x7]) (.agg #[.int .i64 y0, .int .i64 y1, .bool y2, .int .i64 y3, .string y4, .bool y5, .int .i64 y6, .string y7])).run Try.prog w = .ok (x0 == y0 && (x1 == y1 && ((x2 == y2 && (x3 == y3 && (x4.toList == y4.toList))) && ((x5 == y5 && (x6 == y6 && (x7.toList == y7.toList))))))) w := by
 refine eqA_of Try.underlying25 (by kernel_rfl) ?_
 refine eqf_cons (by rfl) (by go_simp; rfl) (by go_simp; rfl) (by go_simp) ?_
 refine eqf_cons (by rfl) (by go_simp; rfl) (by go_simp; rfl) (by go_simp) ?_
 refine eqf_cons (by rfl) (by go_simp) (by go_simp) (eqA23 (d + 0) w _ _ _ _ _ _) ?_
 exact eqf_last (by rfl) (by go_simp) (by go_simp) (eqA23 (d + 0) w _ _ _ _ _ _)
end Go.Proofs.Ytkdlfejokahohaa.X
/- Cells, plain law: their order; the code's. -/
namespace Go.Proofs.Ytkdlfejokahohaa.CellPlain
open Go Go.RowKit Go.Proofs.Ytkdlfejokahohaa.X Go.Proofs.Ytkdlfejokahohaa.Dec Go.Proofs.YtkdlfejokahohaaW.PrintWords Go.Proofs.YtkdlfejokahohaaW.PrintLast Go.Proofs.YtkdlfejokahohaaW.PrintMore
set_option linter.unusedVariables false
set_option linter.unusedSimpArgs false
/-- -1, 0 or 1: how two texts stand to each other. -/
def ordT (a b : List UInt8) : Int := if Op.bytesLess a b = true then -1 else if Op.bytesLess b a = true then 1 else 0
def ordI (a b : Int) : Int := if a < b then -1 else if b < a then 1 else 0
/-- The order of two cells. -/
def ordC (a0 : Bool) (a1 : Int) (a2 : ByteArray) (b0 : Bool) (b1 : Int) (b2 : ByteArray) : Int :=
 if a0 ≠ b0 then (if a0 = true then -1 else 1) else if ordI a1 b1 ≠ 0 then ordI a1 b1 else ordT a2.toList b2.toList
theorem bytesLess_irrefl : ∀ a : List UInt8, Op.bytesLess a a = false
 | [] => rfl
 | a :: x => by simp only [Op.bytesLess]; have := bytesLess_irrefl x; simp [this]
theorem or_three (x y z : Int) (k : Nat) (hk : 4 < k) : cmp_Or_int.f k [x, y, z] = some (if x ≠ 0 then x else if y ≠ 0 then y else z) := by
 obtain ⟨k, rfl⟩ : ∃ m, k = m + 4 := ⟨k - 4, by omega⟩
 unfold cmp_Or_int.f
 have e0 : rd [x, y, z] 0 = x := rfl
 have e1 : rd [x, y, z] 1 = y := rfl
 have e2 : rd [x, y, z] 2 = z := rfl
 have w0 : wrap64 (0 + 1) = 1 := by decide +kernel
 have w1 : wrap64 (1 + 1) = 2 := by decide +kernel
 have w2 : wrap64 (2 + 1) = 3 := by decide +kernel
 have hl : (([x, y, z] : List Int).length : Int) = 3 := rfl
 rw [cmp_Or_int.l0, hl, if_pos (by decide), if_pos (by decide), if_pos (by decide), e0]
 by_cases hx : x = 0
 ·rw [if_pos hx, w0, cmp_Or_int.l0, hl, if_pos (by decide), if_pos (by decide), if_pos (by decide), e1]
  by_cases hy : y = 0
  ·rw [if_pos hy, w1, cmp_Or_int.l0, hl, if_pos (by decide), if_pos (by decide), if_pos (by decide), e2]
   by_cases hz : z = 0
   ·rw [if_pos hz, w2, cmp_Or_int.l0, if_neg (by decide)]
    simp [hx, hy, hz]
   ·rw [if_neg hz]
    simp [hx, hy]
  ·rw [if_neg hy]
   simp [hx, hy]
 ·rw [if_neg hx]
  simp [hx]
theorem cmp_i (a b : Int) : cmp_Compare_int.f a b = some (ordI a b) := by
 unfold cmp_Compare_int.f cmp_isNaN_int.f ordI
 simp
 split
 ·rfl
 ·split <;> rfl
theorem cmp_i64 (a b : Int) : cmp_Compare_int64.f a b = some (ordI a b) := by
 unfold cmp_Compare_int64.f cmp_isNaN_int64.f ordI
 simp
 split
 ·rfl
 ·split <;> rfl
theorem cmp_s (a b : ByteArray) : cmp_Compare_string.f a b = some (ordT a.toList b.toList) := by
 unfold cmp_Compare_string.f cmp_isNaN_string.f ordT
 simp
 split
 ·rfl
 ·split <;> rfl
theorem order_is (a0 : Bool) (a1 : Int) (a2 : ByteArray) (b0 : Bool) (b1 : Int) (b2 : ByteArray) (k : Nat) (hk : 4 < k) : cell_Order.f k a0 a1 a2 b0 b1 b2 = some (ordC a0 a1 a2 b0 b1 b2) := by
 unfold cell_Order.f
 have hf : ∀ (x : Bool) (y : Int) (z : ByteArray), cell_flag.f x y z = some (if x = true then 0 else 1) := fun x y z => by unfold cell_flag.f; split <;> rfl
 rw [hf, Option.bind_some, hf, Option.bind_some, cmp_i, Option.bind_some, cmp_i64, Option.bind_some, cmp_s, Option.bind_some, or_three _ _ _ k hk, Option.bind_some]
 unfold ordC
 cases a0 <;> cases b0 <;> simp [ordI]
end Go.Proofs.Ytkdlfejokahohaa.CellPlain
/- The contracts of what zone.noted hands back, and of zone.Of: cells' zone. -/
namespace Go.Proofs.Ytkdlfejokahohaa.X
open Go.RowKit Go.Proofs.Ytkdlfejokahohaa.CellPlain Go.Proofs.YtkdlfejokahohaaW.PrintWords Go.Proofs.YtkdlfejokahohaaW.PrintLast Go.Proofs.YtkdlfejokahohaaW.PrintMore
set_option linter.unusedVariables false
set_option linter.unusedSimpArgs false
def zone_sm.f (a0_0 : Int) (a0_1 : Int) (a0_2 : Bool) (a0_3 : Int) (a0_4 : ByteArray) (a0_5 : Bool) (a0_6 : Int) (a0_7 : ByteArray) : Option (Bool) := some (decide (a0_0 > a0_1))
set_option maxHeartbeats 8000000 in
set_option maxRecDepth 100000 in
theorem zone_sm.calls (a0_0 : Int) (a0_1 : Int) (a0_2 : Bool) (a0_3 : Int) (a0_4 : ByteArray) (a0_5 : Bool) (a0_6 : Int) (a0_7 : ByteArray) (r : Bool) (w : World) (h : zone_sm.f a0_0 a0_1 a0_2 a0_3 a0_4 a0_5 a0_6 a0_7 = some r) :
  Calls Try.prog 72 #[.agg #[.int .i64 a0_0, .int .i64 a0_1, .bool a0_2, .int .i64 a0_3, .string a0_4, .bool a0_5, .int .i64 a0_6, .string a0_7]] w fun e w' => e = .returned (.bool r) ∧ Below w.heap.size w w' := by
 have hu25 := Try.underlying25
 have HB := Aside0.mk (Below.refl w.heap.size w)
 have H : (some (decide (a0_0 > a0_1))) = some r := h
 clear h
 obtain rfl := Option.some.inj H
 go_enter Try.func72, Try.ntmps72
 go_wp2_with (first | ((with_reducible refine gate_dst (N := 1) rfl ?_); refine box_event ?hg (N := 1) ?hd (cs := #[.int .i64 a0_0, .int .i64 a0_1, .bool a0_2, .int .i64 a0_3, .string a0_4, .bool a0_5, .int .i64 a0_6, .string a0_7]) (t := 25) ?hr ?_; (case hd => rfl); (case hg => rfl); (case hr => first | (go_simp; done) | (go_simp; rfl)); intro gb662 hg w2 hbox hb; have n0_ := Aside0.mk (below_step (by repeat (first | (with_reducible first | exact HB.out | apply below_alloc | apply pw_below_drewN | apply below_drew1) | exact HB.out)) hb); have n1_ := Aside0.mk (hbox); have n2_ := Aside0.mk ((by rw [hg]; exact (below_size (by repeat (first | (with_reducible first | exact HB.out | apply below_alloc | apply pw_below_drewN | apply below_drew1) | exact HB.out))) : w.heap.size ≤ gb662)); have n3_ := Aside0.mk ((by rw [hg]; exact (below_size (by repeat (first | (with_reducible first | exact HB.out | apply below_alloc | apply pw_below_drewN | apply below_drew1) | exact HB.out))) : w.heap.size ≤ gb662)); clear HB; have HB := n0_; have BK662 := n1_; have GW662 := n2_; have GE662 := n3_; clear n0_ n1_ n2_ n3_; clear hb hbox hg; have hcz3_0 : w2.cell? ⟨gb662, 0, none⟩ = some (.int .i64 a0_0) := (blk_cell BK662.out 0).trans rfl; have hcz3_1 : w2.cell? ⟨gb662, 1, none⟩ = some (.int .i64 a0_1) := (blk_cell BK662.out 1).trans rfl; have hcz3_2 : w2.cell? ⟨gb662, 2, none⟩ = some (.bool a0_2) := (blk_cell BK662.out 2).trans rfl; have hcz3_3 : w2.cell? ⟨gb662, 3, none⟩ = some (.int .i64 a0_3) := (blk_cell BK662.out 3).trans rfl; have hcz3_4 : w2.cell? ⟨gb662, 4, none⟩ = some (.string a0_4) := (blk_cell BK662.out 4).trans rfl; have hcz3_5 : w2.cell? ⟨gb662, 5, none⟩ = some (.bool a0_5) := (blk_cell BK662.out 5).trans rfl; have hcz3_6 : w2.cell? ⟨gb662, 6, none⟩ = some (.int .i64 a0_6) := (blk_cell BK662.out 6).trans rfl; have hcz3_7 : w2.cell? ⟨gb662, 7, none⟩ = some (.string a0_7) := (blk_cell BK662.out 7).trans rfl; have hfz3_0 := blk_frozen BK662.out 0; have hfz3_1 := blk_frozen BK662.out 1; have hfz3_2 := blk_frozen BK662.out 2; have hfz3_3 := blk_frozen BK662.out 3; have hfz3_4 := blk_frozen BK662.out 4; have hfz3_5 := blk_frozen BK662.out 5; have hfz3_6 := blk_frozen BK662.out 6; have hfz3_7 := blk_frozen BK662.out 7))
 go_ret
 exact ⟨by first | rfl | (simp [errW_none, errW_some] <;> rfl) | (simp [*, errW_none, errW_some] <;> rfl), by repeat (first | (with_reducible first | exact HB.out | apply below_alloc | apply pw_below_drewN | apply below_drew1 | refine below_set ?_ GE662.out) | exact HB.out)⟩
/-- A zone with one cell more. -/
def noteR (z0 z1 : Int) (lo hi c : S23) : Int × Int × S23 × S23 :=
 if c.f0 = true then (z0 + 1, z1 + 1, lo, hi)
 else if z0 ≤ z1 then (z0 + 1, z1, c, c)
 else if ordC c.f0 c.f1 c.f2 lo.f0 lo.f1 lo.f2 < 0 then (z0 + 1, z1, c, hi)
 else if 0 < ordC c.f0 c.f1 c.f2 hi.f0 hi.f1 hi.f2 then (z0 + 1, z1, lo, c)
 else (z0 + 1, z1, lo, hi)
def zc (z : Int × Int × S23 × S23) : Array Value := #[.int .i64 z.1, .int .i64 z.2.1, .bool z.2.2.1.f0, .int .i64 z.2.2.1.f1, .string z.2.2.1.f2, .bool z.2.2.2.f0, .int .i64 z.2.2.2.f1, .string z.2.2.2.f2]
theorem set_one (w : World) (g i : Nat) (arr arr' : Array Value) (t : TypeId) (v : Value) (h : w.heap[g]? = some (.cells arr t (0, 0))) (he : arr.set! i v = arr') : (w.setCell ⟨g, i, none⟩ v).heap[g]? = some (.cells arr' t (0, 0)) := by
 rw [← he]; simpa using blk_set h i v
theorem set_seven (w : World) (g : Nat) (a0 a1 a2 a3 a4 a5 a6 a7 v0 v2 v3 v4 v5 v6 v7 : Value) (t : TypeId) (h : w.heap[g]? = some (.cells #[a0, a1, a2, a3, a4, a5, a6, a7] t (0, 0))) :
  (((((((w.setCell ⟨g, 0, none⟩ v0).setCell ⟨g, 2, none⟩ v2).setCell ⟨g, 3, none⟩ v3).setCell ⟨g, 4, none⟩ v4).setCell ⟨g, 5, none⟩ v5).setCell ⟨g, 6, none⟩ v6).setCell ⟨g, 7, none⟩ v7).heap[g]? = some (.cells #[v0, a1, v2, v3, v4, v5, v6, v7] t (0, 0)) := by
 refine set_one _ g 7 #[v0, a1, v2, v3, v4, v5, v6, a7] _ t v7 ?_ rfl
 refine set_one _ g 6 #[v0, a1, v2, v3, v4, v5, a6, a7] _ t v6 ?_ rfl
 refine set_one _ g 5 #[v0, a1, v2, v3, v4, a5, a6, a7] _ t v5 ?_ rfl
 refine set_one _ g 4 #[v0, a1, v2, v3, a4, a5, a6, a7] _ t v4 ?_ rfl
 refine set_one _ g 3 #[v0, a1, v2, a3, a4, a5, a6, a7] _ t v3 ?_ rfl
 refine set_one _ g 2 #[v0, a1, a2, a3, a4, a5, a6, a7] _ t v2 ?_ rfl
 exact set_one _ g 0 #[a0, a1, a2, a3, a4, a5, a6, a7] _ t v0 h rfl
theorem set_seven' (w : World) (g : Nat) (a0 a1 a2 a3 a4 a5 a6 a7 v0 v2 v3 v4 v5 v6 v7 : Value) (t : TypeId) (h : w.heap[g]? = some (.cells #[a0, a1, a2, a3, a4, a5, a6, a7] t (0, 0))) :
  (((((((w.setCell ⟨g, 0, none⟩ v0).setCell ⟨g, 2, none⟩ v2).setCell ⟨g, 3, none⟩ v3).setCell ⟨g, 4, none⟩ v4).setCell ⟨g, 5, none⟩ v5).setCell ⟨g, 6, none⟩ v6).setCell ⟨g, 7, none⟩ v7).drew.heap[g]? = some (.cells #[v0, a1, v2, v3, v4, v5, v6, v7] t (0, 0)) := by
 rw [show ∀ W : World, W.drew.heap = W.heap from fun _ => rfl]
 exact set_seven w g a0 a1 a2 a3 a4 a5 a6 a7 v0 v2 v3 v4 v5 v6 v7 t h
theorem set_four (w : World) (g n : Nat) (a0 a1 a2 a3 a4 a5 a6 a7 v0 v2 v3 v4 : Value) (t : TypeId) (h : w.heap[g]? = some (.cells #[a0, a1, a2, a3, a4, a5, a6, a7] t (0, 0))) :
  (((w.setCell ⟨g, 2, none⟩ v2).setCell ⟨g, 3, none⟩ v3).setCell ⟨g, 4, none⟩ v4).heap[g]? = some (.cells #[a0, a1, v2, v3, v4, a5, a6, a7] t (0, 0)) := by
 refine set_one _ g 4 #[a0, a1, v2, v3, a4, a5, a6, a7] _ t v4 ?_ rfl
 refine set_one _ g 3 #[a0, a1, v2, a3, a4, a5, a6, a7] _ t v3 ?_ rfl
 exact set_one _ g 2 #[a0, a1, a2, a3, a4, a5, a6, a7] _ t v2 h rfl
theorem set_high (w : World) (g n : Nat) (a0 a1 a2 a3 a4 a5 a6 a7 v5 v6 v7 : Value) (t : TypeId) (h : w.heap[g]? = some (.cells #[a0, a1, a2, a3, a4, a5, a6, a7] t (0, 0))) :
  (((w.setCell ⟨g, 5, none⟩ v5).setCell ⟨g, 6, none⟩ v6).setCell ⟨g, 7, none⟩ v7).heap[g]? = some (.cells #[a0, a1, a2, a3, a4, v5, v6, v7] t (0, 0)) := by
 refine set_one _ g 7 #[a0, a1, a2, a3, a4, v5, v6, a7] _ t v7 ?_ rfl
 refine set_one _ g 6 #[a0, a1, a2, a3, a4, v5, a6, a7] _ t v6 ?_ rfl
 exact set_one _ g 5 #[a0, a1, a2, a3, a4, a5, a6, a7] _ t v5 h rfl
set_option maxHeartbeats 8000000 in
set_option maxRecDepth 100000 in
theorem zone_note.calls (gp gz : Nat) (z0 z1 : Int) (lo hi c : S23) (w : World) (hp : w.heap[gp]? = some (.cells #[.pointer (some ⟨gz, 0, none⟩)] 103 (0, 0))) (hz : w.heap[gz]? = some (.cells (zc (z0, z1, lo, hi)) 25 (0, 0))) (hne : gp ≠ gz) (wB : World) (hB : Below wB.heap.size wB w) (hBg : wB.heap.size ≤ gz)
  (hb0 : -9223372036854775808 ≤ z0 ∧ z0 < 9223372036854775807) (hb1 : -9223372036854775808 ≤ z1 ∧ z1 < 9223372036854775807) :
  Calls Try.prog 101 #[.agg #[.bool c.f0, .int .i64 c.f1, .string c.f2], .pointer (some ⟨gp, 0, none⟩)] w fun e w' => e = .returned (.tuple #[]) ∧ w'.heap[gz]? = some (.cells (zc (noteR z0 z1 lo hi c)) 25 (0, 0)) ∧ KeepBut w w' gz none ∧ Below wB.heap.size wB w' := by
 have hu1 := Try.underlying23
 have hu2 := Try.underlying25
 obtain ⟨l0, l1, l2⟩ := lo
 obtain ⟨h0, h1, h2⟩ := hi
 obtain ⟨c0, c1, c2⟩ := c
 simp only [zc] at hz
 have bkc := Mem.alloc_new w (.cells #[.bool c0, .int .i64 c1, .string c2] 23)
 have bkp := blk_alloc hp (.cells #[.bool c0, .int .i64 c1, .string c2] 23)
 have bkz := blk_alloc hz (.cells #[.bool c0, .int .i64 c1, .string c2] 23)
 have hK := keep_alloc (KeepBut.refl w gz none) (.cells #[.bool c0, .int .i64 c1, .string c2] 23)
 have HB := Aside0.mk (below_alloc hB (.cells #[.bool c0, .int .i64 c1, .string c2] 23))
 have hgp := blk_lt hp
 have hgz := blk_lt hz
 clear hp hz
 obtain ⟨bs, hbs⟩ : ∃ b_ : Bool, decide (z0 > z1) = b_ := ⟨_, rfl⟩
 have E1 := Lib.hid (show zone_sm.f z0 z1 l0 l1 l2 h0 h1 h2 = some (decide (z0 > z1)) from rfl)
 rw [hbs] at E1
 have HBS := Aside0.mk hbs
 clear hbs
 go_enter Try.func101, Try.ntmps101
 generalize hW : w.alloc (.cells #[.bool c0, .int .i64 c1, .string c2] 23) = W at bkc bkp bkz hK HB
 have HW := Lib.hid hW
 clear hW
 go_upto_region 1 with (fail)
 rw [HW.out]
 have p0 : W.cell? ⟨gp, 0, none⟩ = some (.pointer (some ⟨gz, 0, none⟩)) := (blk_cell bkp 0).trans rfl
 have a0 : W.cell? ⟨gz, 0, none⟩ = some (.int .i64 z0) := (blk_cell bkz 0).trans rfl
 have a1 : W.cell? ⟨gz, 1, none⟩ = some (.int .i64 z1) := (blk_cell bkz 1).trans rfl
 have a2 : W.cell? ⟨gz, 2, none⟩ = some (.bool l0) := (blk_cell bkz 2).trans rfl
 have a3 : W.cell? ⟨gz, 3, none⟩ = some (.int .i64 l1) := (blk_cell bkz 3).trans rfl
 have a4 : W.cell? ⟨gz, 4, none⟩ = some (.string l2) := (blk_cell bkz 4).trans rfl
 have a5 : W.cell? ⟨gz, 5, none⟩ = some (.bool h0) := (blk_cell bkz 5).trans rfl
 have a6 : W.cell? ⟨gz, 6, none⟩ = some (.int .i64 h1) := (blk_cell bkz 6).trans rfl
 have a7 : W.cell? ⟨gz, 7, none⟩ = some (.string h2) := (blk_cell bkz 7).trans rfl
 go_wp2_with fail
 refine (zone_sm.calls z0 z1 l0 l1 l2 h0 h1 h2 bs _ E1.out).mono ?_
 rintro e w2 ⟨rfl, b2⟩
 have bkc2 := blk_below bkc b2
 have bkp2 := blk_below bkp b2
 have bkz2 := blk_below bkz b2
 have HB2 := Aside0.mk (below_step HB.out b2)
 have HK2 := Aside0.mk (hK.trans (KeepBut.of_below b2 gz none) (.inl rfl))
 clear p0 a0 a1 a2 a3 a4 a5 a6 a7 bkc bkp bkz b2 hK HB hB
 have p0 : w2.cell? ⟨gp, 0, none⟩ = some (.pointer (some ⟨gz, 0, none⟩)) := (blk_cell bkp2 0).trans rfl
 have a0 : w2.cell? ⟨gz, 0, none⟩ = some (.int .i64 z0) := (blk_cell bkz2 0).trans rfl
 have a1 : w2.cell? ⟨gz, 1, none⟩ = some (.int .i64 z1) := (blk_cell bkz2 1).trans rfl
 have a2 : w2.cell? ⟨gz, 2, none⟩ = some (.bool l0) := (blk_cell bkz2 2).trans rfl
 have a3 : w2.cell? ⟨gz, 3, none⟩ = some (.int .i64 l1) := (blk_cell bkz2 3).trans rfl
 have a4 : w2.cell? ⟨gz, 4, none⟩ = some (.string l2) := (blk_cell bkz2 4).trans rfl
 have a5 : w2.cell? ⟨gz, 5, none⟩ = some (.bool h0) := (blk_cell bkz2 5).trans rfl
 have a6 : w2.cell? ⟨gz, 6, none⟩ = some (.int .i64 h1) := (blk_cell bkz2 6).trans rfl
 have a7 : w2.cell? ⟨gz, 7, none⟩ = some (.string h2) := (blk_cell bkz2 7).trans rfl
 have f0 := blk_frozen bkz2 0
 have f1 := blk_frozen bkz2 1
 have f2 := blk_frozen bkz2 2
 have f3 := blk_frozen bkz2 3
 have f4 := blk_frozen bkz2 4
 have f5 := blk_frozen bkz2 5
 have f6 := blk_frozen bkz2 6
 have f7 := blk_frozen bkz2 7
 have q0 : w2.cell? ⟨w.heap.size, 0, none⟩ = some (.bool c0) := (blk_cell bkc2 0).trans rfl
 have q1 : w2.cell? ⟨w.heap.size, 1, none⟩ = some (.int .i64 c1) := (blk_cell bkc2 1).trans rfl
 have q2 : w2.cell? ⟨w.heap.size, 2, none⟩ = some (.string c2) := (blk_cell bkc2 2).trans rfl
 have hgz2 : gz ≠ w.heap.size := by omega
 have hgp2 : gp ≠ w.heap.size := by omega
 have BKZ := Aside0.mk bkz2
 have BKP := Aside0.mk bkp2
 have BKC := Aside0.mk bkc2
 clear bkz2 bkp2 bkc2
 by_cases hc : c0 = true
 ·subst hc
  go_wp2_with fail
  go_end0
  refine ⟨rfl, ?_, (HK2.out.set_ 0 _).set_ 1 _, below_set (below_set HB2.out hBg) hBg⟩
  simp only [noteR, if_true, zc]
  simpa using blk_set (blk_set BKZ.out 0 (.int .i64 (z0 + 1))) 1 (.int .i64 (z1 + 1))
 have hc : c0 = false := by cases c0 with | true => exact absurd rfl hc | false => rfl
 subst hc
 cases bs with
 | false =>
  have hz01 : z0 ≤ z1 := by have := of_decide_eq_false HBS.out; omega
  go_upto_region 6 with (fail)
  go_region
  go_wp2_with fail
  go_end0
  refine ⟨rfl, ?_, ?_, below_drew (below_set (below_set (below_set (below_set (below_set (below_set (below_set HB2.out hBg) hBg) hBg) hBg) hBg) hBg) hBg)⟩
  ·simp only [noteR]
   rw [if_neg (by decide), if_pos hz01]
   refine Eq.trans (set_seven' w2 gz _ _ _ _ _ _ _ _ _ _ _ _ _ _ _ _ BKZ.out) ?_
   rfl
  ·exact keep_drew (((((((HK2.out.set_ 0 _).set_ 2 _).set_ 3 _).set_ 4 _).set_ 5 _).set_ 6 _).set_ 7 _)
 | true =>
  have hz01 : ¬ z0 ≤ z1 := by have := of_decide_eq_true HBS.out; omega
  obtain ⟨o1, ho1⟩ : ∃ o_ : Int, o_ = ordC false c1 c2 l0 l1 l2 := ⟨_, rfl⟩
  obtain ⟨o2, ho2⟩ : ∃ o_ : Int, o_ = ordC false c1 c2 h0 h1 h2 := ⟨_, rfl⟩
  have HO1 := Aside0.mk ho1
  have HO2 := Aside0.mk ho2
  clear ho1 ho2
  go_upto_region 7 with (fail)
  have BKZ7 := Aside0.mk (set_one w2 gz 0 _ #[.int .i64 (z0 + 1), .int .i64 z1, .bool l0, .int .i64 l1, .string l2, .bool h0, .int .i64 h1, .string h2] _ (.int .i64 (z0 + 1)) BKZ.out rfl)
  have BKP7 := Aside0.mk (blk_far BKP.out (p := ⟨gz, 0, none⟩) hne (.int .i64 (z0 + 1)))
  have BKC7 := Aside0.mk (blk_far BKC.out (p := ⟨gz, 0, none⟩) (Ne.symm hgz2) (.int .i64 (z0 + 1)))
  have HB7 := Aside0.mk (below_set (j := 0) (v := .int .i64 (z0 + 1)) HB2.out hBg)
  have HK7 := Aside0.mk (HK2.out.set_ 0 (.int .i64 (z0 + 1)))
  clear p0 a0 a1 a2 a3 a4 a5 a6 a7 f0 f1 f2 f3 f4 f5 f6 f7 q0 q1 q2 BKZ BKP BKC HK2 HB2 HW
  generalize w2.setCell ⟨gz, 0, none⟩ (.int .i64 (z0 + 1)) = w7 at BKZ7 BKP7 BKC7 HK7 HB7 ⊢
  have p0 : w7.cell? ⟨gp, 0, none⟩ = some (.pointer (some ⟨gz, 0, none⟩)) := (blk_cell BKP7.out 0).trans rfl
  have a0 : w7.cell? ⟨gz, 0, none⟩ = some (.int .i64 (z0 + 1)) := (blk_cell BKZ7.out 0).trans rfl
  have a1 : w7.cell? ⟨gz, 1, none⟩ = some (.int .i64 z1) := (blk_cell BKZ7.out 1).trans rfl
  have a2 : w7.cell? ⟨gz, 2, none⟩ = some (.bool l0) := (blk_cell BKZ7.out 2).trans rfl
  have a3 : w7.cell? ⟨gz, 3, none⟩ = some (.int .i64 l1) := (blk_cell BKZ7.out 3).trans rfl
  have a4 : w7.cell? ⟨gz, 4, none⟩ = some (.string l2) := (blk_cell BKZ7.out 4).trans rfl
  have a5 : w7.cell? ⟨gz, 5, none⟩ = some (.bool h0) := (blk_cell BKZ7.out 5).trans rfl
  have a6 : w7.cell? ⟨gz, 6, none⟩ = some (.int .i64 h1) := (blk_cell BKZ7.out 6).trans rfl
  have a7 : w7.cell? ⟨gz, 7, none⟩ = some (.string h2) := (blk_cell BKZ7.out 7).trans rfl
  have q0 : w7.cell? ⟨w.heap.size, 0, none⟩ = some (.bool false) := (blk_cell BKC7.out 0).trans rfl
  have q1 : w7.cell? ⟨w.heap.size, 1, none⟩ = some (.int .i64 c1) := (blk_cell BKC7.out 1).trans rfl
  have q2 : w7.cell? ⟨w.heap.size, 2, none⟩ = some (.string c2) := (blk_cell BKC7.out 2).trans rfl
  have EO1 := Lib.hid (order_is false c1 c2 l0 l1 l2 5 (by decide))
  rw [← HO1.out] at EO1
  go_still_tail 5, (by kernel_rfl)
  change wpList _ _ _ _ _ w7.drew
  have BKZ8 := Aside0.mk (show w7.drew.heap[gz]? = _ from BKZ7.out)
  have BKP8 := Aside0.mk (show w7.drew.heap[gp]? = _ from BKP7.out)
  have BKC8 := Aside0.mk (show w7.drew.heap[w.heap.size]? = _ from BKC7.out)
  have HK8 := Aside0.mk (keep_drew HK7.out)
  have HB8 := Aside0.mk (below_drew HB7.out)
  clear BKZ7 BKP7 BKC7 HK7 HB7 p0 a0 a1 a2 a3 a4 a5 a6 a7 q0 q1 q2
  generalize w7.drew = w8 at BKZ8 BKP8 BKC8 HK8 HB8 ⊢
  go_wp2_with fail
  refine (cell_Order.calls 5 false c1 c2 l0 l1 l2 o1 _ EO1.out).mono ?_
  rintro e w9 ⟨rfl, b_⟩
  have BKZ9 := Aside0.mk (blk_below BKZ8.out b_)
  have BKP9 := Aside0.mk (blk_below BKP8.out b_)
  have BKC9 := Aside0.mk (blk_below BKC8.out b_)
  have HK9 := Aside0.mk (HK8.out.trans (KeepBut.of_below b_ gz none) (.inl rfl))
  have HB9 := Aside0.mk (below_step HB8.out b_)
  clear BKZ8 BKP8 BKC8 HK8 HB8 b_
  have p0 : w9.cell? ⟨gp, 0, none⟩ = some (.pointer (some ⟨gz, 0, none⟩)) := (blk_cell BKP9.out 0).trans rfl
  have a0 : w9.cell? ⟨gz, 0, none⟩ = some (.int .i64 (z0 + 1)) := (blk_cell BKZ9.out 0).trans rfl
  have f0 := blk_frozen BKZ9.out 0
  have a1 : w9.cell? ⟨gz, 1, none⟩ = some (.int .i64 z1) := (blk_cell BKZ9.out 1).trans rfl
  have f1 := blk_frozen BKZ9.out 1
  have a2 : w9.cell? ⟨gz, 2, none⟩ = some (.bool l0) := (blk_cell BKZ9.out 2).trans rfl
  have f2 := blk_frozen BKZ9.out 2
  have a3 : w9.cell? ⟨gz, 3, none⟩ = some (.int .i64 l1) := (blk_cell BKZ9.out 3).trans rfl
  have f3 := blk_frozen BKZ9.out 3
  have a4 : w9.cell? ⟨gz, 4, none⟩ = some (.string l2) := (blk_cell BKZ9.out 4).trans rfl
  have f4 := blk_frozen BKZ9.out 4
  have a5 : w9.cell? ⟨gz, 5, none⟩ = some (.bool h0) := (blk_cell BKZ9.out 5).trans rfl
  have f5 := blk_frozen BKZ9.out 5
  have a6 : w9.cell? ⟨gz, 6, none⟩ = some (.int .i64 h1) := (blk_cell BKZ9.out 6).trans rfl
  have f6 := blk_frozen BKZ9.out 6
  have a7 : w9.cell? ⟨gz, 7, none⟩ = some (.string h2) := (blk_cell BKZ9.out 7).trans rfl
  have f7 := blk_frozen BKZ9.out 7
  have q0 : w9.cell? ⟨w.heap.size, 0, none⟩ = some (.bool false) := (blk_cell BKC9.out 0).trans rfl
  have q1 : w9.cell? ⟨w.heap.size, 1, none⟩ = some (.int .i64 c1) := (blk_cell BKC9.out 1).trans rfl
  have q2 : w9.cell? ⟨w.heap.size, 2, none⟩ = some (.string c2) := (blk_cell BKC9.out 2).trans rfl
  by_cases hlt : o1 < 0
  ·have hb1' : decide (o1 < 0) = true := decide_eq_true hlt
   go_wp2_with fail
   go_end0
   refine ⟨rfl, ?_, ?_, below_set (below_set (below_set HB9.out hBg) hBg) hBg⟩
   ·simp only [noteR]
    rw [if_neg (by decide), if_neg (show ¬ z0 ≤ z1 by omega), ← HO1.out, if_pos hlt]
    refine Eq.trans (set_four w9 gz 0 _ _ _ _ _ _ _ _ (.int .i64 0) _ _ _ _ BKZ9.out) ?_
    rfl
   ·exact ((HK9.out.set_ 2 _).set_ 3 _).set_ 4 _
  ·have hb1' : decide (o1 < 0) = false := decide_eq_false hlt
   have EO2 := Lib.hid (order_is false c1 c2 h0 h1 h2 5 (by decide))
   rw [← HO2.out] at EO2
   clear f0 f1 f2 f3 f4 f5 f6 f7
   go_upto_region 9 with (fail)
   go_still_tail 5, (by kernel_rfl)
   change wpList _ _ _ _ _ w9.drew
   have BKZ10 := Aside0.mk (show w9.drew.heap[gz]? = _ from BKZ9.out)
   have BKP10 := Aside0.mk (show w9.drew.heap[gp]? = _ from BKP9.out)
   have BKC10 := Aside0.mk (show w9.drew.heap[w.heap.size]? = _ from BKC9.out)
   have HK10 := Aside0.mk (keep_drew HK9.out)
   have HB10 := Aside0.mk (below_drew HB9.out)
   clear BKZ9 BKP9 BKC9 HK9 HB9 p0 a0 a1 a2 a3 a4 a5 a6 a7 q0 q1 q2
   generalize w9.drew = w10 at BKZ10 BKP10 BKC10 HK10 HB10 ⊢
   go_wp2_with fail
   refine (cell_Order.calls 5 false c1 c2 h0 h1 h2 o2 _ EO2.out).mono ?_
   rintro e w11 ⟨rfl, b_⟩
   have BKZ11 := Aside0.mk (blk_below BKZ10.out b_)
   have BKP11 := Aside0.mk (blk_below BKP10.out b_)
   have BKC11 := Aside0.mk (blk_below BKC10.out b_)
   have HK11 := Aside0.mk (HK10.out.trans (KeepBut.of_below b_ gz none) (.inl rfl))
   have HB11 := Aside0.mk (below_step HB10.out b_)
   clear BKZ10 BKP10 BKC10 HK10 HB10 b_
   have p0 : w11.cell? ⟨gp, 0, none⟩ = some (.pointer (some ⟨gz, 0, none⟩)) := (blk_cell BKP11.out 0).trans rfl
   have a0 : w11.cell? ⟨gz, 0, none⟩ = some (.int .i64 (z0 + 1)) := (blk_cell BKZ11.out 0).trans rfl
   have f0 := blk_frozen BKZ11.out 0
   have a1 : w11.cell? ⟨gz, 1, none⟩ = some (.int .i64 z1) := (blk_cell BKZ11.out 1).trans rfl
   have f1 := blk_frozen BKZ11.out 1
   have a2 : w11.cell? ⟨gz, 2, none⟩ = some (.bool l0) := (blk_cell BKZ11.out 2).trans rfl
   have f2 := blk_frozen BKZ11.out 2
   have a3 : w11.cell? ⟨gz, 3, none⟩ = some (.int .i64 l1) := (blk_cell BKZ11.out 3).trans rfl
   have f3 := blk_frozen BKZ11.out 3
   have a4 : w11.cell? ⟨gz, 4, none⟩ = some (.string l2) := (blk_cell BKZ11.out 4).trans rfl
   have f4 := blk_frozen BKZ11.out 4
   have a5 : w11.cell? ⟨gz, 5, none⟩ = some (.bool h0) := (blk_cell BKZ11.out 5).trans rfl
   have f5 := blk_frozen BKZ11.out 5
   have a6 : w11.cell? ⟨gz, 6, none⟩ = some (.int .i64 h1) := (blk_cell BKZ11.out 6).trans rfl
   have f6 := blk_frozen BKZ11.out 6
   have a7 : w11.cell? ⟨gz, 7, none⟩ = some (.string h2) := (blk_cell BKZ11.out 7).trans rfl
   have f7 := blk_frozen BKZ11.out 7
   have q0 : w11.cell? ⟨w.heap.size, 0, none⟩ = some (.bool false) := (blk_cell BKC11.out 0).trans rfl
   have q1 : w11.cell? ⟨w.heap.size, 1, none⟩ = some (.int .i64 c1) := (blk_cell BKC11.out 1).trans rfl
   have q2 : w11.cell? ⟨w.heap.size, 2, none⟩ = some (.string c2) := (blk_cell BKC11.out 2).trans rfl
   by_cases hgt : 0 < o2
   ·have hb2' : decide (o2 > 0) = true := decide_eq_true hgt
    have hb3' : decide (0 < o2) = true := decide_eq_true hgt
    go_wp2_with fail
    go_end0
    refine ⟨rfl, ?_, ?_, below_set (below_set (below_set HB11.out hBg) hBg) hBg⟩
    ·simp only [noteR]
     rw [if_neg (by decide), if_neg (show ¬ z0 ≤ z1 by omega), ← HO1.out, if_neg (show ¬ o1 < 0 by omega), ← HO2.out, if_pos hgt]
     refine Eq.trans (set_high w11 gz 0 _ _ _ _ _ _ _ _ _ _ _ _ BKZ11.out) ?_
     rfl
    ·exact ((HK11.out.set_ 5 _).set_ 6 _).set_ 7 _
   ·have hb2' : decide (o2 > 0) = false := decide_eq_false (by omega)
    have hb3' : decide (0 < o2) = false := decide_eq_false hgt
    go_wp2_with fail
    go_end0
    refine ⟨rfl, ?_, HK11.out, HB11.out⟩
    simp only [noteR]
    rw [if_neg (by decide), if_neg (show ¬ z0 ≤ z1 by omega), ← HO1.out, if_neg (show ¬ o1 < 0 by omega), ← HO2.out, if_neg (show ¬ 0 < o2 by omega)]
    exact BKZ11.out
end Go.Proofs.Ytkdlfejokahohaa.X
/- The contracts of zone.noted and zone.Of: cells' zone. -/
namespace Go.Proofs.Ytkdlfejokahohaa.X
open Go.RowKit Go.Proofs.Ytkdlfejokahohaa.CellPlain Go.Proofs.YtkdlfejokahohaaW.PrintWords Go.Proofs.YtkdlfejokahohaaW.PrintLast Go.Proofs.YtkdlfejokahohaaW.PrintMore
set_option linter.unusedVariables false
set_option linter.unusedSimpArgs false
def zc0 : Int × Int × S23 × S23 := (0, 0, ⟨false, 0, ByteArray.empty⟩, ⟨false, 0, ByteArray.empty⟩)
set_option maxHeartbeats 8000000 in
set_option maxRecDepth 100000 in
theorem zone_noted.calls (w : World) :
  Calls Try.prog 85 #[] w fun e w' => e = .returned (.tuple #[.pointer (some ⟨w.heap.size, 0, none⟩), .func (Fn.func 101) #[] #[.pointer (some ⟨w.heap.size + 1, 0, none⟩)]]) ∧ w'.heap[w.heap.size]? = some (.cells (zc zc0) 25 (0, 0)) ∧ w'.heap[w.heap.size + 1]? = some (.cells #[.pointer (some ⟨w.heap.size, 0, none⟩)] 103 (0, 0)) ∧ Below w.heap.size w w' := by
 have hu1 := Try.underlying23
 have hu2 := Try.underlying25
 go_enter Try.func85, Try.ntmps85
 go_wp2_with fail
 go_ret2
 refine ⟨rfl, ?_, ?_, ?_⟩
 ·exact Mem.alloc_old (Mem.alloc_new w _)
 ·have h := Mem.alloc_new (w.alloc (.cells (zc zc0) 25)) (.cells #[.pointer (some ⟨w.heap.size, 0, none⟩)] 103)
  rw [Mem.alloc_size] at h
  exact h
 ·exact below_alloc (below_alloc (Below.refl _ _) _) _
/-- The zone of cells, one behind the other. -/
def noteAll (z : Int × Int × S23 × S23) : List S23 → Int × Int × S23 × S23
 | [] => z
 | c :: l => noteAll (noteR z.1 z.2.1 z.2.2.1 z.2.2.2 c) l
theorem noteR_le (z0 z1 : Int) (lo hi c : S23) : (noteR z0 z1 lo hi c).1 = z0 + 1 ∧ ((noteR z0 z1 lo hi c).2.1 = z1 ∨ (noteR z0 z1 lo hi c).2.1 = z1 + 1) := by
 unfold noteR
 repeat' split
 all_goals simp
theorem set_eight (w : World) (g : Nat) (a0 a1 a2 a3 a4 a5 a6 a7 v0 v1 v2 v3 v4 v5 v6 v7 : Value) (t : TypeId) (h : w.heap[g]? = some (.cells #[a0, a1, a2, a3, a4, a5, a6, a7] t (0, 0))) :
  ((((((((w.setCell ⟨g, 0, none⟩ v0).setCell ⟨g, 1, none⟩ v1).setCell ⟨g, 2, none⟩ v2).setCell ⟨g, 3, none⟩ v3).setCell ⟨g, 4, none⟩ v4).setCell ⟨g, 5, none⟩ v5).setCell ⟨g, 6, none⟩ v6).setCell ⟨g, 7, none⟩ v7).heap[g]? = some (.cells #[v0, v1, v2, v3, v4, v5, v6, v7] t (0, 0)) := by
 refine set_one _ g 7 #[v0, v1, v2, v3, v4, v5, v6, a7] _ t v7 ?_ rfl
 refine set_one _ g 6 #[v0, v1, v2, v3, v4, v5, a6, a7] _ t v6 ?_ rfl
 refine set_one _ g 5 #[v0, v1, v2, v3, v4, a5, a6, a7] _ t v5 ?_ rfl
 refine set_one _ g 4 #[v0, v1, v2, v3, a4, a5, a6, a7] _ t v4 ?_ rfl
 refine set_one _ g 3 #[v0, v1, v2, a3, a4, a5, a6, a7] _ t v3 ?_ rfl
 refine set_one _ g 2 #[v0, v1, a2, a3, a4, a5, a6, a7] _ t v2 ?_ rfl
 refine set_one _ g 1 #[v0, a1, a2, a3, a4, a5, a6, a7] _ t v1 ?_ rfl
 exact set_one _ g 0 #[a0, a1, a2, a3, a4, a5, a6, a7] _ t v0 h rfl
set_option maxHeartbeats 8000000 in
set_option maxRecDepth 100000 in
theorem zone_Of.note (A0 : Option Addr) (c0 n : Nat) (l0 : List S23) (w : World) (hr0 : Kd.C k23 w A0 l0.length l0) (hc0 : l0.length ≤ c0) (hmax : l0.length < 1000000) :
  Calls Try.prog 57 #[.slice A0 l0.length c0] w fun e w' => e = .returned (.agg (zc (noteAll zc0 l0))) ∧ Below w.heap.size w w' := by
 have hu1 := Try.underlying23
 have hu2 := Try.underlying25
 have HR0 := Aside0.mk hr0
 clear hr0
 go_enter Try.func57, Try.ntmps57
 go_wp2_with fail
 refine (zone_noted.calls _).mono ?_
 rintro e w1 ⟨rfl, hz, hp, b1⟩
 have hsz : (w.alloc (.cells (zc zc0) 25)).heap.size = w.heap.size + 1 := Mem.alloc_size _ _
 have B0 := below_alloc (Below.refl w.heap.size w) (.cells (zc zc0) 25)
 have BZ := Aside0.mk (show w1.heap[w.heap.size + 1]? = some (.cells (zc zc0) 25 (0, 0)) by rw [← hsz]; exact hz)
 have BP := Aside0.mk (show w1.heap[w.heap.size + 1 + 1]? = some (.cells #[.pointer (some ⟨w.heap.size + 1, 0, none⟩)] 103 (0, 0)) by rw [← hsz]; exact hp)
 have BR := Aside0.mk (show w1.heap[w.heap.size]? = some (.cells (zc zc0) 25 (0, 0)) from blk_below (Mem.alloc_new w _) b1)
 have HB1 := Aside0.mk (below_step B0 b1)
 clear hz hp b1 B0 hsz
 go_wp2_with fail
 go_loopg [13] l0.length (fun kq v13 w' => ∃ (i : Nat) (z : Int × Int × S23 × S23), v13 = .int .i64 (i : Int) ∧ kq + i = l0.length ∧ z.1 = (i : Int) ∧ (0 ≤ z.2.1 ∧ z.2.1 ≤ (i : Int)) ∧ Aside0 (noteAll z (l0.drop i) = noteAll zc0 l0) ∧ Aside0 (w'.heap[w.heap.size + 1]? = some (.cells (zc z) 25 (0, 0))) ∧ Aside0 (w'.heap[w.heap.size + 1 + 1]? = some (.cells #[.pointer (some ⟨w.heap.size + 1, 0, none⟩)] 103 (0, 0))) ∧ Aside0 (w'.heap[w.heap.size]? = some (.cells (zc zc0) 25 (0, 0))) ∧ Aside0 (Below w.heap.size w w'))
 case atStart => exact ⟨0, zc0, rfl, rfl, rfl, ⟨by decide, by decide⟩, ⟨rfl⟩, BZ, BP, BR, HB1⟩
 case round =>
  clear BZ BP BR HB1
  obtain ⟨i, z, rfl, hi, hz0, hz1, HE, BZ, BP, BR, HB⟩ := hrel
  cases gk with
  | zero =>
   obtain rfl : i = l0.length := by omega
   have hb : decide ((l0.length : Int) < (l0.length : Int)) = false := decide_eq_false (by omega)
   have hb2 : decide (l0.length < l0.length) = false := decide_eq_false (by omega)
   have hE2 := HE.out
   rw [List.drop_length, noteAll] at hE2
   have HE3 := Aside0.mk hE2
   clear HE hE2
   obtain ⟨z0, z1, lo, hi2⟩ := z
   obtain ⟨d0, d1, d2⟩ := lo
   obtain ⟨e0, e1, e2⟩ := hi2
   have a0 : wr.cell? ⟨w.heap.size + 1, 0, none⟩ = some (.int .i64 z0) := (blk_cell BZ.out 0).trans rfl
   have a1 : wr.cell? ⟨w.heap.size + 1, 1, none⟩ = some (.int .i64 z1) := (blk_cell BZ.out 1).trans rfl
   have a2 : wr.cell? ⟨w.heap.size + 1, 2, none⟩ = some (.bool d0) := (blk_cell BZ.out 2).trans rfl
   have a3 : wr.cell? ⟨w.heap.size + 1, 3, none⟩ = some (.int .i64 d1) := (blk_cell BZ.out 3).trans rfl
   have a4 : wr.cell? ⟨w.heap.size + 1, 4, none⟩ = some (.string d2) := (blk_cell BZ.out 4).trans rfl
   have a5 : wr.cell? ⟨w.heap.size + 1, 5, none⟩ = some (.bool e0) := (blk_cell BZ.out 5).trans rfl
   have a6 : wr.cell? ⟨w.heap.size + 1, 6, none⟩ = some (.int .i64 e1) := (blk_cell BZ.out 6).trans rfl
   have a7 : wr.cell? ⟨w.heap.size + 1, 7, none⟩ = some (.string e2) := (blk_cell BZ.out 7).trans rfl
   have r0 : wr.cell? ⟨w.heap.size, 0, none⟩ = some (.int .i64 0) := (blk_cell BR.out 0).trans rfl
   have r1 : wr.cell? ⟨w.heap.size, 1, none⟩ = some (.int .i64 0) := (blk_cell BR.out 1).trans rfl
   have r2 : wr.cell? ⟨w.heap.size, 2, none⟩ = some (.bool false) := (blk_cell BR.out 2).trans rfl
   have r3 : wr.cell? ⟨w.heap.size, 3, none⟩ = some (.int .i64 0) := (blk_cell BR.out 3).trans rfl
   have r4 : wr.cell? ⟨w.heap.size, 4, none⟩ = some (.string ByteArray.empty) := (blk_cell BR.out 4).trans rfl
   have r5 : wr.cell? ⟨w.heap.size, 5, none⟩ = some (.bool false) := (blk_cell BR.out 5).trans rfl
   have r6 : wr.cell? ⟨w.heap.size, 6, none⟩ = some (.int .i64 0) := (blk_cell BR.out 6).trans rfl
   have r7 : wr.cell? ⟨w.heap.size, 7, none⟩ = some (.string ByteArray.empty) := (blk_cell BR.out 7).trans rfl
   have f0 := blk_frozen BR.out 0
   have f1 := blk_frozen BR.out 1
   have f2 := blk_frozen BR.out 2
   have f3 := blk_frozen BR.out 3
   have f4 := blk_frozen BR.out 4
   have f5 := blk_frozen BR.out 5
   have f6 := blk_frozen BR.out 6
   have f7 := blk_frozen BR.out 7
   go_wp2_with fail
   have hB9 := below_set (j := 7) (v := .string e2) (below_set (j := 6) (v := .int .i64 e1) (below_set (j := 5) (v := .bool e0) (below_set (j := 4) (v := .string d2) (below_set (j := 3) (v := .int .i64 d1) (below_set (j := 2) (v := .bool d0) (below_set (j := 1) (v := .int .i64 z1) (below_set (j := 0) (v := .int .i64 (l0.length : Int)) HB.out (Nat.le_refl w.heap.size)) (Nat.le_refl w.heap.size)) (Nat.le_refl w.heap.size)) (Nat.le_refl w.heap.size)) (Nat.le_refl w.heap.size)) (Nat.le_refl w.heap.size)) (Nat.le_refl w.heap.size)) (Nat.le_refl w.heap.size)
   have BW := set_eight wr w.heap.size _ _ _ _ _ _ _ _ (.int .i64 (l0.length : Int)) (.int .i64 z1) (.bool d0) (.int .i64 d1) (.string d2) (.bool e0) (.int .i64 e1) (.string e2) _ BR.out
   clear a0 a1 a2 a3 a4 a5 a6 a7 r0 r1 r2 r3 r4 r5 r6 r7 f0 f1 f2 f3 f4 f5 f6 f7 BR BZ BP HB
   generalize World.setCell _ _ _ = W8 at hB9 BW ⊢
   refine bodyPost_ret (results_cell_row rfl _ _ w.heap.size 25 _ (0, 0) _ rfl BW hu2 rfl (by kernel_rfl)) rfl ⟨?_, hB9⟩
   rw [← HE3.out, show z0 = (l0.length : Int) from hz0]
   rfl
  | succ k2 =>
   have hlt : i < l0.length := by omega
   have hb : decide ((i : Int) < (l0.length : Int)) = true := decide_eq_true (by omega)
   have hb2 : decide (i < l0.length) = true := decide_eq_true hlt
   obtain ⟨ad, e1, hx0, hx1, hx2⟩ := at_T23 (Kd.C_below HR0.out HB.out) (i : Int) (by omega) (by omega)
   cases e1
   have hrd : rd_T23 l0 (i : Int) = l0.getD i z23 := by rw [rd_T23, Int.toNat_natCast]
   rw [hrd, Int.toNat_natCast] at hx0 hx1 hx2
   have hE2 := HE.out
   rw [show l0.drop i = l0.getD i z23 :: l0.drop (i + 1) by rw [List.drop_eq_getElem_cons hlt]; simp [List.getD, hlt], noteAll] at hE2
   generalize l0.getD i z23 = x at hx0 hx1 hx2 hE2
   have HE2 := Aside0.mk hE2
   clear hrd hE2 HE
   obtain ⟨z0, z1, lo, hi2⟩ := z
   go_wp2_with fail
   have hk := noteR_le z0 z1 lo hi2 x
   refine (zone_note.calls (w.heap.size + 1 + 1) (w.heap.size + 1) z0 z1 lo hi2 x _ (blk_alloc BP.out _) (blk_alloc BZ.out _) (by omega) w (below_alloc HB.out _) (by omega) ⟨by omega, by omega⟩ ⟨by omega, by omega⟩).mono ?_
   rintro e w3 ⟨rfl, hz3, hk3, hb3⟩
   have BP3 := Aside0.mk ((hk3.2 _ (blk_lt (blk_alloc BP.out _)) (by omega) (by simp)).trans (blk_alloc BP.out _))
   have BR3 := Aside0.mk ((hk3.2 _ (blk_lt (blk_alloc BR.out _)) (by omega) (by simp)).trans (blk_alloc BR.out _))
   have HB3 := Aside0.mk hb3
   have BZ3 := Aside0.mk hz3
   clear hz3 hk3 hb3 BP BR HB BZ hx0 hx1 hx2
   go_wp2_with fail
   go_roundg k2
   case measure => omega
   case rel => exact ⟨i + 1, noteR z0 z1 lo hi2 x, by go_num, by omega, by rw [hk.1]; omega, ⟨by rcases hk.2 with h | h <;> rw [h] <;> omega, by rcases hk.2 with h | h <;> rw [h] <;> omega⟩, HE2, BZ3, BP3, BR3, HB3⟩
def zone_Of.f (l0 : List S23) : Option (Int × Int × Bool × Int × ByteArray × Bool × Int × ByteArray) := if l0.length < 1000000 then some ((noteAll zc0 l0).1, (noteAll zc0 l0).2.1, (noteAll zc0 l0).2.2.1.f0, (noteAll zc0 l0).2.2.1.f1, (noteAll zc0 l0).2.2.1.f2, (noteAll zc0 l0).2.2.2.f0, (noteAll zc0 l0).2.2.2.f1, (noteAll zc0 l0).2.2.2.f2) else none
theorem zone_Of.calls (A0 : Option Addr) (c0 : Nat) (l0 : List S23) (r1 r2 : Int) (r3 : Bool) (r4 : Int) (r5 : ByteArray) (r6 : Bool) (r7 : Int) (r8 : ByteArray) (w : World) (hr0 : Kd.C k23 w A0 l0.length l0) (hc0 : l0.length ≤ c0) (h : zone_Of.f l0 = some (r1, r2, r3, r4, r5, r6, r7, r8)) :
  Calls Try.prog 57 #[.slice A0 l0.length c0] w fun e w' => e = .returned (.agg #[.int .i64 r1, .int .i64 r2, .bool r3, .int .i64 r4, .string r5, .bool r6, .int .i64 r7, .string r8]) ∧ Below w.heap.size w w' := by
 unfold zone_Of.f at h
 by_cases hl : l0.length < 1000000
 ·rw [if_pos hl] at h
  simp only [Option.some.injEq, Prod.mk.injEq] at h
  obtain ⟨rfl, rfl, rfl, rfl, rfl, rfl, rfl, rfl⟩ := h
  exact zone_Of.note A0 c0 0 l0 w hr0 hc0 hl
 ·rw [if_neg hl] at h; cases h
end Go.Proofs.Ytkdlfejokahohaa.X
namespace Go.Proofs.Ytkdlfejokahohaa.X
open Go.RowKit Go.Proofs.YtkdlfejokahohaaW.PrintWords Go.Proofs.YtkdlfejokahohaaW.PrintLast Go.Proofs.YtkdlfejokahohaaW.PrintMore
attribute [local go_sem] max2_int min2_int max_two min_two max_three min_three max_four min_four   -- for this text's walks alone
set_option linter.unusedVariables false
open List (setIfInBounds_toArray set_cons_zero set_cons_succ)
set_option linter.unusedSimpArgs false

attribute [local go_sem high] eqA25
def firkinlaw11_live.f  : Option (Bool) := (zone_Of.f (([(⟨false, 3, (⟨#[]⟩ : ByteArray)⟩ : S23), (⟨true, 0, (⟨#[]⟩ : ByteArray)⟩ : S23), (⟨false, (-1), (⟨#[]⟩ : ByteArray)⟩ : S23)] : List (S23)))).bind fun bt135 => (some (bt135.1 == 3 && (bt135.2.1 == 1 && ((!bt135.2.2.1 && (bt135.2.2.2.1 == (-1) && (bt135.2.2.2.2.1.toList == ([] : List UInt8)))) && ((!bt135.2.2.2.2.2.1 && (bt135.2.2.2.2.2.2.1 == 3 && (bt135.2.2.2.2.2.2.2.toList == ([] : List UInt8)))))))))
theorem firkinlaw11_live.calls  (r : Bool) (w : World) (h : firkinlaw11_live.f  = some r) :
  Calls Try.prog 15 #[] w fun e w' => e = .returned (.bool r) ∧ Below w.heap.size w w' := by
 have hu23 := Try.underlying23
 have hu25 := Try.underlying25
 have HB := A_ (Below.refl w.heap.size w)
 have H : ((zone_Of.f (([(⟨false, 3, (⟨#[]⟩ : ByteArray)⟩ : S23), (⟨true, 0, (⟨#[]⟩ : ByteArray)⟩ : S23), (⟨false, (-1), (⟨#[]⟩ : ByteArray)⟩ : S23)] : List (S23)))).bind fun bt135 => (some (bt135.1 == 3 && (bt135.2.1 == 1 && ((!bt135.2.2.1 && (bt135.2.2.2.1 == (-1) && (bt135.2.2.2.2.1.toList == ([] : List UInt8)))) && ((!bt135.2.2.2.2.2.1 && (bt135.2.2.2.2.2.2.1 == 3 && (bt135.2.2.2.2.2.2.2.toList == ([] : List UInt8)))))))))) = some r := h
 clear h
 obtain ⟨y132, hy132⟩ : ∃ y_ : List (S23), y_ = (([(⟨false, 3, (⟨#[]⟩ : ByteArray)⟩ : S23), (⟨true, 0, (⟨#[]⟩ : ByteArray)⟩ : S23), (⟨false, (-1), (⟨#[]⟩ : ByteArray)⟩ : S23)] : List (S23))) := ⟨_, rfl⟩
 replace H : ((zone_Of.f y132).bind fun bt135 => (some (bt135.1 == 3 && (bt135.2.1 == 1 && ((!bt135.2.2.1 && (bt135.2.2.2.1 == (-1) && (bt135.2.2.2.2.1.toList == ([] : List UInt8)))) && ((!bt135.2.2.2.2.2.1 && (bt135.2.2.2.2.2.2.1 == 3 && (bt135.2.2.2.2.2.2.2.toList == ([] : List UInt8)))))))))) = some r := by first | (rw [hy132]; with_reducible exact H) | (have H2_ := (Option.bind_some _ _).symm.trans H; rw [hy132]; with_reducible exact H2_) | (have H2_ := (Option.bind_some _ _).symm.trans H; with_reducible exact H2_) | with_reducible exact H | (rw [hy132]; exact H) | exact H
 have Ny132 := A_ hy132
 clear hy132
 replace H := Option.bind_eq_some_iff.mp H
 obtain ⟨⟨t135, t136, t137, t138, t139, t140, t141, t142⟩, A10, H⟩ := H
 replace H : (some (t135 == 3 && (t136 == 1 && ((!t137 && (t138 == (-1) && (t139.toList == ([] : List UInt8)))) && ((!t140 && (t141 == 3 && (t142.toList == ([] : List UInt8))))))))) = some r := H
 have A1 := A_ A10
 clear A10
 obtain rfl := Option.some.inj H
 go_enter Try.func15, Try.ntmps15
 go_wp2_with (first | ((with_reducible refine gate_dst (N := 4) rfl ?_); refine Kd.R_lit k23 _ 23 ?hg (N := 4) ?hd (xs := ([(⟨false, 3, (⟨#[]⟩ : ByteArray)⟩ : S23), (⟨true, 0, (⟨#[]⟩ : ByteArray)⟩ : S23), (⟨false, (-1), (⟨#[]⟩ : ByteArray)⟩ : S23)] : List (S23))) (inner := [.bool false, .int .i64 3, .string (⟨#[]⟩ : ByteArray), .bool true, .int .i64 0, .string (⟨#[]⟩ : ByteArray), .bool false, .int .i64 (-1), .string (⟨#[]⟩ : ByteArray)]) (ok := fun _ => True) (okp := fun _ => True) ?hr ?hp (fun _ hk => hk) trivial (Below.refl _ _) (Nat.le_refl _) (by simp) ?_; (case hd => rfl); (case hg => rfl); (case hr => first | (go_simp; done) | (go_simp; rfl)); (case hp => exact (Reps.c3 (show Kd.M k23 _ _ _ (⟨false, 3, (⟨#[]⟩ : ByteArray)⟩ : S23) [.bool false, .int .i64 3, .string (⟨#[]⟩ : ByteArray)] from (k23_mkM _ _ _ (⟨false, 3, (⟨#[]⟩ : ByteArray)⟩ : S23) )) (Reps.c3 (show Kd.M k23 _ _ _ (⟨true, 0, (⟨#[]⟩ : ByteArray)⟩ : S23) [.bool true, .int .i64 0, .string (⟨#[]⟩ : ByteArray)] from (k23_mkM _ _ _ (⟨true, 0, (⟨#[]⟩ : ByteArray)⟩ : S23) )) (Reps.c3 (show Kd.M k23 _ _ _ (⟨false, (-1), (⟨#[]⟩ : ByteArray)⟩ : S23) [.bool false, .int .i64 (-1), .string (⟨#[]⟩ : ByteArray)] from (k23_mkM _ _ _ (⟨false, (-1), (⟨#[]⟩ : ByteArray)⟩ : S23) )) (Reps.none _ _))))); intro v133 w2 ho3 hb hg_ hnew_; clear hg_ hnew_; (first | rw [← Ny132.out] at ho3 | (simp only [Int.reduceToNat] at ho3; rw [← Ny132.out] at ho3)); have n0_ := A_ (Kd.R_lower ho3 (below_size (by repeat (first | (with_reducible first | exact HB.out | apply ba_ | apply bn_ | apply bd_) | exact HB.out)))); have n1_ := A_ (bp_ (by repeat (first | (with_reducible first | exact HB.out | apply ba_ | apply bn_ | apply bd_) | exact HB.out)) hb); clear HB; have HO134 := n0_; have HB := n1_; clear n0_ n1_; clear hb ho3; obtain ⟨Ao4, co4, eo4⟩ := Kd.R_slice HO134.out; subst eo4) | ((with_reducible refine gate_callee (f := 57) rfl ?_); refine goesL_ (some 5) rfl rfl Try.func57 (by kernel_rfl) rfl #[.slice Ao4 y132.length co4] rfl (by (try simp only [List.map_toArray, List.map_cons, List.map_nil]); first | done | rfl | (simp only [List.length_drop, List.length_take]; rfl)) ?_; (with_reducible refine (zone_Of.calls _ _ y132 t135 t136 t137 t138 t139 t140 t141 t142 _ ?side1 ?side2 A1.out).mono ?_); (case side1 => repeat (first | exact (Kd.R_reads' HO134.out).2.2 | (with_reducible refine Kd.C_alloc ?_ _) | (with_reducible refine Kd.C_drewN ?_ _) | (with_reducible refine Kd.C_drew ?_))); (case side2 => exact (Kd.R_reads' HO134.out).2.1); rintro e w5 ⟨rfl, hb⟩; refine ⟨_, rfl, ?_⟩; have n0_ := A_ (Kd.R_below (by (with_reducible repeat (first | apply Kd.R_alloc | apply Kd.R_drewN | apply Kd.R_drew)); exact HO134.out) hb); have n1_ := A_ (bp_ (by repeat (first | (with_reducible first | exact HB.out | apply ba_ | apply bn_ | apply bd_) | exact HB.out)) hb); clear HO134; clear HB; have HO134 := n0_; have HB := n1_; clear n0_ n1_; (try clear hb); (try clear hb2); (try clear hk); (try clear hi)))
 go_ret
 exact ⟨by first | rfl | (simp only [Go.Proofs.Ytkdlfejokahohaa.Strs.nilB]; rfl) | (simp [errW_none, errW_some] <;> rfl) | (simp [*, errW_none, errW_some] <;> rfl), by repeat (first | (with_reducible first | exact HB.out | apply ba_ | apply bn_ | apply bd_) | exact HB.out)⟩

def firkinref09_May.j0 : Nat → Int → Bool → Bool → Bool → Int → ByteArray → Option (Bool)
 | 0, _, _, _, _, _, _ => none
 | k + 1, x0, x1, x12, x144000, x144001, x144002 => if x12 = true then (some false) else (if x144000 = true then (if x1 = true then (if x144001 = 0 then (some (x144002.toList == ([] : List UInt8))) else (some false)) else (some false)) else (if x0 = 3 then (if x144001 = 0 then (some (decide ((x144002.size : Int) ≤ 40))) else (some false)) else (if x144002.toList = ([] : List UInt8) then (if x0 = 1 then (some true) else (if x144001 = 0 then (some true) else (some (x144001 == 1)))) else (some false))))
def firkinref09_May.f (k : Nat) (a0 : Int) (a1 : Bool) (a2_0 : Bool) (a2_1 : Int) (a2_2 : ByteArray) : Option (Bool) := if a0 < 1 then (firkinref09_May.j0 k a0 a1 true a2_0 a2_1 a2_2) else (firkinref09_May.j0 k a0 a1 (decide (a0 > 3)) a2_0 a2_1 a2_2)
theorem firkinref09_May.mono_l : ∀ k, (∀ y0 y1 y2 y3 y4 y5, LeO (firkinref09_May.j0 k y0 y1 y2 y3 y4 y5) (firkinref09_May.j0 (k + 1) y0 y1 y2 y3 y4 y5))
 | 0 => fun _ _ _ _ _ _ r h => by simp [firkinref09_May.j0] at h
 | k + 1 => by
  have ih0 := firkinref09_May.mono_l k
  ·intro y0 y1 y2 y3 y4 y5
   unfold firkinref09_May.j0
   repeat' first
   | (with_reducible exact ih0 _ _ _ _ _ _)
   | (with_reducible exact LeO.refl _)
   | (with_reducible exact LeO.none _)
   | (with_reducible refine LeO.ite ?_ ?_)
   | (with_reducible refine LeO.bind ?_ (fun _ => ?_))
   | exact ih0 _ _ _ _ _ _
   | exact LeO.none _
   | refine LeO.ite ?_ ?_
   | refine LeO.bind ?_ (fun _ => ?_)
theorem firkinref09_May.mono : ∀ a0 a1 a2 a3 a4 k, LeO (firkinref09_May.f k a0 a1 a2 a3 a4) (firkinref09_May.f (k + 1) a0 a1 a2 a3 a4) := by
 intro a0 a1 a2 a3 a4 k
 have ih0 := firkinref09_May.mono_l k
 unfold firkinref09_May.f
 repeat' first
   | (with_reducible exact ih0 _ _ _ _ _ _)
   | (with_reducible exact LeO.refl _)
   | (with_reducible exact LeO.none _)
   | (with_reducible refine LeO.ite ?_ ?_)
   | (with_reducible refine LeO.bind ?_ (fun _ => ?_))
   | exact ih0 _ _ _ _ _ _
   | exact LeO.none _
   | refine LeO.ite ?_ ?_
   | refine LeO.bind ?_ (fun _ => ?_)
theorem firkinref09_May.calls (k : Nat) (a0 : Int) (a1 : Bool) (a2_0 : Bool) (a2_1 : Int) (a2_2 : ByteArray) (r : Bool) (w : World) (h : firkinref09_May.f k a0 a1 a2_0 a2_1 a2_2 = some r) :
  Calls Try.prog 67 #[.int .i64 a0, .bool a1, .agg #[.bool a2_0, .int .i64 a2_1, .string a2_2]] w fun e w' => e = .returned (.bool r) ∧ Below w.heap.size w w' := by
 have hu23 := Try.underlying23
 have HB := A_ (Below.refl w.heap.size w)
 have H : (if a0 < 1 then (firkinref09_May.j0 k a0 a1 true a2_0 a2_1 a2_2) else (firkinref09_May.j0 k a0 a1 (decide (a0 > 3)) a2_0 a2_1 a2_2)) = some r := h
 clear h
 have HC4 := A_ H
 clear H
 go_enter Try.func67, Try.ntmps67
 go_upto_region 1 with (first | ((with_reducible refine gate_dst (N := 5) rfl ?_); (try (refine gate_guard (by rfl) ?_; dsimp only)); refine box_event ?hg (N := 5) ?hd (cs := #[.bool a2_0, .int .i64 a2_1, .string a2_2]) (t := 23) ?hr ?_; (case hd => rfl); (case hg => rfl); (case hr => first | (go_simp; done) | (go_simp; rfl)); intro gb143 hg w5 hbox hb; have n0_ := A_ (bp_ (by repeat (first | (with_reducible first | exact HB.out | apply ba_ | apply bn_ | apply bd_) | exact HB.out)) hb); have n1_ := A_ (hbox); have n2_ := A_ ((by rw [hg]; exact (below_size (by repeat (first | (with_reducible first | exact HB.out | apply ba_ | apply bn_ | apply bd_) | exact HB.out))) : w.heap.size ≤ gb143)); have n3_ := A_ ((by rw [hg]; exact (below_size (by repeat (first | (with_reducible first | exact HB.out | apply ba_ | apply bn_ | apply bd_) | exact HB.out))) : w.heap.size ≤ gb143)); clear HB; have HB := n0_; have BK143 := n1_; have GW143 := n2_; have GE143 := n3_; clear n0_ n1_ n2_ n3_; clear hb hbox hg))
 (try simp only [Act.put, setIfInBounds_toArray, set_cons_zero, set_cons_succ])
 go_cut [12] (fun v12 wc => ∃ (kq : Nat) (x12_3 : Bool), v12 = .bool x12_3 ∧ Aside0 (firkinref09_May.j0 kq a0 a1 x12_3 a2_0 a2_1 a2_2 = some r) ∧ Aside0 (kq ≤ k) ∧ Aside0 (wc.heap[gb143]? = some (.cells #[.bool a2_0, .int .i64 a2_1, .string a2_2] 23 (0, 0))) ∧ Aside0 (Below w.heap.size w wc))
 case first =>
  have H := HC4.out
  clear HC4
  by_cases c6 : a0 < 1
  ·rw [if_pos c6] at H
   have c6b0 : decide (a0 < 1) = true := decide_eq_true c6
   clear c6
   (first | rw [c6b0] | (simp only [i64_w, i32_w]; rw [c6b0]) | skip)
   have H' := A_ H
   clear H
   go_wp2
   go_meet
   case rel => exact ⟨_, (true), (by first | rfl | (simp; done) | (simp [*]; done)), H', ⟨by first | omega | exact Nat.le_refl _⟩, ⟨by (with_reducible repeat (first | refine kn_ ?_ _ | refine kd_ ?_ | refine ka_ ?_ _)); exact BK143.out⟩, ⟨by repeat (first | (with_reducible first | exact HB.out | apply ba_ | apply bn_ | apply bd_ | refine bs_ ?_ GE143.out) | exact HB.out)⟩⟩
  ·rw [if_neg c6] at H
   have c6b0 : decide (a0 < 1) = false := decide_eq_false c6
   clear c6
   (first | rw [c6b0] | (simp only [i64_w, i32_w]; rw [c6b0]) | skip)
   have H' := A_ H
   clear H
   go_wp2
   go_meet
   case rel => exact ⟨_, (decide (a0 > 3)), (by first | rfl | (simp; done) | (simp [*]; done)), H', ⟨by first | omega | exact Nat.le_refl _⟩, ⟨by (with_reducible repeat (first | refine kn_ ?_ _ | refine kd_ ?_ | refine ka_ ?_ _)); exact BK143.out⟩, ⟨by repeat (first | (with_reducible first | exact HB.out | apply ba_ | apply bn_ | apply bd_ | refine bs_ ?_ GE143.out) | exact HB.out)⟩⟩
 case rest =>
  clear HC4
  try clear p2
  try clear c6
  try clear c6b0
  obtain ⟨kq, x12_3, rfl, HA, HJ3, BK143, HB⟩ := hcut
  cases kq with
  | zero => exact absurd HA.out (by simp [firkinref09_May.j0])
  | succ kj3 =>
   have H := HA.out
   clear HA
   simp only [firkinref09_May.j0] at H
   by_cases c7 : x12_3 = true
   ·subst c7
    have H1 : (some false) = some r := by rw [if_pos rfl] at H; exact H
    clear H
    have H := H1
    clear H1
    obtain rfl := Option.some.inj H
    go_wp2
    go_ret
    exact ⟨by first | rfl | (simp only [Go.Proofs.Ytkdlfejokahohaa.Strs.nilB]; rfl) | (simp [errW_none, errW_some] <;> rfl) | (simp [*, errW_none, errW_some] <;> rfl), by repeat (first | (with_reducible first | exact HB.out | apply ba_ | apply bn_ | apply bd_ | refine bs_ ?_ GE143.out) | exact HB.out)⟩
   ·replace c7 := Bool.eq_false_iff.mpr c7
    subst c7
    have H1 : (if a2_0 = true then (if a1 = true then (if a2_1 = 0 then (some (a2_2.toList == ([] : List UInt8))) else (some false)) else (some false)) else (if a0 = 3 then (if a2_1 = 0 then (some (decide ((a2_2.size : Int) ≤ 40))) else (some false)) else (if a2_2.toList = ([] : List UInt8) then (if a0 = 1 then (some true) else (if a2_1 = 0 then (some true) else (some (a2_1 == 1)))) else (some false)))) = some r := by rw [if_neg (show ¬ (false = true) by decide)] at H; exact H
    clear H
    have H := H1
    clear H1
    by_cases c8 : a2_0 = true
    ·subst c8
     have H1 : (if a1 = true then (if a2_1 = 0 then (some (a2_2.toList == ([] : List UInt8))) else (some false)) else (some false)) = some r := by rw [if_pos rfl] at H; exact H
     clear H
     have H := H1
     clear H1
     by_cases c9 : a1 = true
     ·subst c9
      have H1 : (if a2_1 = 0 then (some (a2_2.toList == ([] : List UInt8))) else (some false)) = some r := by rw [if_pos rfl] at H; exact H
      clear H
      have H := H1
      clear H1
      by_cases c10 : a2_1 = 0
      ·rw [if_pos c10] at H
       have c10b0 : (a2_1 == 0) = true := beq_iff_eq.mpr c10
       have c10b1 : (a2_1 != 0) = false := bne_eq_false_iff_eq.mpr c10
       clear c10
       obtain rfl := Option.some.inj H
       have hcz11_0 : wc.cell? ⟨gb143, 0, none⟩ = some (.bool true) := (bc_ BK143.out 0).trans rfl
       have hcz11_1 : wc.cell? ⟨gb143, 1, none⟩ = some (.int .i64 a2_1) := (bc_ BK143.out 1).trans rfl
       have hcz11_2 : wc.cell? ⟨gb143, 2, none⟩ = some (.string a2_2) := (bc_ BK143.out 2).trans rfl
       have hfz11_0 := bf_ BK143.out 0
       have hfz11_1 := bf_ BK143.out 1
       have hfz11_2 := bf_ BK143.out 2
       go_wp2
       go_ret
       exact ⟨by first | rfl | (simp only [Go.Proofs.Ytkdlfejokahohaa.Strs.nilB]; rfl) | (simp [errW_none, errW_some] <;> rfl) | (simp [*, errW_none, errW_some] <;> rfl), by repeat (first | (with_reducible first | exact HB.out | apply ba_ | apply bn_ | apply bd_ | refine bs_ ?_ GE143.out) | exact HB.out)⟩
      ·rw [if_neg c10] at H
       have c10b0 : (a2_1 == 0) = false := beq_eq_false_iff_ne.mpr c10
       have c10b1 : (a2_1 != 0) = true := bne_iff_ne.mpr c10
       obtain rfl := Option.some.inj H
       have hcz12_0 : wc.cell? ⟨gb143, 0, none⟩ = some (.bool true) := (bc_ BK143.out 0).trans rfl
       have hcz12_1 : wc.cell? ⟨gb143, 1, none⟩ = some (.int .i64 a2_1) := (bc_ BK143.out 1).trans rfl
       have hcz12_2 : wc.cell? ⟨gb143, 2, none⟩ = some (.string a2_2) := (bc_ BK143.out 2).trans rfl
       have hfz12_0 := bf_ BK143.out 0
       have hfz12_1 := bf_ BK143.out 1
       have hfz12_2 := bf_ BK143.out 2
       go_wp2
       go_ret
       exact ⟨by first | rfl | (simp only [Go.Proofs.Ytkdlfejokahohaa.Strs.nilB]; rfl) | (simp [errW_none, errW_some] <;> rfl) | (simp [*, errW_none, errW_some] <;> rfl), by repeat (first | (with_reducible first | exact HB.out | apply ba_ | apply bn_ | apply bd_ | refine bs_ ?_ GE143.out) | exact HB.out)⟩
     ·replace c9 := Bool.eq_false_iff.mpr c9
      subst c9
      have H1 : (some false) = some r := by rw [if_neg (show ¬ (false = true) by decide)] at H; exact H
      clear H
      have H := H1
      clear H1
      obtain rfl := Option.some.inj H
      have hcz13_0 : wc.cell? ⟨gb143, 0, none⟩ = some (.bool true) := (bc_ BK143.out 0).trans rfl
      have hcz13_1 : wc.cell? ⟨gb143, 1, none⟩ = some (.int .i64 a2_1) := (bc_ BK143.out 1).trans rfl
      have hcz13_2 : wc.cell? ⟨gb143, 2, none⟩ = some (.string a2_2) := (bc_ BK143.out 2).trans rfl
      have hfz13_0 := bf_ BK143.out 0
      have hfz13_1 := bf_ BK143.out 1
      have hfz13_2 := bf_ BK143.out 2
      go_wp2
      go_ret
      exact ⟨by first | rfl | (simp only [Go.Proofs.Ytkdlfejokahohaa.Strs.nilB]; rfl) | (simp [errW_none, errW_some] <;> rfl) | (simp [*, errW_none, errW_some] <;> rfl), by repeat (first | (with_reducible first | exact HB.out | apply ba_ | apply bn_ | apply bd_ | refine bs_ ?_ GE143.out) | exact HB.out)⟩
    ·replace c8 := Bool.eq_false_iff.mpr c8
     subst c8
     have H1 : (if a0 = 3 then (if a2_1 = 0 then (some (decide ((a2_2.size : Int) ≤ 40))) else (some false)) else (if a2_2.toList = ([] : List UInt8) then (if a0 = 1 then (some true) else (if a2_1 = 0 then (some true) else (some (a2_1 == 1)))) else (some false))) = some r := by rw [if_neg (show ¬ (false = true) by decide)] at H; exact H
     clear H
     have H := H1
     clear H1
     by_cases c14 : a0 = 3
     ·rw [if_pos c14] at H
      have c14b0 : (a0 == 3) = true := beq_iff_eq.mpr c14
      have c14b1 : (a0 != 3) = false := bne_eq_false_iff_eq.mpr c14
      clear c14
      by_cases c15 : a2_1 = 0
      ·rw [if_pos c15] at H
       have c15b0 : (a2_1 == 0) = true := beq_iff_eq.mpr c15
       have c15b1 : (a2_1 != 0) = false := bne_eq_false_iff_eq.mpr c15
       clear c15
       obtain rfl := Option.some.inj H
       have hcz16_0 : wc.cell? ⟨gb143, 0, none⟩ = some (.bool false) := (bc_ BK143.out 0).trans rfl
       have hcz16_1 : wc.cell? ⟨gb143, 1, none⟩ = some (.int .i64 a2_1) := (bc_ BK143.out 1).trans rfl
       have hcz16_2 : wc.cell? ⟨gb143, 2, none⟩ = some (.string a2_2) := (bc_ BK143.out 2).trans rfl
       have hfz16_0 := bf_ BK143.out 0
       have hfz16_1 := bf_ BK143.out 1
       have hfz16_2 := bf_ BK143.out 2
       go_wp2
       go_ret
       exact ⟨by first | rfl | (simp only [Go.Proofs.Ytkdlfejokahohaa.Strs.nilB]; rfl) | (simp [errW_none, errW_some] <;> rfl) | (simp [*, errW_none, errW_some] <;> rfl), by repeat (first | (with_reducible first | exact HB.out | apply ba_ | apply bn_ | apply bd_ | refine bs_ ?_ GE143.out) | exact HB.out)⟩
      ·rw [if_neg c15] at H
       have c15b0 : (a2_1 == 0) = false := beq_eq_false_iff_ne.mpr c15
       have c15b1 : (a2_1 != 0) = true := bne_iff_ne.mpr c15
       obtain rfl := Option.some.inj H
       have hcz17_0 : wc.cell? ⟨gb143, 0, none⟩ = some (.bool false) := (bc_ BK143.out 0).trans rfl
       have hcz17_1 : wc.cell? ⟨gb143, 1, none⟩ = some (.int .i64 a2_1) := (bc_ BK143.out 1).trans rfl
       have hcz17_2 : wc.cell? ⟨gb143, 2, none⟩ = some (.string a2_2) := (bc_ BK143.out 2).trans rfl
       have hfz17_0 := bf_ BK143.out 0
       have hfz17_1 := bf_ BK143.out 1
       have hfz17_2 := bf_ BK143.out 2
       go_wp2
       go_ret
       exact ⟨by first | rfl | (simp only [Go.Proofs.Ytkdlfejokahohaa.Strs.nilB]; rfl) | (simp [errW_none, errW_some] <;> rfl) | (simp [*, errW_none, errW_some] <;> rfl), by repeat (first | (with_reducible first | exact HB.out | apply ba_ | apply bn_ | apply bd_ | refine bs_ ?_ GE143.out) | exact HB.out)⟩
     ·rw [if_neg c14] at H
      have c14b0 : (a0 == 3) = false := beq_eq_false_iff_ne.mpr c14
      have c14b1 : (a0 != 3) = true := bne_iff_ne.mpr c14
      by_cases c18 : a2_2.toList = ([] : List UInt8)
      ·rw [if_pos c18] at H
       have c18b0 : (a2_2.toList == ([] : List UInt8)) = true := beq_iff_eq.mpr c18
       have c18b0e := c18b0
       simp only [Go.Proofs.Ytkdlfejokahohaa.Strs.nilB] at c18b0e
       have c18b1 : (a2_2.toList != ([] : List UInt8)) = false := bne_eq_false_iff_eq.mpr c18
       clear c18
       by_cases c19 : a0 = 1
       ·rw [if_pos c19] at H
        have c19b0 : (a0 == 1) = true := beq_iff_eq.mpr c19
        have c19b1 : (a0 != 1) = false := bne_eq_false_iff_eq.mpr c19
        clear c19
        obtain rfl := Option.some.inj H
        have hcz20_0 : wc.cell? ⟨gb143, 0, none⟩ = some (.bool false) := (bc_ BK143.out 0).trans rfl
        have hcz20_1 : wc.cell? ⟨gb143, 1, none⟩ = some (.int .i64 a2_1) := (bc_ BK143.out 1).trans rfl
        have hcz20_2 : wc.cell? ⟨gb143, 2, none⟩ = some (.string a2_2) := (bc_ BK143.out 2).trans rfl
        have hfz20_0 := bf_ BK143.out 0
        have hfz20_1 := bf_ BK143.out 1
        have hfz20_2 := bf_ BK143.out 2
        go_wp2
        go_ret
        exact ⟨by first | rfl | (simp only [Go.Proofs.Ytkdlfejokahohaa.Strs.nilB]; rfl) | (simp [errW_none, errW_some] <;> rfl) | (simp [*, errW_none, errW_some] <;> rfl), by repeat (first | (with_reducible first | exact HB.out | apply ba_ | apply bn_ | apply bd_ | refine bs_ ?_ GE143.out) | exact HB.out)⟩
       ·rw [if_neg c19] at H
        have c19b0 : (a0 == 1) = false := beq_eq_false_iff_ne.mpr c19
        have c19b1 : (a0 != 1) = true := bne_iff_ne.mpr c19
        by_cases c21 : a2_1 = 0
        ·rw [if_pos c21] at H
         have c21b0 : (a2_1 == 0) = true := beq_iff_eq.mpr c21
         have c21b1 : (a2_1 != 0) = false := bne_eq_false_iff_eq.mpr c21
         clear c21
         obtain rfl := Option.some.inj H
         have hcz22_0 : wc.cell? ⟨gb143, 0, none⟩ = some (.bool false) := (bc_ BK143.out 0).trans rfl
         have hcz22_1 : wc.cell? ⟨gb143, 1, none⟩ = some (.int .i64 a2_1) := (bc_ BK143.out 1).trans rfl
         have hcz22_2 : wc.cell? ⟨gb143, 2, none⟩ = some (.string a2_2) := (bc_ BK143.out 2).trans rfl
         have hfz22_0 := bf_ BK143.out 0
         have hfz22_1 := bf_ BK143.out 1
         have hfz22_2 := bf_ BK143.out 2
         go_wp2
         go_ret
         exact ⟨by first | rfl | (simp only [Go.Proofs.Ytkdlfejokahohaa.Strs.nilB]; rfl) | (simp [errW_none, errW_some] <;> rfl) | (simp [*, errW_none, errW_some] <;> rfl), by repeat (first | (with_reducible first | exact HB.out | apply ba_ | apply bn_ | apply bd_ | refine bs_ ?_ GE143.out) | exact HB.out)⟩
        ·rw [if_neg c21] at H
         have c21b0 : (a2_1 == 0) = false := beq_eq_false_iff_ne.mpr c21
         have c21b1 : (a2_1 != 0) = true := bne_iff_ne.mpr c21
         obtain rfl := Option.some.inj H
         have hcz23_0 : wc.cell? ⟨gb143, 0, none⟩ = some (.bool false) := (bc_ BK143.out 0).trans rfl
         have hcz23_1 : wc.cell? ⟨gb143, 1, none⟩ = some (.int .i64 a2_1) := (bc_ BK143.out 1).trans rfl
         have hcz23_2 : wc.cell? ⟨gb143, 2, none⟩ = some (.string a2_2) := (bc_ BK143.out 2).trans rfl
         have hfz23_0 := bf_ BK143.out 0
         have hfz23_1 := bf_ BK143.out 1
         have hfz23_2 := bf_ BK143.out 2
         go_wp2
         go_ret
         exact ⟨by first | rfl | (simp only [Go.Proofs.Ytkdlfejokahohaa.Strs.nilB]; rfl) | (simp [errW_none, errW_some] <;> rfl) | (simp [*, errW_none, errW_some] <;> rfl), by repeat (first | (with_reducible first | exact HB.out | apply ba_ | apply bn_ | apply bd_ | refine bs_ ?_ GE143.out) | exact HB.out)⟩
      ·rw [if_neg c18] at H
       have c18b0 : (a2_2.toList == ([] : List UInt8)) = false := beq_eq_false_iff_ne.mpr c18
       have c18b0e := c18b0
       simp only [Go.Proofs.Ytkdlfejokahohaa.Strs.nilB] at c18b0e
       have c18b1 : (a2_2.toList != ([] : List UInt8)) = true := bne_iff_ne.mpr c18
       obtain rfl := Option.some.inj H
       have hcz24_0 : wc.cell? ⟨gb143, 0, none⟩ = some (.bool false) := (bc_ BK143.out 0).trans rfl
       have hcz24_1 : wc.cell? ⟨gb143, 1, none⟩ = some (.int .i64 a2_1) := (bc_ BK143.out 1).trans rfl
       have hcz24_2 : wc.cell? ⟨gb143, 2, none⟩ = some (.string a2_2) := (bc_ BK143.out 2).trans rfl
       have hfz24_0 := bf_ BK143.out 0
       have hfz24_1 := bf_ BK143.out 1
       have hfz24_2 := bf_ BK143.out 2
       go_wp2
       go_ret
       exact ⟨by first | rfl | (simp only [Go.Proofs.Ytkdlfejokahohaa.Strs.nilB]; rfl) | (simp [errW_none, errW_some] <;> rfl) | (simp [*, errW_none, errW_some] <;> rfl), by repeat (first | (with_reducible first | exact HB.out | apply ba_ | apply bn_ | apply bd_ | refine bs_ ?_ GE143.out) | exact HB.out)⟩

end Go.Proofs.Ytkdlfejokahohaa.X
namespace Go.Proofs.Ytkdlfejokahohaa.X
open Go.RowKit Go.Proofs.YtkdlfejokahohaaW.PrintWords Go.Proofs.YtkdlfejokahohaaW.PrintLast Go.Proofs.YtkdlfejokahohaaW.PrintMore
attribute [local go_sem] max2_int min2_int max_two min_two max_three min_three max_four min_four   -- for this text's walks alone
set_option linter.unusedVariables false
open List (setIfInBounds_toArray set_cons_zero set_cons_succ)
set_option linter.unusedSimpArgs false

attribute [local go_sem high] eqA23
def firkinref11_May.j0 : Nat → Int → Bool → Int → Int → Bool → Int → ByteArray → Bool → Int → ByteArray → Option (Bool)
 | 0, _, _, _, _, _, _, _, _, _, _ => none
 | k + 1, x0, x32, x145000, x145001, x145002, x145003, x145004, x145005, x145006, x145007 => if x32 = true then (some false) else (if x145001 = x145000 then (if (!x145002 && (x145003 == 0 && (x145004.toList == ([] : List UInt8)))) = true then (some (!x145005 && (x145006 == 0 && (x145007.toList == ([] : List UInt8))))) else (some false)) else ((firkinref09_May.f k x0 false x145002 x145003 x145004).bind fun t145 => (if t145 = true then ((firkinref09_May.f k x0 false x145005 x145006 x145007).bind fun t146 => (if t146 = true then ((firkinref09_Order.f k x145002 x145003 x145004 x145005 x145006 x145007).bind fun t147 => (some (decide (t147 ≤ 0)))) else (some false))) else (some false))))
def firkinref11_May.f (k : Nat) (a0 : Int) (a1_0 : Int) (a1_1 : Int) (a1_2 : Bool) (a1_3 : Int) (a1_4 : ByteArray) (a1_5 : Bool) (a1_6 : Int) (a1_7 : ByteArray) : Option (Bool) := if a0 < 1 then (firkinref11_May.j0 k a0 true a1_0 a1_1 a1_2 a1_3 a1_4 a1_5 a1_6 a1_7) else (if a0 > 3 then (firkinref11_May.j0 k a0 true a1_0 a1_1 a1_2 a1_3 a1_4 a1_5 a1_6 a1_7) else (if a1_0 < 0 then (firkinref11_May.j0 k a0 true a1_0 a1_1 a1_2 a1_3 a1_4 a1_5 a1_6 a1_7) else (if a1_0 > 4096 then (firkinref11_May.j0 k a0 true a1_0 a1_1 a1_2 a1_3 a1_4 a1_5 a1_6 a1_7) else (if a1_1 < 0 then (firkinref11_May.j0 k a0 true a1_0 a1_1 a1_2 a1_3 a1_4 a1_5 a1_6 a1_7) else (firkinref11_May.j0 k a0 (decide (a1_1 > a1_0)) a1_0 a1_1 a1_2 a1_3 a1_4 a1_5 a1_6 a1_7)))))
theorem firkinref11_May.mono_l : ∀ k, (∀ y0 y1 y2 y3 y4 y5 y6 y7 y8 y9, LeO (firkinref11_May.j0 k y0 y1 y2 y3 y4 y5 y6 y7 y8 y9) (firkinref11_May.j0 (k + 1) y0 y1 y2 y3 y4 y5 y6 y7 y8 y9))
 | 0 => fun _ _ _ _ _ _ _ _ _ _ r h => by simp [firkinref11_May.j0] at h
 | k + 1 => by
  have ih0 := firkinref11_May.mono_l k
  ·intro y0 y1 y2 y3 y4 y5 y6 y7 y8 y9
   unfold firkinref11_May.j0
   repeat' first
   | (with_reducible exact ih0 _ _ _ _ _ _ _ _ _ _)
   | (with_reducible exact firkinref09_May.mono _ _ _ _ _ _)
   | (with_reducible exact firkinref09_Order.mono _ _ _ _ _ _ _)
   | (with_reducible exact LeO.refl _)
   | (with_reducible exact LeO.none _)
   | (with_reducible refine LeO.ite ?_ ?_)
   | (with_reducible refine LeO.bind ?_ (fun _ => ?_))
   | exact ih0 _ _ _ _ _ _ _ _ _ _
   | exact firkinref09_May.mono _ _ _ _ _ _
   | exact firkinref09_Order.mono _ _ _ _ _ _ _
   | exact LeO.none _
   | refine LeO.ite ?_ ?_
   | refine LeO.bind ?_ (fun _ => ?_)
theorem firkinref11_May.mono : ∀ a0 a1 a2 a3 a4 a5 a6 a7 a8 k, LeO (firkinref11_May.f k a0 a1 a2 a3 a4 a5 a6 a7 a8) (firkinref11_May.f (k + 1) a0 a1 a2 a3 a4 a5 a6 a7 a8) := by
 intro a0 a1 a2 a3 a4 a5 a6 a7 a8 k
 have ih0 := firkinref11_May.mono_l k
 unfold firkinref11_May.f
 repeat' first
   | (with_reducible exact ih0 _ _ _ _ _ _ _ _ _ _)
   | (with_reducible exact firkinref09_May.mono _ _ _ _ _ _)
   | (with_reducible exact firkinref09_Order.mono _ _ _ _ _ _ _)
   | (with_reducible exact LeO.refl _)
   | (with_reducible exact LeO.none _)
   | (with_reducible refine LeO.ite ?_ ?_)
   | (with_reducible refine LeO.bind ?_ (fun _ => ?_))
   | exact ih0 _ _ _ _ _ _ _ _ _ _
   | exact firkinref09_May.mono _ _ _ _ _ _
   | exact firkinref09_Order.mono _ _ _ _ _ _ _
   | exact LeO.none _
   | refine LeO.ite ?_ ?_
   | refine LeO.bind ?_ (fun _ => ?_)
theorem firkinref11_May.calls (k : Nat) (a0 : Int) (a1_0 : Int) (a1_1 : Int) (a1_2 : Bool) (a1_3 : Int) (a1_4 : ByteArray) (a1_5 : Bool) (a1_6 : Int) (a1_7 : ByteArray) (r : Bool) (w : World) (h : firkinref11_May.f k a0 a1_0 a1_1 a1_2 a1_3 a1_4 a1_5 a1_6 a1_7 = some r) :
  Calls Try.prog 17 #[.int .i64 a0, .agg #[.int .i64 a1_0, .int .i64 a1_1, .bool a1_2, .int .i64 a1_3, .string a1_4, .bool a1_5, .int .i64 a1_6, .string a1_7]] w fun e w' => e = .returned (.bool r) ∧ Below w.heap.size w w' := by
 have hu25 := Try.underlying25
 have hu23 := Try.underlying23
 have HB := A_ (Below.refl w.heap.size w)
 have H : (if a0 < 1 then (firkinref11_May.j0 k a0 true a1_0 a1_1 a1_2 a1_3 a1_4 a1_5 a1_6 a1_7) else (if a0 > 3 then (firkinref11_May.j0 k a0 true a1_0 a1_1 a1_2 a1_3 a1_4 a1_5 a1_6 a1_7) else (if a1_0 < 0 then (firkinref11_May.j0 k a0 true a1_0 a1_1 a1_2 a1_3 a1_4 a1_5 a1_6 a1_7) else (if a1_0 > 4096 then (firkinref11_May.j0 k a0 true a1_0 a1_1 a1_2 a1_3 a1_4 a1_5 a1_6 a1_7) else (if a1_1 < 0 then (firkinref11_May.j0 k a0 true a1_0 a1_1 a1_2 a1_3 a1_4 a1_5 a1_6 a1_7) else (firkinref11_May.j0 k a0 (decide (a1_1 > a1_0)) a1_0 a1_1 a1_2 a1_3 a1_4 a1_5 a1_6 a1_7)))))) = some r := h
 clear h
 have HC3 := A_ H
 clear H
 go_enter Try.func17, Try.ntmps17
 go_upto_region 1 with (first | ((with_reducible refine gate_dst (N := 3) rfl ?_); refine box_event ?hg (N := 3) ?hd (cs := #[.int .i64 a1_0, .int .i64 a1_1, .bool a1_2, .int .i64 a1_3, .string a1_4, .bool a1_5, .int .i64 a1_6, .string a1_7]) (t := 25) ?hr ?_; (case hd => rfl); (case hg => rfl); (case hr => first | (go_simp; done) | (go_simp; rfl)); intro gb144 hg w4 hbox hb; have n0_ := A_ (bp_ (by repeat (first | (with_reducible first | exact HB.out | apply ba_ | apply bn_ | apply bd_) | exact HB.out)) hb); have n1_ := A_ (hbox); have n2_ := A_ ((by rw [hg]; exact (below_size (by repeat (first | (with_reducible first | exact HB.out | apply ba_ | apply bn_ | apply bd_) | exact HB.out))) : w.heap.size ≤ gb144)); have n3_ := A_ ((by rw [hg]; exact (below_size (by repeat (first | (with_reducible first | exact HB.out | apply ba_ | apply bn_ | apply bd_) | exact HB.out))) : w.heap.size ≤ gb144)); clear HB; have HB := n0_; have BK144 := n1_; have GW144 := n2_; have GE144 := n3_; clear n0_ n1_ n2_ n3_; clear hb hbox hg))
 (try simp only [Act.put, setIfInBounds_toArray, set_cons_zero, set_cons_succ])
 go_cut [32] (fun v32 wc => ∃ (kq : Nat) (x32_2 : Bool), v32 = .bool x32_2 ∧ Aside0 (firkinref11_May.j0 kq a0 x32_2 a1_0 a1_1 a1_2 a1_3 a1_4 a1_5 a1_6 a1_7 = some r) ∧ Aside0 (kq ≤ k) ∧ Aside0 (wc.heap[gb144]? = some (.cells #[.int .i64 a1_0, .int .i64 a1_1, .bool a1_2, .int .i64 a1_3, .string a1_4, .bool a1_5, .int .i64 a1_6, .string a1_7] 25 (0, 0))) ∧ Aside0 (Below w.heap.size w wc))
 case first =>
  have H := HC3.out
  clear HC3
  by_cases c5 : a0 < 1
  ·rw [if_pos c5] at H
   have c5b0 : decide (a0 < 1) = true := decide_eq_true c5
   clear c5
   (first | rw [c5b0] | (simp only [i64_w, i32_w]; rw [c5b0]) | skip)
   have H' := A_ H
   clear H
   go_wp2
   go_meet
   case rel => exact ⟨_, (true), (by first | rfl | (simp; done) | (simp [*]; done)), H', ⟨by first | omega | exact Nat.le_refl _⟩, ⟨by (with_reducible repeat (first | refine kn_ ?_ _ | refine kd_ ?_ | refine ka_ ?_ _)); exact BK144.out⟩, ⟨by repeat (first | (with_reducible first | exact HB.out | apply ba_ | apply bn_ | apply bd_ | refine bs_ ?_ GE144.out) | exact HB.out)⟩⟩
  ·rw [if_neg c5] at H
   have c5b0 : decide (a0 < 1) = false := decide_eq_false c5
   clear c5
   (first | rw [c5b0] | (simp only [i64_w, i32_w]; rw [c5b0]) | skip)
   by_cases c6 : a0 > 3
   ·rw [if_pos c6] at H
    have c6b0 : decide (3 < a0) = true := decide_eq_true c6
    clear c6
    have H' := A_ H
    clear H
    go_wp2
    go_meet
    case rel => exact ⟨_, (true), (by first | rfl | (simp; done) | (simp [*]; done)), H', ⟨by first | omega | exact Nat.le_refl _⟩, ⟨by (with_reducible repeat (first | refine kn_ ?_ _ | refine kd_ ?_ | refine ka_ ?_ _)); exact BK144.out⟩, ⟨by repeat (first | (with_reducible first | exact HB.out | apply ba_ | apply bn_ | apply bd_ | refine bs_ ?_ GE144.out) | exact HB.out)⟩⟩
   ·rw [if_neg c6] at H
    have c6b0 : decide (3 < a0) = false := decide_eq_false c6
    clear c6
    by_cases c7 : a1_0 < 0
    ·rw [if_pos c7] at H
     have c7b0 : decide (a1_0 < 0) = true := decide_eq_true c7
     clear c7
     have H' := A_ H
     clear H
     have hcz8_0 : w4.cell? ⟨gb144, 0, none⟩ = some (.int .i64 a1_0) := (bc_ BK144.out 0).trans rfl
     have hcz8_1 : w4.cell? ⟨gb144, 1, none⟩ = some (.int .i64 a1_1) := (bc_ BK144.out 1).trans rfl
     have hcz8_2 : w4.cell? ⟨gb144, 2, none⟩ = some (.bool a1_2) := (bc_ BK144.out 2).trans rfl
     have hcz8_3 : w4.cell? ⟨gb144, 3, none⟩ = some (.int .i64 a1_3) := (bc_ BK144.out 3).trans rfl
     have hcz8_4 : w4.cell? ⟨gb144, 4, none⟩ = some (.string a1_4) := (bc_ BK144.out 4).trans rfl
     have hcz8_5 : w4.cell? ⟨gb144, 5, none⟩ = some (.bool a1_5) := (bc_ BK144.out 5).trans rfl
     have hcz8_6 : w4.cell? ⟨gb144, 6, none⟩ = some (.int .i64 a1_6) := (bc_ BK144.out 6).trans rfl
     have hcz8_7 : w4.cell? ⟨gb144, 7, none⟩ = some (.string a1_7) := (bc_ BK144.out 7).trans rfl
     have hfz8_0 := bf_ BK144.out 0
     have hfz8_1 := bf_ BK144.out 1
     have hfz8_2 := bf_ BK144.out 2
     have hfz8_3 := bf_ BK144.out 3
     have hfz8_4 := bf_ BK144.out 4
     have hfz8_5 := bf_ BK144.out 5
     have hfz8_6 := bf_ BK144.out 6
     have hfz8_7 := bf_ BK144.out 7
     go_wp2
     go_meet
     case rel => exact ⟨_, (true), (by first | rfl | (simp; done) | (simp [*]; done)), H', ⟨by first | omega | exact Nat.le_refl _⟩, ⟨by (with_reducible repeat (first | refine kn_ ?_ _ | refine kd_ ?_ | refine ka_ ?_ _)); exact BK144.out⟩, ⟨by repeat (first | (with_reducible first | exact HB.out | apply ba_ | apply bn_ | apply bd_ | refine bs_ ?_ GE144.out) | exact HB.out)⟩⟩
    ·rw [if_neg c7] at H
     have c7b0 : decide (a1_0 < 0) = false := decide_eq_false c7
     clear c7
     by_cases c9 : a1_0 > 4096
     ·rw [if_pos c9] at H
      have c9b0 : decide (4096 < a1_0) = true := decide_eq_true c9
      clear c9
      have H' := A_ H
      clear H
      have hcz10_0 : w4.cell? ⟨gb144, 0, none⟩ = some (.int .i64 a1_0) := (bc_ BK144.out 0).trans rfl
      have hcz10_1 : w4.cell? ⟨gb144, 1, none⟩ = some (.int .i64 a1_1) := (bc_ BK144.out 1).trans rfl
      have hcz10_2 : w4.cell? ⟨gb144, 2, none⟩ = some (.bool a1_2) := (bc_ BK144.out 2).trans rfl
      have hcz10_3 : w4.cell? ⟨gb144, 3, none⟩ = some (.int .i64 a1_3) := (bc_ BK144.out 3).trans rfl
      have hcz10_4 : w4.cell? ⟨gb144, 4, none⟩ = some (.string a1_4) := (bc_ BK144.out 4).trans rfl
      have hcz10_5 : w4.cell? ⟨gb144, 5, none⟩ = some (.bool a1_5) := (bc_ BK144.out 5).trans rfl
      have hcz10_6 : w4.cell? ⟨gb144, 6, none⟩ = some (.int .i64 a1_6) := (bc_ BK144.out 6).trans rfl
      have hcz10_7 : w4.cell? ⟨gb144, 7, none⟩ = some (.string a1_7) := (bc_ BK144.out 7).trans rfl
      have hfz10_0 := bf_ BK144.out 0
      have hfz10_1 := bf_ BK144.out 1
      have hfz10_2 := bf_ BK144.out 2
      have hfz10_3 := bf_ BK144.out 3
      have hfz10_4 := bf_ BK144.out 4
      have hfz10_5 := bf_ BK144.out 5
      have hfz10_6 := bf_ BK144.out 6
      have hfz10_7 := bf_ BK144.out 7
      go_wp2
      go_meet
      case rel => exact ⟨_, (true), (by first | rfl | (simp; done) | (simp [*]; done)), H', ⟨by first | omega | exact Nat.le_refl _⟩, ⟨by (with_reducible repeat (first | refine kn_ ?_ _ | refine kd_ ?_ | refine ka_ ?_ _)); exact BK144.out⟩, ⟨by repeat (first | (with_reducible first | exact HB.out | apply ba_ | apply bn_ | apply bd_ | refine bs_ ?_ GE144.out) | exact HB.out)⟩⟩
     ·rw [if_neg c9] at H
      have c9b0 : decide (4096 < a1_0) = false := decide_eq_false c9
      clear c9
      by_cases c11 : a1_1 < 0
      ·rw [if_pos c11] at H
       have c11b0 : decide (a1_1 < 0) = true := decide_eq_true c11
       clear c11
       have H' := A_ H
       clear H
       have hcz12_0 : w4.cell? ⟨gb144, 0, none⟩ = some (.int .i64 a1_0) := (bc_ BK144.out 0).trans rfl
       have hcz12_1 : w4.cell? ⟨gb144, 1, none⟩ = some (.int .i64 a1_1) := (bc_ BK144.out 1).trans rfl
       have hcz12_2 : w4.cell? ⟨gb144, 2, none⟩ = some (.bool a1_2) := (bc_ BK144.out 2).trans rfl
       have hcz12_3 : w4.cell? ⟨gb144, 3, none⟩ = some (.int .i64 a1_3) := (bc_ BK144.out 3).trans rfl
       have hcz12_4 : w4.cell? ⟨gb144, 4, none⟩ = some (.string a1_4) := (bc_ BK144.out 4).trans rfl
       have hcz12_5 : w4.cell? ⟨gb144, 5, none⟩ = some (.bool a1_5) := (bc_ BK144.out 5).trans rfl
       have hcz12_6 : w4.cell? ⟨gb144, 6, none⟩ = some (.int .i64 a1_6) := (bc_ BK144.out 6).trans rfl
       have hcz12_7 : w4.cell? ⟨gb144, 7, none⟩ = some (.string a1_7) := (bc_ BK144.out 7).trans rfl
       have hfz12_0 := bf_ BK144.out 0
       have hfz12_1 := bf_ BK144.out 1
       have hfz12_2 := bf_ BK144.out 2
       have hfz12_3 := bf_ BK144.out 3
       have hfz12_4 := bf_ BK144.out 4
       have hfz12_5 := bf_ BK144.out 5
       have hfz12_6 := bf_ BK144.out 6
       have hfz12_7 := bf_ BK144.out 7
       go_wp2
       go_meet
       case rel => exact ⟨_, (true), (by first | rfl | (simp; done) | (simp [*]; done)), H', ⟨by first | omega | exact Nat.le_refl _⟩, ⟨by (with_reducible repeat (first | refine kn_ ?_ _ | refine kd_ ?_ | refine ka_ ?_ _)); exact BK144.out⟩, ⟨by repeat (first | (with_reducible first | exact HB.out | apply ba_ | apply bn_ | apply bd_ | refine bs_ ?_ GE144.out) | exact HB.out)⟩⟩
      ·rw [if_neg c11] at H
       have c11b0 : decide (a1_1 < 0) = false := decide_eq_false c11
       clear c11
       have H' := A_ H
       clear H
       have hcz13_0 : w4.cell? ⟨gb144, 0, none⟩ = some (.int .i64 a1_0) := (bc_ BK144.out 0).trans rfl
       have hcz13_1 : w4.cell? ⟨gb144, 1, none⟩ = some (.int .i64 a1_1) := (bc_ BK144.out 1).trans rfl
       have hcz13_2 : w4.cell? ⟨gb144, 2, none⟩ = some (.bool a1_2) := (bc_ BK144.out 2).trans rfl
       have hcz13_3 : w4.cell? ⟨gb144, 3, none⟩ = some (.int .i64 a1_3) := (bc_ BK144.out 3).trans rfl
       have hcz13_4 : w4.cell? ⟨gb144, 4, none⟩ = some (.string a1_4) := (bc_ BK144.out 4).trans rfl
       have hcz13_5 : w4.cell? ⟨gb144, 5, none⟩ = some (.bool a1_5) := (bc_ BK144.out 5).trans rfl
       have hcz13_6 : w4.cell? ⟨gb144, 6, none⟩ = some (.int .i64 a1_6) := (bc_ BK144.out 6).trans rfl
       have hcz13_7 : w4.cell? ⟨gb144, 7, none⟩ = some (.string a1_7) := (bc_ BK144.out 7).trans rfl
       have hfz13_0 := bf_ BK144.out 0
       have hfz13_1 := bf_ BK144.out 1
       have hfz13_2 := bf_ BK144.out 2
       have hfz13_3 := bf_ BK144.out 3
       have hfz13_4 := bf_ BK144.out 4
       have hfz13_5 := bf_ BK144.out 5
       have hfz13_6 := bf_ BK144.out 6
       have hfz13_7 := bf_ BK144.out 7
       go_wp2
       go_meet
       case rel => exact ⟨_, (decide (a1_1 > a1_0)), (by first | rfl | (simp; done) | (simp [*]; done)), H', ⟨by first | omega | exact Nat.le_refl _⟩, ⟨by (with_reducible repeat (first | refine kn_ ?_ _ | refine kd_ ?_ | refine ka_ ?_ _)); exact BK144.out⟩, ⟨by repeat (first | (with_reducible first | exact HB.out | apply ba_ | apply bn_ | apply bd_ | refine bs_ ?_ GE144.out) | exact HB.out)⟩⟩
 case rest =>
  clear HC3
  try clear c1
  try clear p2
  try clear c5
  try clear c5b0
  try clear c6
  try clear c6b0
  try clear c7
  try clear c7b0
  try clear c9
  try clear c9b0
  try clear c11
  try clear c11b0
  try clear hcz10_0
  try clear hcz10_1
  try clear hcz10_2
  try clear hcz10_3
  try clear hcz10_4
  try clear hcz10_5
  try clear hcz10_6
  try clear hcz10_7
  try clear hcz12_0
  try clear hcz12_1
  try clear hcz12_2
  try clear hcz12_3
  try clear hcz12_4
  try clear hcz12_5
  try clear hcz12_6
  try clear hcz12_7
  try clear hcz13_0
  try clear hcz13_1
  try clear hcz13_2
  try clear hcz13_3
  try clear hcz13_4
  try clear hcz13_5
  try clear hcz13_6
  try clear hcz13_7
  try clear hcz8_0
  try clear hcz8_1
  try clear hcz8_2
  try clear hcz8_3
  try clear hcz8_4
  try clear hcz8_5
  try clear hcz8_6
  try clear hcz8_7
  try clear hfz10_0
  try clear hfz10_1
  try clear hfz10_2
  try clear hfz10_3
  try clear hfz10_4
  try clear hfz10_5
  try clear hfz10_6
  try clear hfz10_7
  try clear hfz12_0
  try clear hfz12_1
  try clear hfz12_2
  try clear hfz12_3
  try clear hfz12_4
  try clear hfz12_5
  try clear hfz12_6
  try clear hfz12_7
  try clear hfz13_0
  try clear hfz13_1
  try clear hfz13_2
  try clear hfz13_3
  try clear hfz13_4
  try clear hfz13_5
  try clear hfz13_6
  try clear hfz13_7
  try clear hfz8_0
  try clear hfz8_1
  try clear hfz8_2
  try clear hfz8_3
  try clear hfz8_4
  try clear hfz8_5
  try clear hfz8_6
  try clear hfz8_7
  obtain ⟨kq, x32_2, rfl, HA, HJ2, BK144, HB⟩ := hcut
  cases kq with
  | zero => exact absurd HA.out (by simp [firkinref11_May.j0])
  | succ kj2 =>
   have H := HA.out
   clear HA
   simp only [firkinref11_May.j0] at H
   by_cases c14 : x32_2 = true
   ·subst c14
    have H1 : (some false) = some r := by rw [if_pos rfl] at H; exact H
    clear H
    have H := H1
    clear H1
    obtain rfl := Option.some.inj H
    go_wp2
    go_ret
    exact ⟨by first | rfl | (simp only [Go.Proofs.Ytkdlfejokahohaa.Strs.nilB]; rfl) | (simp [errW_none, errW_some] <;> rfl) | (simp [*, errW_none, errW_some] <;> rfl), by repeat (first | (with_reducible first | exact HB.out | apply ba_ | apply bn_ | apply bd_ | refine bs_ ?_ GE144.out) | exact HB.out)⟩
   ·replace c14 := Bool.eq_false_iff.mpr c14
    subst c14
    have H1 : (if a1_1 = a1_0 then (if (!a1_2 && (a1_3 == 0 && (a1_4.toList == ([] : List UInt8)))) = true then (some (!a1_5 && (a1_6 == 0 && (a1_7.toList == ([] : List UInt8))))) else (some false)) else ((firkinref09_May.f kj2 a0 false a1_2 a1_3 a1_4).bind fun t145 => (if t145 = true then ((firkinref09_May.f kj2 a0 false a1_5 a1_6 a1_7).bind fun t146 => (if t146 = true then ((firkinref09_Order.f kj2 a1_2 a1_3 a1_4 a1_5 a1_6 a1_7).bind fun t147 => (some (decide (t147 ≤ 0)))) else (some false))) else (some false)))) = some r := by rw [if_neg (show ¬ (false = true) by decide)] at H; exact H
    clear H
    have H := H1
    clear H1
    by_cases c15 : a1_1 = a1_0
    ·rw [if_pos c15] at H
     have c15b0 : (a1_1 == a1_0) = true := beq_iff_eq.mpr c15
     have c15b1 : (a1_1 != a1_0) = false := bne_eq_false_iff_eq.mpr c15
     clear c15
     by_cases c16 : (!a1_2 && (a1_3 == 0 && (a1_4.toList == ([] : List UInt8)))) = true
     ·rw [if_pos c16] at H
      have c16b0 : (!a1_2 && (a1_3 == 0 && (a1_4.toList == ([] : List UInt8)))) = true := c16
      have c16b0e := c16b0
      simp only [Go.Proofs.Ytkdlfejokahohaa.Strs.nilB] at c16b0e
      clear c16
      obtain rfl := Option.some.inj H
      have hcz17_0 : wc.cell? ⟨gb144, 0, none⟩ = some (.int .i64 a1_0) := (bc_ BK144.out 0).trans rfl
      have hcz17_1 : wc.cell? ⟨gb144, 1, none⟩ = some (.int .i64 a1_1) := (bc_ BK144.out 1).trans rfl
      have hcz17_2 : wc.cell? ⟨gb144, 2, none⟩ = some (.bool a1_2) := (bc_ BK144.out 2).trans rfl
      have hcz17_3 : wc.cell? ⟨gb144, 3, none⟩ = some (.int .i64 a1_3) := (bc_ BK144.out 3).trans rfl
      have hcz17_4 : wc.cell? ⟨gb144, 4, none⟩ = some (.string a1_4) := (bc_ BK144.out 4).trans rfl
      have hcz17_5 : wc.cell? ⟨gb144, 5, none⟩ = some (.bool a1_5) := (bc_ BK144.out 5).trans rfl
      have hcz17_6 : wc.cell? ⟨gb144, 6, none⟩ = some (.int .i64 a1_6) := (bc_ BK144.out 6).trans rfl
      have hcz17_7 : wc.cell? ⟨gb144, 7, none⟩ = some (.string a1_7) := (bc_ BK144.out 7).trans rfl
      have hfz17_0 := bf_ BK144.out 0
      have hfz17_1 := bf_ BK144.out 1
      have hfz17_2 := bf_ BK144.out 2
      have hfz17_3 := bf_ BK144.out 3
      have hfz17_4 := bf_ BK144.out 4
      have hfz17_5 := bf_ BK144.out 5
      have hfz17_6 := bf_ BK144.out 6
      have hfz17_7 := bf_ BK144.out 7
      go_wp2
      go_ret
      exact ⟨by first | rfl | (simp only [Go.Proofs.Ytkdlfejokahohaa.Strs.nilB]; rfl) | (simp [errW_none, errW_some] <;> rfl) | (simp [*, errW_none, errW_some] <;> rfl), by repeat (first | (with_reducible first | exact HB.out | apply ba_ | apply bn_ | apply bd_ | refine bs_ ?_ GE144.out) | exact HB.out)⟩
     ·rw [if_neg c16] at H
      have c16b0 : (!a1_2 && (a1_3 == 0 && (a1_4.toList == ([] : List UInt8)))) = false := by simpa using c16
      have c16b0e := c16b0
      simp only [Go.Proofs.Ytkdlfejokahohaa.Strs.nilB] at c16b0e
      clear c16
      obtain rfl := Option.some.inj H
      have hcz18_0 : wc.cell? ⟨gb144, 0, none⟩ = some (.int .i64 a1_0) := (bc_ BK144.out 0).trans rfl
      have hcz18_1 : wc.cell? ⟨gb144, 1, none⟩ = some (.int .i64 a1_1) := (bc_ BK144.out 1).trans rfl
      have hcz18_2 : wc.cell? ⟨gb144, 2, none⟩ = some (.bool a1_2) := (bc_ BK144.out 2).trans rfl
      have hcz18_3 : wc.cell? ⟨gb144, 3, none⟩ = some (.int .i64 a1_3) := (bc_ BK144.out 3).trans rfl
      have hcz18_4 : wc.cell? ⟨gb144, 4, none⟩ = some (.string a1_4) := (bc_ BK144.out 4).trans rfl
      have hcz18_5 : wc.cell? ⟨gb144, 5, none⟩ = some (.bool a1_5) := (bc_ BK144.out 5).trans rfl
      have hcz18_6 : wc.cell? ⟨gb144, 6, none⟩ = some (.int .i64 a1_6) := (bc_ BK144.out 6).trans rfl
      have hcz18_7 : wc.cell? ⟨gb144, 7, none⟩ = some (.string a1_7) := (bc_ BK144.out 7).trans rfl
      have hfz18_0 := bf_ BK144.out 0
      have hfz18_1 := bf_ BK144.out 1
      have hfz18_2 := bf_ BK144.out 2
      have hfz18_3 := bf_ BK144.out 3
      have hfz18_4 := bf_ BK144.out 4
      have hfz18_5 := bf_ BK144.out 5
      have hfz18_6 := bf_ BK144.out 6
      have hfz18_7 := bf_ BK144.out 7
      go_wp2
      go_ret
      exact ⟨by first | rfl | (simp only [Go.Proofs.Ytkdlfejokahohaa.Strs.nilB]; rfl) | (simp [errW_none, errW_some] <;> rfl) | (simp [*, errW_none, errW_some] <;> rfl), by repeat (first | (with_reducible first | exact HB.out | apply ba_ | apply bn_ | apply bd_ | refine bs_ ?_ GE144.out) | exact HB.out)⟩
    ·rw [if_neg c15] at H
     have c15b0 : (a1_1 == a1_0) = false := beq_eq_false_iff_ne.mpr c15
     have c15b1 : (a1_1 != a1_0) = true := bne_iff_ne.mpr c15
     replace H := Option.bind_eq_some_iff.mp H
     obtain ⟨t145, A190, H⟩ := H
     replace H : (if t145 = true then ((firkinref09_May.f kj2 a0 false a1_5 a1_6 a1_7).bind fun t146 => (if t146 = true then ((firkinref09_Order.f kj2 a1_2 a1_3 a1_4 a1_5 a1_6 a1_7).bind fun t147 => (some (decide (t147 ≤ 0)))) else (some false))) else (some false)) = some r := H
     have A19 := A_ A190
     clear A190
     by_cases c20 : t145 = true
     ·subst c20
      have H1 : ((firkinref09_May.f kj2 a0 false a1_5 a1_6 a1_7).bind fun t146 => (if t146 = true then ((firkinref09_Order.f kj2 a1_2 a1_3 a1_4 a1_5 a1_6 a1_7).bind fun t147 => (some (decide (t147 ≤ 0)))) else (some false))) = some r := by rw [if_pos rfl] at H; exact H
      clear H
      have H := H1
      clear H1
      replace H := Option.bind_eq_some_iff.mp H
      obtain ⟨t146, A210, H⟩ := H
      replace H : (if t146 = true then ((firkinref09_Order.f kj2 a1_2 a1_3 a1_4 a1_5 a1_6 a1_7).bind fun t147 => (some (decide (t147 ≤ 0)))) else (some false)) = some r := H
      have A21 := A_ A210
      clear A210
      by_cases c22 : t146 = true
      ·subst c22
       have H1 : ((firkinref09_Order.f kj2 a1_2 a1_3 a1_4 a1_5 a1_6 a1_7).bind fun t147 => (some (decide (t147 ≤ 0)))) = some r := by rw [if_pos rfl] at H; exact H
       clear H
       have H := H1
       clear H1
       replace H := Option.bind_eq_some_iff.mp H
       obtain ⟨t147, A230, H⟩ := H
       replace H : (some (decide (t147 ≤ 0))) = some r := H
       have A23 := A_ A230
       clear A230
       obtain rfl := Option.some.inj H
       have hcz24_0 : wc.cell? ⟨gb144, 0, none⟩ = some (.int .i64 a1_0) := (bc_ BK144.out 0).trans rfl
       have hcz24_1 : wc.cell? ⟨gb144, 1, none⟩ = some (.int .i64 a1_1) := (bc_ BK144.out 1).trans rfl
       have hcz24_2 : wc.cell? ⟨gb144, 2, none⟩ = some (.bool a1_2) := (bc_ BK144.out 2).trans rfl
       have hcz24_3 : wc.cell? ⟨gb144, 3, none⟩ = some (.int .i64 a1_3) := (bc_ BK144.out 3).trans rfl
       have hcz24_4 : wc.cell? ⟨gb144, 4, none⟩ = some (.string a1_4) := (bc_ BK144.out 4).trans rfl
       have hcz24_5 : wc.cell? ⟨gb144, 5, none⟩ = some (.bool a1_5) := (bc_ BK144.out 5).trans rfl
       have hcz24_6 : wc.cell? ⟨gb144, 6, none⟩ = some (.int .i64 a1_6) := (bc_ BK144.out 6).trans rfl
       have hcz24_7 : wc.cell? ⟨gb144, 7, none⟩ = some (.string a1_7) := (bc_ BK144.out 7).trans rfl
       have hfz24_0 := bf_ BK144.out 0
       have hfz24_1 := bf_ BK144.out 1
       have hfz24_2 := bf_ BK144.out 2
       have hfz24_3 := bf_ BK144.out 3
       have hfz24_4 := bf_ BK144.out 4
       have hfz24_5 := bf_ BK144.out 5
       have hfz24_6 := bf_ BK144.out 6
       have hfz24_7 := bf_ BK144.out 7
       go_wp2_with (first | ((with_reducible refine gate_callee (f := 67) rfl ?_); refine goesL_ (some 51) rfl rfl Try.func67 (by kernel_rfl) rfl #[.int .i64 a0, .bool false, .agg #[.bool a1_2, .int .i64 a1_3, .string a1_4]] rfl (by (try simp only [List.map_toArray, List.map_cons, List.map_nil]); first | done | rfl | (simp only [List.length_drop, List.length_take]; rfl)) ?_; (with_reducible refine (firkinref09_May.calls kj2 a0 false a1_2 a1_3 a1_4 true _ A19.out).mono ?_); rintro e w25 ⟨rfl, hb⟩; refine ⟨_, rfl, ?_⟩; have n0_ := A_ (blk_below (g := gb144) (o := .cells #[.int .i64 a1_0, .int .i64 a1_1, .bool a1_2, .int .i64 a1_3, .string a1_4, .bool a1_5, .int .i64 a1_6, .string a1_7] 25 (0, 0)) (by (with_reducible repeat (first | refine kn_ ?_ _ | refine kd_ ?_ | refine ka_ ?_ _)); exact BK144.out) hb); have n1_ := A_ (bp_ (by repeat (first | (with_reducible first | exact HB.out | apply ba_ | apply bn_ | apply bd_ | refine bs_ ?_ GE144.out) | exact HB.out)) hb); clear BK144; clear HB; have BK144 := n0_; have HB := n1_; clear n0_ n1_; (try clear hb); (try clear hb2); (try clear hk); (try clear hi); have hcz26_0 : w25.cell? ⟨gb144, 0, none⟩ = some (.int .i64 a1_0) := (bc_ BK144.out 0).trans rfl; have hcz26_1 : w25.cell? ⟨gb144, 1, none⟩ = some (.int .i64 a1_1) := (bc_ BK144.out 1).trans rfl; have hcz26_2 : w25.cell? ⟨gb144, 2, none⟩ = some (.bool a1_2) := (bc_ BK144.out 2).trans rfl; have hcz26_3 : w25.cell? ⟨gb144, 3, none⟩ = some (.int .i64 a1_3) := (bc_ BK144.out 3).trans rfl; have hcz26_4 : w25.cell? ⟨gb144, 4, none⟩ = some (.string a1_4) := (bc_ BK144.out 4).trans rfl; have hcz26_5 : w25.cell? ⟨gb144, 5, none⟩ = some (.bool a1_5) := (bc_ BK144.out 5).trans rfl; have hcz26_6 : w25.cell? ⟨gb144, 6, none⟩ = some (.int .i64 a1_6) := (bc_ BK144.out 6).trans rfl; have hcz26_7 : w25.cell? ⟨gb144, 7, none⟩ = some (.string a1_7) := (bc_ BK144.out 7).trans rfl; have hfz26_0 := bf_ BK144.out 0; have hfz26_1 := bf_ BK144.out 1; have hfz26_2 := bf_ BK144.out 2; have hfz26_3 := bf_ BK144.out 3; have hfz26_4 := bf_ BK144.out 4; have hfz26_5 := bf_ BK144.out 5; have hfz26_6 := bf_ BK144.out 6; have hfz26_7 := bf_ BK144.out 7) | (go_at_call 67; (with_reducible refine (firkinref09_May.calls kj2 a0 false a1_5 a1_6 a1_7 true _ A21.out).mono ?_); rintro e w27 ⟨rfl, hb⟩; have n0_ := A_ (blk_below (g := gb144) (o := .cells #[.int .i64 a1_0, .int .i64 a1_1, .bool a1_2, .int .i64 a1_3, .string a1_4, .bool a1_5, .int .i64 a1_6, .string a1_7] 25 (0, 0)) (by (with_reducible repeat (first | refine kn_ ?_ _ | refine kd_ ?_ | refine ka_ ?_ _)); exact BK144.out) hb); have n1_ := A_ (bp_ (by repeat (first | (with_reducible first | exact HB.out | apply ba_ | apply bn_ | apply bd_ | refine bs_ ?_ GE144.out) | exact HB.out)) hb); clear BK144; clear HB; have BK144 := n0_; have HB := n1_; clear n0_ n1_; (try clear hb); (try clear hb2); (try clear hk); (try clear hi); (try clear A21); have hcz28_0 : w27.cell? ⟨gb144, 0, none⟩ = some (.int .i64 a1_0) := (bc_ BK144.out 0).trans rfl; have hcz28_1 : w27.cell? ⟨gb144, 1, none⟩ = some (.int .i64 a1_1) := (bc_ BK144.out 1).trans rfl; have hcz28_2 : w27.cell? ⟨gb144, 2, none⟩ = some (.bool a1_2) := (bc_ BK144.out 2).trans rfl; have hcz28_3 : w27.cell? ⟨gb144, 3, none⟩ = some (.int .i64 a1_3) := (bc_ BK144.out 3).trans rfl; have hcz28_4 : w27.cell? ⟨gb144, 4, none⟩ = some (.string a1_4) := (bc_ BK144.out 4).trans rfl; have hcz28_5 : w27.cell? ⟨gb144, 5, none⟩ = some (.bool a1_5) := (bc_ BK144.out 5).trans rfl; have hcz28_6 : w27.cell? ⟨gb144, 6, none⟩ = some (.int .i64 a1_6) := (bc_ BK144.out 6).trans rfl; have hcz28_7 : w27.cell? ⟨gb144, 7, none⟩ = some (.string a1_7) := (bc_ BK144.out 7).trans rfl; have hfz28_0 := bf_ BK144.out 0; have hfz28_1 := bf_ BK144.out 1; have hfz28_2 := bf_ BK144.out 2; have hfz28_3 := bf_ BK144.out 3; have hfz28_4 := bf_ BK144.out 4; have hfz28_5 := bf_ BK144.out 5; have hfz28_6 := bf_ BK144.out 6; have hfz28_7 := bf_ BK144.out 7) | (go_at_call 75; (with_reducible refine (firkinref09_Order.calls kj2 a1_2 a1_3 a1_4 a1_5 a1_6 a1_7 t147 _ A23.out).mono ?_); rintro e w29 ⟨rfl, hb⟩; have n0_ := A_ (blk_below (g := gb144) (o := .cells #[.int .i64 a1_0, .int .i64 a1_1, .bool a1_2, .int .i64 a1_3, .string a1_4, .bool a1_5, .int .i64 a1_6, .string a1_7] 25 (0, 0)) (by (with_reducible repeat (first | refine kn_ ?_ _ | refine kd_ ?_ | refine ka_ ?_ _)); exact BK144.out) hb); have n1_ := A_ (bp_ (by repeat (first | (with_reducible first | exact HB.out | apply ba_ | apply bn_ | apply bd_ | refine bs_ ?_ GE144.out) | exact HB.out)) hb); clear BK144; clear HB; have BK144 := n0_; have HB := n1_; clear n0_ n1_; (try clear hb); (try clear hb2); (try clear hk); (try clear hi)))
       go_ret
       exact ⟨by first | rfl | (simp only [Go.Proofs.Ytkdlfejokahohaa.Strs.nilB]; rfl) | (simp [errW_none, errW_some] <;> rfl) | (simp [*, errW_none, errW_some] <;> rfl), by repeat (first | (with_reducible first | exact HB.out | apply ba_ | apply bn_ | apply bd_ | refine bs_ ?_ GE144.out) | exact HB.out)⟩
      ·replace c22 := Bool.eq_false_iff.mpr c22
       subst c22
       have H1 : (some false) = some r := by rw [if_neg (show ¬ (false = true) by decide)] at H; exact H
       clear H
       have H := H1
       clear H1
       obtain rfl := Option.some.inj H
       have hcz30_0 : wc.cell? ⟨gb144, 0, none⟩ = some (.int .i64 a1_0) := (bc_ BK144.out 0).trans rfl
       have hcz30_1 : wc.cell? ⟨gb144, 1, none⟩ = some (.int .i64 a1_1) := (bc_ BK144.out 1).trans rfl
       have hcz30_2 : wc.cell? ⟨gb144, 2, none⟩ = some (.bool a1_2) := (bc_ BK144.out 2).trans rfl
       have hcz30_3 : wc.cell? ⟨gb144, 3, none⟩ = some (.int .i64 a1_3) := (bc_ BK144.out 3).trans rfl
       have hcz30_4 : wc.cell? ⟨gb144, 4, none⟩ = some (.string a1_4) := (bc_ BK144.out 4).trans rfl
       have hcz30_5 : wc.cell? ⟨gb144, 5, none⟩ = some (.bool a1_5) := (bc_ BK144.out 5).trans rfl
       have hcz30_6 : wc.cell? ⟨gb144, 6, none⟩ = some (.int .i64 a1_6) := (bc_ BK144.out 6).trans rfl
       have hcz30_7 : wc.cell? ⟨gb144, 7, none⟩ = some (.string a1_7) := (bc_ BK144.out 7).trans rfl
       have hfz30_0 := bf_ BK144.out 0
       have hfz30_1 := bf_ BK144.out 1
       have hfz30_2 := bf_ BK144.out 2
       have hfz30_3 := bf_ BK144.out 3
       have hfz30_4 := bf_ BK144.out 4
       have hfz30_5 := bf_ BK144.out 5
       have hfz30_6 := bf_ BK144.out 6
       have hfz30_7 := bf_ BK144.out 7
       go_wp2_with (first | ((with_reducible refine gate_callee (f := 67) rfl ?_); refine goesL_ (some 51) rfl rfl Try.func67 (by kernel_rfl) rfl #[.int .i64 a0, .bool false, .agg #[.bool a1_2, .int .i64 a1_3, .string a1_4]] rfl (by (try simp only [List.map_toArray, List.map_cons, List.map_nil]); first | done | rfl | (simp only [List.length_drop, List.length_take]; rfl)) ?_; (with_reducible refine (firkinref09_May.calls kj2 a0 false a1_2 a1_3 a1_4 true _ A19.out).mono ?_); rintro e w31 ⟨rfl, hb⟩; refine ⟨_, rfl, ?_⟩; have n0_ := A_ (blk_below (g := gb144) (o := .cells #[.int .i64 a1_0, .int .i64 a1_1, .bool a1_2, .int .i64 a1_3, .string a1_4, .bool a1_5, .int .i64 a1_6, .string a1_7] 25 (0, 0)) (by (with_reducible repeat (first | refine kn_ ?_ _ | refine kd_ ?_ | refine ka_ ?_ _)); exact BK144.out) hb); have n1_ := A_ (bp_ (by repeat (first | (with_reducible first | exact HB.out | apply ba_ | apply bn_ | apply bd_ | refine bs_ ?_ GE144.out) | exact HB.out)) hb); clear BK144; clear HB; have BK144 := n0_; have HB := n1_; clear n0_ n1_; (try clear hb); (try clear hb2); (try clear hk); (try clear hi); have hcz32_0 : w31.cell? ⟨gb144, 0, none⟩ = some (.int .i64 a1_0) := (bc_ BK144.out 0).trans rfl; have hcz32_1 : w31.cell? ⟨gb144, 1, none⟩ = some (.int .i64 a1_1) := (bc_ BK144.out 1).trans rfl; have hcz32_2 : w31.cell? ⟨gb144, 2, none⟩ = some (.bool a1_2) := (bc_ BK144.out 2).trans rfl; have hcz32_3 : w31.cell? ⟨gb144, 3, none⟩ = some (.int .i64 a1_3) := (bc_ BK144.out 3).trans rfl; have hcz32_4 : w31.cell? ⟨gb144, 4, none⟩ = some (.string a1_4) := (bc_ BK144.out 4).trans rfl; have hcz32_5 : w31.cell? ⟨gb144, 5, none⟩ = some (.bool a1_5) := (bc_ BK144.out 5).trans rfl; have hcz32_6 : w31.cell? ⟨gb144, 6, none⟩ = some (.int .i64 a1_6) := (bc_ BK144.out 6).trans rfl; have hcz32_7 : w31.cell? ⟨gb144, 7, none⟩ = some (.string a1_7) := (bc_ BK144.out 7).trans rfl; have hfz32_0 := bf_ BK144.out 0; have hfz32_1 := bf_ BK144.out 1; have hfz32_2 := bf_ BK144.out 2; have hfz32_3 := bf_ BK144.out 3; have hfz32_4 := bf_ BK144.out 4; have hfz32_5 := bf_ BK144.out 5; have hfz32_6 := bf_ BK144.out 6; have hfz32_7 := bf_ BK144.out 7) | (go_at_call 67; (with_reducible refine (firkinref09_May.calls kj2 a0 false a1_5 a1_6 a1_7 false _ A21.out).mono ?_); rintro e w33 ⟨rfl, hb⟩; have n0_ := A_ (blk_below (g := gb144) (o := .cells #[.int .i64 a1_0, .int .i64 a1_1, .bool a1_2, .int .i64 a1_3, .string a1_4, .bool a1_5, .int .i64 a1_6, .string a1_7] 25 (0, 0)) (by (with_reducible repeat (first | refine kn_ ?_ _ | refine kd_ ?_ | refine ka_ ?_ _)); exact BK144.out) hb); have n1_ := A_ (bp_ (by repeat (first | (with_reducible first | exact HB.out | apply ba_ | apply bn_ | apply bd_ | refine bs_ ?_ GE144.out) | exact HB.out)) hb); clear BK144; clear HB; have BK144 := n0_; have HB := n1_; clear n0_ n1_; (try clear hb); (try clear hb2); (try clear hk); (try clear hi); (try clear A21)))
       go_ret
       exact ⟨by first | rfl | (simp only [Go.Proofs.Ytkdlfejokahohaa.Strs.nilB]; rfl) | (simp [errW_none, errW_some] <;> rfl) | (simp [*, errW_none, errW_some] <;> rfl), by repeat (first | (with_reducible first | exact HB.out | apply ba_ | apply bn_ | apply bd_ | refine bs_ ?_ GE144.out) | exact HB.out)⟩
     ·replace c20 := Bool.eq_false_iff.mpr c20
      subst c20
      have H1 : (some false) = some r := by rw [if_neg (show ¬ (false = true) by decide)] at H; exact H
      clear H
      have H := H1
      clear H1
      obtain rfl := Option.some.inj H
      have hcz34_0 : wc.cell? ⟨gb144, 0, none⟩ = some (.int .i64 a1_0) := (bc_ BK144.out 0).trans rfl
      have hcz34_1 : wc.cell? ⟨gb144, 1, none⟩ = some (.int .i64 a1_1) := (bc_ BK144.out 1).trans rfl
      have hcz34_2 : wc.cell? ⟨gb144, 2, none⟩ = some (.bool a1_2) := (bc_ BK144.out 2).trans rfl
      have hcz34_3 : wc.cell? ⟨gb144, 3, none⟩ = some (.int .i64 a1_3) := (bc_ BK144.out 3).trans rfl
      have hcz34_4 : wc.cell? ⟨gb144, 4, none⟩ = some (.string a1_4) := (bc_ BK144.out 4).trans rfl
      have hcz34_5 : wc.cell? ⟨gb144, 5, none⟩ = some (.bool a1_5) := (bc_ BK144.out 5).trans rfl
      have hcz34_6 : wc.cell? ⟨gb144, 6, none⟩ = some (.int .i64 a1_6) := (bc_ BK144.out 6).trans rfl
      have hcz34_7 : wc.cell? ⟨gb144, 7, none⟩ = some (.string a1_7) := (bc_ BK144.out 7).trans rfl
      have hfz34_0 := bf_ BK144.out 0
      have hfz34_1 := bf_ BK144.out 1
      have hfz34_2 := bf_ BK144.out 2
      have hfz34_3 := bf_ BK144.out 3
      have hfz34_4 := bf_ BK144.out 4
      have hfz34_5 := bf_ BK144.out 5
      have hfz34_6 := bf_ BK144.out 6
      have hfz34_7 := bf_ BK144.out 7
      go_wp2_with (first | ((with_reducible refine gate_callee (f := 67) rfl ?_); refine goesL_ (some 51) rfl rfl Try.func67 (by kernel_rfl) rfl #[.int .i64 a0, .bool false, .agg #[.bool a1_2, .int .i64 a1_3, .string a1_4]] rfl (by (try simp only [List.map_toArray, List.map_cons, List.map_nil]); first | done | rfl | (simp only [List.length_drop, List.length_take]; rfl)) ?_; (with_reducible refine (firkinref09_May.calls kj2 a0 false a1_2 a1_3 a1_4 false _ A19.out).mono ?_); rintro e w35 ⟨rfl, hb⟩; refine ⟨_, rfl, ?_⟩; have n0_ := A_ (blk_below (g := gb144) (o := .cells #[.int .i64 a1_0, .int .i64 a1_1, .bool a1_2, .int .i64 a1_3, .string a1_4, .bool a1_5, .int .i64 a1_6, .string a1_7] 25 (0, 0)) (by (with_reducible repeat (first | refine kn_ ?_ _ | refine kd_ ?_ | refine ka_ ?_ _)); exact BK144.out) hb); have n1_ := A_ (bp_ (by repeat (first | (with_reducible first | exact HB.out | apply ba_ | apply bn_ | apply bd_ | refine bs_ ?_ GE144.out) | exact HB.out)) hb); clear BK144; clear HB; have BK144 := n0_; have HB := n1_; clear n0_ n1_; (try clear hb); (try clear hb2); (try clear hk); (try clear hi)))
      go_ret
      exact ⟨by first | rfl | (simp only [Go.Proofs.Ytkdlfejokahohaa.Strs.nilB]; rfl) | (simp [errW_none, errW_some] <;> rfl) | (simp [*, errW_none, errW_some] <;> rfl), by repeat (first | (with_reducible first | exact HB.out | apply ba_ | apply bn_ | apply bd_ | refine bs_ ?_ GE144.out) | exact HB.out)⟩

def firkinref01_Same.f (l0 : List Int) (l1 : List Int) : Option (Bool) := some ((strOfNums l0).toList == (strOfNums l1).toList)
theorem firkinref01_Same.calls (A0 : Option Addr) (c0 : Nat) (l0 : List Int) (A1 : Option Addr) (c1 : Nat) (l1 : List Int) (r : Bool) (w : World) (hr0 : Kd.C (Kd.int .u8) w A0 l0.length l0) (hc0 : l0.length ≤ c0) (hr1 : Kd.C (Kd.int .u8) w A1 l1.length l1) (hc1 : l1.length ≤ c1) (h : firkinref01_Same.f l0 l1 = some r) :
  Calls Try.prog 23 #[.slice A0 l0.length c0, .slice A1 l1.length c1] w fun e w' => e = .returned (.bool r) ∧ Drawn0 w w' := by
 have HR0 := A_ hr0
 have HC0 := A_ hc0
 clear hr0 hc0
 have HR1 := A_ hr1
 have HC1 := A_ hc1
 clear hr1 hc1
 have H : (some ((strOfNums l0).toList == (strOfNums l1).toList)) = some r := h
 clear h
 obtain rfl := Option.some.inj H
 have hcv3 := Kd.C_string (P := Try.prog) (A := A0) (c := c0) Try.underlying31 Try.underlying5 Try.underlying9 HR0.out
 have hcv4 := Kd.C_string (P := Try.prog) (A := A1) (c := c1) Try.underlying31 Try.underlying5 Try.underlying9 HR1.out
 go_enter Try.func23, Try.ntmps23
 go_wp2
 go_ret
 exact ⟨by first | rfl | (simp; done) | (simp [*]; done), by repeat (first | exact Drawn0.refl _ | apply Drawn0.step)⟩

end Go.Proofs.Ytkdlfejokahohaa.X
