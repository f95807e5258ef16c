/- The contract of fold.State.Value: an aggregate of what is known of cells. -/
import Derived.Test.YtkdlfejokahohaaX5
import Derived.Test.YtkdlfejokahohaaMem
import Derived.Lib.Hide
namespace Go.Proofs.Ytkdlfejokahohaa.X
open Go.RowKit Go.Proofs.YtkdlfejokahohaaW.PrintWords Go.Proofs.YtkdlfejokahohaaW.PrintLast Go.Proofs.YtkdlfejokahohaaW.PrintMore
set_option linter.unusedVariables false
set_option linter.unusedSimpArgs false
def foldTold (some_ : Int) (n : Bool) (i : Int) (s : ByteArray) : Bool × Int × ByteArray := if some_ = 0 then (true, 0, ⟨#[]⟩) else (n, i, s)
def fold_State_Value.f (a0_0 a0_1 a0_2 : Int) (a0_3 : Bool) (a0_4 : Int) (a0_5 : ByteArray) (a0_6 : Bool) (a0_7 : Int) (a0_8 : ByteArray) (a1 : Int) : Option (Bool × Int × ByteArray) :=
 if a1 = 1 then some (false, a0_0, ⟨#[]⟩) else if a1 = 2 then some (false, a0_1, ⟨#[]⟩) else if a1 = 3 then some (foldTold a0_1 false a0_2 ⟨#[]⟩) else if a1 = 4 then some (foldTold a0_1 a0_3 a0_4 a0_5) else if a1 = 5 then some (foldTold a0_1 a0_6 a0_7 a0_8) else some (false, 0, ⟨#[]⟩)
set_option maxHeartbeats 8000000 in
set_option maxRecDepth 100000 in
theorem fold_told.calls (a0_0 a0_1 a0_2 : Int) (a0_3 : Bool) (a0_4 : Int) (a0_5 : ByteArray) (a0_6 : Bool) (a0_7 : Int) (a0_8 : ByteArray) (b0 : Bool) (b1 : Int) (b2 : ByteArray) (w : World) :
  Calls Try.prog 82 #[.agg #[.int .i64 a0_0, .int .i64 a0_1, .int .i64 a0_2, .bool a0_3, .int .i64 a0_4, .string a0_5, .bool a0_6, .int .i64 a0_7, .string a0_8], .agg #[.bool b0, .int .i64 b1, .string b2]] w fun e w' => e = .returned (.agg #[.bool (foldTold a0_1 b0 b1 b2).1, .int .i64 (foldTold a0_1 b0 b1 b2).2.1, .string (foldTold a0_1 b0 b1 b2).2.2]) ∧ Below w.heap.size w w' := by
 have hu1 := Try.underlying63
 have hu2 := Try.underlying23
 unfold foldTold
 by_cases h : a0_1 = 0
 ·rw [if_pos h]
  have hb : (a0_1 == 0) = true := beq_iff_eq.mpr h
  clear h
  go_enter Try.func82, Try.ntmps82
  go_wp2_with fail
  exact bodyPost_ret (v := .agg #[.bool true, .int .i64 0, .string ⟨#[]⟩]) (by simp [results, Try.results82, go_sem]) rfl ⟨rfl, by repeat (first | exact Below.refl _ _ | refine below_alloc ?_ _ | refine below_set ?_ (by simp))⟩
 ·rw [if_neg h]
  have hb : (a0_1 == 0) = false := beq_eq_false_iff_ne.mpr h
  clear h
  go_enter Try.func82, Try.ntmps82
  go_wp2_with fail
  exact bodyPost_ret (v := .agg #[.bool b0, .int .i64 b1, .string b2]) (by simp [results, Try.results82, go_sem]) rfl ⟨rfl, by repeat (first | exact Below.refl _ _ | refine below_alloc ?_ _ | refine below_set ?_ (by simp))⟩
theorem put3 {w : World} {g : Nat} {t : TypeId} {a b c : Value} (x y z : Value) (h : w.heap[g]? = some (.cells #[a, b, c] t (0, 0))) : (((w.setCell ⟨g, 0, none⟩ x).setCell ⟨g, 1, none⟩ y).setCell ⟨g, 2, none⟩ z).heap[g]? = some (.cells #[x, y, z] t (0, 0)) := by simpa using blk_set (blk_set (blk_set h 0 x) 1 y) 2 z
set_option maxHeartbeats 8000000 in
set_option maxRecDepth 100000 in
theorem fold_State_Value.calls (a0_0 a0_1 a0_2 : Int) (a0_3 : Bool) (a0_4 : Int) (a0_5 : ByteArray) (a0_6 : Bool) (a0_7 : Int) (a0_8 : ByteArray) (a1 : Int) (r1 : Bool) (r2 : Int) (r3 : ByteArray) (w : World) (h : fold_State_Value.f a0_0 a0_1 a0_2 a0_3 a0_4 a0_5 a0_6 a0_7 a0_8 a1 = some (r1, r2, r3)) :
  Calls Try.prog 51 #[.agg #[.int .i64 a0_0, .int .i64 a0_1, .int .i64 a0_2, .bool a0_3, .int .i64 a0_4, .string a0_5, .bool a0_6, .int .i64 a0_7, .string a0_8], .int .i64 a1] w fun e w' => e = .returned (.agg #[.bool r1, .int .i64 r2, .string r3]) ∧ Below w.heap.size w w' := by
 have hu1 := Try.underlying63
 have hu2 := Try.underlying23
 have bk := Mem.alloc_new (w.alloc (.cells #[.int .i64 a0_0, .int .i64 a0_1, .int .i64 a0_2, .bool a0_3, .int .i64 a0_4, .string a0_5, .bool a0_6, .int .i64 a0_7, .string a0_8] 63)) (.cells #[.bool false, .int .i64 0, .string ⟨#[]⟩] 23)
 rw [Mem.alloc_size] at bk
 have BK := Aside0.mk bk
 have HB := Aside0.mk (below_alloc (below_alloc (Below.refl w.heap.size w) (.cells #[.int .i64 a0_0, .int .i64 a0_1, .int .i64 a0_2, .bool a0_3, .int .i64 a0_4, .string a0_5, .bool a0_6, .int .i64 a0_7, .string a0_8] 63)) (.cells #[.bool false, .int .i64 0, .string ⟨#[]⟩] 23))
 clear bk
 unfold fold_State_Value.f at h
 by_cases e1 : a1 = 1
 ·rw [if_pos e1] at h
  simp only [Option.some.injEq, Prod.mk.injEq] at h
  obtain ⟨rfl, rfl, rfl⟩ := h
  subst e1
  go_enter Try.func51, Try.ntmps51
  go_wp2_with fail
  refine (fold_number.calls a0_0 false a0_0 ⟨#[]⟩ _ rfl).mono ?_
  rintro e w1 ⟨rfl, b1⟩
  have bk1 := blk_below BK.out b1
  have HB1 := Aside0.mk (below_step HB.out b1)
  have c0 : w1.cell? ⟨w.heap.size + 1, 0, none⟩ = some (.bool false) := (blk_cell bk1 0).trans rfl
  have c1 : w1.cell? ⟨w.heap.size + 1, 1, none⟩ = some (.int .i64 0) := (blk_cell bk1 1).trans rfl
  have c2 : w1.cell? ⟨w.heap.size + 1, 2, none⟩ = some (.string ⟨#[]⟩) := (blk_cell bk1 2).trans rfl
  have f0 := blk_frozen bk1 0
  have f1 := blk_frozen bk1 1
  have f2 := blk_frozen bk1 2
  have BK1 := Aside0.mk bk1
  clear b1 bk1 BK HB
  go_wp2_with fail
  refine bodyPost_ret (results_cell_row rfl _ _ (w.heap.size + 1) 23 #[.bool false, .int .i64 a0_0, .string ⟨#[]⟩] (0, 0) _ rfl (put3 _ _ _ BK1.out) hu2 rfl (by kernel_rfl)) rfl ⟨rfl, ?_⟩
  exact below_set (below_set (below_set HB1.out (by simp)) (by simp)) (by simp)
 rw [if_neg e1] at h
 by_cases e2 : a1 = 2
 ·rw [if_pos e2] at h
  simp only [Option.some.injEq, Prod.mk.injEq] at h
  obtain ⟨rfl, rfl, rfl⟩ := h
  subst e2
  go_enter Try.func51, Try.ntmps51
  go_wp2_with fail
  refine (fold_number.calls a0_1 false a0_1 ⟨#[]⟩ _ rfl).mono ?_
  rintro e w1 ⟨rfl, b1⟩
  have bk1 := blk_below BK.out b1
  have HB1 := Aside0.mk (below_step HB.out b1)
  have c0 : w1.cell? ⟨w.heap.size + 1, 0, none⟩ = some (.bool false) := (blk_cell bk1 0).trans rfl
  have c1 : w1.cell? ⟨w.heap.size + 1, 1, none⟩ = some (.int .i64 0) := (blk_cell bk1 1).trans rfl
  have c2 : w1.cell? ⟨w.heap.size + 1, 2, none⟩ = some (.string ⟨#[]⟩) := (blk_cell bk1 2).trans rfl
  have f0 := blk_frozen bk1 0
  have f1 := blk_frozen bk1 1
  have f2 := blk_frozen bk1 2
  have BK1 := Aside0.mk bk1
  clear b1 bk1 BK HB
  go_wp2_with fail
  refine bodyPost_ret (results_cell_row rfl _ _ (w.heap.size + 1) 23 #[.bool false, .int .i64 a0_1, .string ⟨#[]⟩] (0, 0) _ rfl (put3 _ _ _ BK1.out) hu2 rfl (by kernel_rfl)) rfl ⟨rfl, ?_⟩
  exact below_set (below_set (below_set HB1.out (by simp)) (by simp)) (by simp)
 rw [if_neg e2] at h
 by_cases e3 : a1 = 3
 ·rw [if_pos e3] at h
  have HT := Aside0.mk (fold_told.calls a0_0 a0_1 a0_2 a0_3 a0_4 a0_5 a0_6 a0_7 a0_8 false a0_2 ⟨#[]⟩)
  generalize foldTold a0_1 false a0_2 ⟨#[]⟩ = t at h HT
  obtain ⟨t0, t1, t2⟩ := t
  simp only [Option.some.injEq, Prod.mk.injEq] at h
  obtain ⟨rfl, rfl, rfl⟩ := h
  subst e3
  go_enter Try.func51, Try.ntmps51
  go_wp2_with fail
  refine (HT.out _).mono ?_
  rintro e w1 ⟨rfl, b1⟩
  have bk1 := blk_below BK.out b1
  have HB1 := Aside0.mk (below_step HB.out b1)
  have c0 : w1.cell? ⟨w.heap.size + 1, 0, none⟩ = some (.bool false) := (blk_cell bk1 0).trans rfl
  have c1 : w1.cell? ⟨w.heap.size + 1, 1, none⟩ = some (.int .i64 0) := (blk_cell bk1 1).trans rfl
  have c2 : w1.cell? ⟨w.heap.size + 1, 2, none⟩ = some (.string ⟨#[]⟩) := (blk_cell bk1 2).trans rfl
  have f0 := blk_frozen bk1 0
  have f1 := blk_frozen bk1 1
  have f2 := blk_frozen bk1 2
  have BK1 := Aside0.mk bk1
  clear b1 bk1 BK HB
  go_wp2_with fail
  refine bodyPost_ret (results_cell_row rfl _ _ (w.heap.size + 1) 23 #[.bool t0, .int .i64 t1, .string t2] (0, 0) _ rfl (put3 _ _ _ BK1.out) hu2 rfl (by kernel_rfl)) rfl ⟨rfl, ?_⟩
  exact below_set (below_set (below_set HB1.out (by simp)) (by simp)) (by simp)
 rw [if_neg e3] at h
 by_cases e4 : a1 = 4
 ·rw [if_pos e4] at h
  have HT := Aside0.mk (fold_told.calls a0_0 a0_1 a0_2 a0_3 a0_4 a0_5 a0_6 a0_7 a0_8 a0_3 a0_4 a0_5)
  generalize foldTold a0_1 a0_3 a0_4 a0_5 = t at h HT
  obtain ⟨t0, t1, t2⟩ := t
  simp only [Option.some.injEq, Prod.mk.injEq] at h
  obtain ⟨rfl, rfl, rfl⟩ := h
  subst e4
  go_enter Try.func51, Try.ntmps51
  go_wp2_with fail
  refine (HT.out _).mono ?_
  rintro e w1 ⟨rfl, b1⟩
  have bk1 := blk_below BK.out b1
  have HB1 := Aside0.mk (below_step HB.out b1)
  have c0 : w1.cell? ⟨w.heap.size + 1, 0, none⟩ = some (.bool false) := (blk_cell bk1 0).trans rfl
  have c1 : w1.cell? ⟨w.heap.size + 1, 1, none⟩ = some (.int .i64 0) := (blk_cell bk1 1).trans rfl
  have c2 : w1.cell? ⟨w.heap.size + 1, 2, none⟩ = some (.string ⟨#[]⟩) := (blk_cell bk1 2).trans rfl
  have f0 := blk_frozen bk1 0
  have f1 := blk_frozen bk1 1
  have f2 := blk_frozen bk1 2
  have BK1 := Aside0.mk bk1
  clear b1 bk1 BK HB
  go_wp2_with fail
  refine bodyPost_ret (results_cell_row rfl _ _ (w.heap.size + 1) 23 #[.bool t0, .int .i64 t1, .string t2] (0, 0) _ rfl (put3 _ _ _ BK1.out) hu2 rfl (by kernel_rfl)) rfl ⟨rfl, ?_⟩
  exact below_set (below_set (below_set HB1.out (by simp)) (by simp)) (by simp)
 rw [if_neg e4] at h
 by_cases e5 : a1 = 5
 ·rw [if_pos e5] at h
  have HT := Aside0.mk (fold_told.calls a0_0 a0_1 a0_2 a0_3 a0_4 a0_5 a0_6 a0_7 a0_8 a0_6 a0_7 a0_8)
  generalize foldTold a0_1 a0_6 a0_7 a0_8 = t at h HT
  obtain ⟨t0, t1, t2⟩ := t
  simp only [Option.some.injEq, Prod.mk.injEq] at h
  obtain ⟨rfl, rfl, rfl⟩ := h
  subst e5
  go_enter Try.func51, Try.ntmps51
  go_wp2_with fail
  refine (HT.out _).mono ?_
  rintro e w1 ⟨rfl, b1⟩
  have bk1 := blk_below BK.out b1
  have HB1 := Aside0.mk (below_step HB.out b1)
  have c0 : w1.cell? ⟨w.heap.size + 1, 0, none⟩ = some (.bool false) := (blk_cell bk1 0).trans rfl
  have c1 : w1.cell? ⟨w.heap.size + 1, 1, none⟩ = some (.int .i64 0) := (blk_cell bk1 1).trans rfl
  have c2 : w1.cell? ⟨w.heap.size + 1, 2, none⟩ = some (.string ⟨#[]⟩) := (blk_cell bk1 2).trans rfl
  have f0 := blk_frozen bk1 0
  have f1 := blk_frozen bk1 1
  have f2 := blk_frozen bk1 2
  have BK1 := Aside0.mk bk1
  clear b1 bk1 BK HB
  go_wp2_with fail
  refine bodyPost_ret (results_cell_row rfl _ _ (w.heap.size + 1) 23 #[.bool t0, .int .i64 t1, .string t2] (0, 0) _ rfl (put3 _ _ _ BK1.out) hu2 rfl (by kernel_rfl)) rfl ⟨rfl, ?_⟩
  exact below_set (below_set (below_set HB1.out (by simp)) (by simp)) (by simp)
 rw [if_neg e5] at h
 simp only [Option.some.injEq, Prod.mk.injEq] at h
 obtain ⟨rfl, rfl, rfl⟩ := h
 have b1 : (a1 == 1) = false := beq_eq_false_iff_ne.mpr e1
 have b2 : (a1 == 2) = false := beq_eq_false_iff_ne.mpr e2
 have b3 : (a1 == 3) = false := beq_eq_false_iff_ne.mpr e3
 have b4 : (a1 == 4) = false := beq_eq_false_iff_ne.mpr e4
 have b5 : (a1 == 5) = false := beq_eq_false_iff_ne.mpr e5
 clear e1 e2 e3 e4 e5
 go_enter Try.func51, Try.ntmps51
 go_wp2_with fail
 refine bodyPost_ret (results_cell_row rfl _ _ (w.heap.size + 1) 23 #[.bool false, .int .i64 0, .string ⟨#[]⟩] (0, 0) _ rfl BK.out hu2 rfl (by kernel_rfl)) rfl ⟨rfl, ?_⟩
 exact HB.out
end Go.Proofs.Ytkdlfejokahohaa.X
