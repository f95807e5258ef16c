/- The law CellAny, walked: cells become values, and come back; what is no cell's value is told. -/
import Derived.Test.YtebalgjkabnldaaCellTo
import Derived.Test.YtebalgjkabnldaaCellLive
import Derived.Test.YtebalgjkabnldaaX22
import Derived.Test.YtebalgjkabnldaaX1
import Derived.Test.YtebalgjkabnldaaMem2
namespace Go.Proofs.Ytebalgjkabnldaa.X
open Go.RowKit Go.Proofs.YtebalgjkabnldaaW.PrintWords Go.Proofs.YtebalgjkabnldaaW.PrintLast Go.Proofs.YtebalgjkabnldaaW.PrintMore
set_option linter.unusedVariables false
set_option linter.unusedSimpArgs false

attribute [local go_sem high] eqA60
set_option maxHeartbeats 8000000 in
set_option maxRecDepth 100000 in
theorem cellAny_null (ty : Int) (c1 : Int) (c2 : ByteArray) (n : Int) (b : Bool) (s : ByteArray) (hs1 : decide ((c2.size : Int) ≤ 200) = true) (hs2 : decide ((200 : Int) < (s.size : Int)) = false) (w : World) :
    Calls Try.prog 13 #[.int .i64 ty, .agg #[.bool true, .int .i64 c1, .string c2], .agg #[.int .i64 n, .bool b, .string s]] w fun e w' => e = .returned (.bool true) ∧ Below w.heap.size w w' := by
  have hu := Try.underlying60
  have hu2 := Try.underlying77
  have HS := Lib.hid (show firkinlaw09_small.f true c1 c2 = some (decide ((c2.size : Int) ≤ 200)) from rfl)
  rw [hs1] at HS
  clear hs1
  have kc := fun (W : World) => Lib.run_convert_string_bytes (P := Try.prog) W 9 22 5 s Try.underlying9 Try.underlying22 Try.underlying5
  go_enter Try.func13, Try.ntmps13
  go_wp2_with fail
  go_quiet (fail)
  go_wp2_with fail
  have bk0 := blk_drewN (blk_alloc (Mem.alloc_new w (.cells #[.bool true, .int .i64 c1, .string c2] 60)) (.cells #[.int .i64 n, .bool b, .string s] 77)) nq
  have B0 := pw_below_drewN (below_alloc (below_alloc (Below.refl w.heap.size w) (.cells #[.bool true, .int .i64 c1, .string c2] 60)) (.cells #[.int .i64 n, .bool b, .string s] 77)) nq
  refine (firkinlaw09_small.calls true c1 c2 _ _ HS.out).mono ?_
  rintro e w1 ⟨rfl, b1⟩
  have B1 := below_step B0 b1
  have bk1 := blk_below bk0 b1
  have c_0 : w1.cell? ⟨w.heap.size, 0, none⟩ = some (.bool true) := (blk_cell bk1 0).trans rfl
  have c_1 : w1.cell? ⟨w.heap.size, 1, none⟩ = some (.int .i64 c1) := (blk_cell bk1 1).trans rfl
  have c_2 : w1.cell? ⟨w.heap.size, 2, none⟩ = some (.string c2) := (blk_cell bk1 2).trans rfl
  have BK1 := Aside0.mk bk1
  clear bk0 B0 b1 bk1 HS
  go_wp2_with fail
  refine (cell_To.null ty c1 c2 _).mono ?_
  rintro e w2 ⟨rfl, b2⟩
  have B2 := below_step B1 b2
  have BK2 := Aside0.mk (blk_below BK1.out b2)
  clear c_0 c_1 c_2 BK1 B1 b2
  go_wp2_with fail
  refine (cell_From.none_ _).mono ?_
  rintro e w3 ⟨rfl, b3⟩
  have HB3 := Aside0.mk (below_step B2 b3)
  have bk3 := blk_below BK2.out b3
  have c_0 : w3.cell? ⟨w.heap.size, 0, none⟩ = some (.bool true) := (blk_cell bk3 0).trans rfl
  have c_1 : w3.cell? ⟨w.heap.size, 1, none⟩ = some (.int .i64 c1) := (blk_cell bk3 1).trans rfl
  have c_2 : w3.cell? ⟨w.heap.size, 2, none⟩ = some (.string c2) := (blk_cell bk3 2).trans rfl
  have hlt := blk_lt bk3
  clear BK2 B2 b3 bk3
  go_wp2_with fail
  refine (cell_From.bytes _ _ _ _).mono ?_
  rintro e w5 ⟨rfl, b5⟩
  go_wp2_with fail
  refine (cell_Int.val n _).mono ?_
  rintro e w6 ⟨rfl, b6⟩
  go_wp2_with fail
  refine (cell_Bool.val b _).mono ?_
  rintro e w7 ⟨rfl, b7⟩
  go_wp2_with fail
  refine (cell_Text.val s _).mono ?_
  rintro e w8 ⟨rfl, b8⟩
  go_wp2_with fail
  refine (firkinlaw09_live.calls true _ rfl).mono ?_
  rintro e w9 ⟨rfl, b9⟩
  go_wp2_with fail
  go_ret
  refine ⟨rfl, below_step (below_step (below_step (below_step ?_ b6) b7) b8) b9⟩
  repeat (first | exact HB3.out | refine below_alloc ?_ _ | refine below_set ?_ (by simp; omega) | refine below_step ?_ b5 | refine below_step ?_ (Mem.below_bytes _ _ _))

set_option maxHeartbeats 8000000 in
set_option maxRecDepth 100000 in
theorem cellAny_int (ty : Int) (ht : ty = 1) (c1 : Int) (c2 : ByteArray) (n : Int) (b : Bool) (s : ByteArray) (hs1 : decide ((c2.size : Int) ≤ 200) = true) (hs2 : decide ((200 : Int) < (s.size : Int)) = false) (w : World) :
    Calls Try.prog 13 #[.int .i64 ty, .agg #[.bool false, .int .i64 c1, .string c2], .agg #[.int .i64 n, .bool b, .string s]] w fun e w' => e = .returned (.bool true) ∧ Below w.heap.size w w' := by
  subst ht
  have hu := Try.underlying60
  have hu2 := Try.underlying77
  have HS := Lib.hid (show firkinlaw09_small.f false c1 c2 = some (decide ((c2.size : Int) ≤ 200)) from rfl)
  rw [hs1] at HS
  clear hs1
  have kc := fun (W : World) => Lib.run_convert_string_bytes (P := Try.prog) W 9 22 5 s Try.underlying9 Try.underlying22 Try.underlying5
  go_enter Try.func13, Try.ntmps13
  go_wp2_with fail
  go_quiet (fail)
  go_wp2_with fail
  have bk0 := blk_drewN (blk_alloc (Mem.alloc_new w (.cells #[.bool false, .int .i64 c1, .string c2] 60)) (.cells #[.int .i64 n, .bool b, .string s] 77)) nq
  have B0 := pw_below_drewN (below_alloc (below_alloc (Below.refl w.heap.size w) (.cells #[.bool false, .int .i64 c1, .string c2] 60)) (.cells #[.int .i64 n, .bool b, .string s] 77)) nq
  refine (firkinlaw09_small.calls false c1 c2 _ _ HS.out).mono ?_
  rintro e w1 ⟨rfl, b1⟩
  have B1 := below_step B0 b1
  have bk1 := blk_below bk0 b1
  have c_0 : w1.cell? ⟨w.heap.size, 0, none⟩ = some (.bool false) := (blk_cell bk1 0).trans rfl
  have c_1 : w1.cell? ⟨w.heap.size, 1, none⟩ = some (.int .i64 c1) := (blk_cell bk1 1).trans rfl
  have c_2 : w1.cell? ⟨w.heap.size, 2, none⟩ = some (.string c2) := (blk_cell bk1 2).trans rfl
  have BK1 := Aside0.mk bk1
  clear bk0 B0 b1 bk1 HS
  go_wp2_with fail
  refine (cell_To.int 1 rfl c1 c2 _).mono ?_
  rintro e w2 ⟨rfl, b2⟩
  have B2 := below_step B1 b2
  have BK2 := Aside0.mk (blk_below BK1.out b2)
  clear c_0 c_1 c_2 BK1 B1 b2
  go_wp2_with fail
  refine (cell_From.int c1 _).mono ?_
  rintro e w3 ⟨rfl, b3⟩
  have HB3 := Aside0.mk (below_step B2 b3)
  have bk3 := blk_below BK2.out b3
  have c_0 : w3.cell? ⟨w.heap.size, 0, none⟩ = some (.bool false) := (blk_cell bk3 0).trans rfl
  have c_1 : w3.cell? ⟨w.heap.size, 1, none⟩ = some (.int .i64 c1) := (blk_cell bk3 1).trans rfl
  have c_2 : w3.cell? ⟨w.heap.size, 2, none⟩ = some (.string c2) := (blk_cell bk3 2).trans rfl
  have hlt := blk_lt bk3
  clear BK2 B2 b3 bk3
  go_wp2_with fail
  refine (cell_From.bytes _ _ _ _).mono ?_
  rintro e w5 ⟨rfl, b5⟩
  go_wp2_with fail
  refine (cell_Int.val n _).mono ?_
  rintro e w6 ⟨rfl, b6⟩
  go_wp2_with fail
  refine (cell_Bool.val b _).mono ?_
  rintro e w7 ⟨rfl, b7⟩
  go_wp2_with fail
  refine (cell_Text.val s _).mono ?_
  rintro e w8 ⟨rfl, b8⟩
  go_wp2_with fail
  refine (firkinlaw09_live.calls true _ rfl).mono ?_
  rintro e w9 ⟨rfl, b9⟩
  go_wp2_with fail
  go_ret
  refine ⟨rfl, below_step (below_step (below_step (below_step ?_ b6) b7) b8) b9⟩
  repeat (first | exact HB3.out | refine below_alloc ?_ _ | refine below_set ?_ (by simp; omega) | refine below_step ?_ b5 | refine below_step ?_ (Mem.below_bytes _ _ _))

set_option maxHeartbeats 8000000 in
set_option maxRecDepth 100000 in
theorem cellAny_text (ty : Int) (ht : ty = 3) (c1 : Int) (c2 : ByteArray) (n : Int) (b : Bool) (s : ByteArray) (hs1 : decide ((c2.size : Int) ≤ 200) = true) (hs2 : decide ((200 : Int) < (s.size : Int)) = false) (w : World) :
    Calls Try.prog 13 #[.int .i64 ty, .agg #[.bool false, .int .i64 c1, .string c2], .agg #[.int .i64 n, .bool b, .string s]] w fun e w' => e = .returned (.bool true) ∧ Below w.heap.size w w' := by
  subst ht
  have hu := Try.underlying60
  have hu2 := Try.underlying77
  have HS := Lib.hid (show firkinlaw09_small.f false c1 c2 = some (decide ((c2.size : Int) ≤ 200)) from rfl)
  rw [hs1] at HS
  clear hs1
  have kc := fun (W : World) => Lib.run_convert_string_bytes (P := Try.prog) W 9 22 5 s Try.underlying9 Try.underlying22 Try.underlying5
  go_enter Try.func13, Try.ntmps13
  go_wp2_with fail
  go_quiet (fail)
  go_wp2_with fail
  have bk0 := blk_drewN (blk_alloc (Mem.alloc_new w (.cells #[.bool false, .int .i64 c1, .string c2] 60)) (.cells #[.int .i64 n, .bool b, .string s] 77)) nq
  have B0 := pw_below_drewN (below_alloc (below_alloc (Below.refl w.heap.size w) (.cells #[.bool false, .int .i64 c1, .string c2] 60)) (.cells #[.int .i64 n, .bool b, .string s] 77)) nq
  refine (firkinlaw09_small.calls false c1 c2 _ _ HS.out).mono ?_
  rintro e w1 ⟨rfl, b1⟩
  have B1 := below_step B0 b1
  have bk1 := blk_below bk0 b1
  have c_0 : w1.cell? ⟨w.heap.size, 0, none⟩ = some (.bool false) := (blk_cell bk1 0).trans rfl
  have c_1 : w1.cell? ⟨w.heap.size, 1, none⟩ = some (.int .i64 c1) := (blk_cell bk1 1).trans rfl
  have c_2 : w1.cell? ⟨w.heap.size, 2, none⟩ = some (.string c2) := (blk_cell bk1 2).trans rfl
  have BK1 := Aside0.mk bk1
  clear bk0 B0 b1 bk1 HS
  go_wp2_with fail
  refine (cell_To.text 3 rfl c1 c2 _).mono ?_
  rintro e w2 ⟨rfl, b2⟩
  have B2 := below_step B1 b2
  have BK2 := Aside0.mk (blk_below BK1.out b2)
  clear c_0 c_1 c_2 BK1 B1 b2
  go_wp2_with fail
  refine (cell_From.text c2 _).mono ?_
  rintro e w3 ⟨rfl, b3⟩
  have HB3 := Aside0.mk (below_step B2 b3)
  have bk3 := blk_below BK2.out b3
  have c_0 : w3.cell? ⟨w.heap.size, 0, none⟩ = some (.bool false) := (blk_cell bk3 0).trans rfl
  have c_1 : w3.cell? ⟨w.heap.size, 1, none⟩ = some (.int .i64 c1) := (blk_cell bk3 1).trans rfl
  have c_2 : w3.cell? ⟨w.heap.size, 2, none⟩ = some (.string c2) := (blk_cell bk3 2).trans rfl
  have hlt := blk_lt bk3
  clear BK2 B2 b3 bk3
  go_wp2_with fail
  refine (cell_From.bytes _ _ _ _).mono ?_
  rintro e w5 ⟨rfl, b5⟩
  go_wp2_with fail
  refine (cell_Int.val n _).mono ?_
  rintro e w6 ⟨rfl, b6⟩
  go_wp2_with fail
  refine (cell_Bool.val b _).mono ?_
  rintro e w7 ⟨rfl, b7⟩
  go_wp2_with fail
  refine (cell_Text.val s _).mono ?_
  rintro e w8 ⟨rfl, b8⟩
  go_wp2_with fail
  refine (firkinlaw09_live.calls true _ rfl).mono ?_
  rintro e w9 ⟨rfl, b9⟩
  go_wp2_with fail
  go_ret
  refine ⟨rfl, below_step (below_step (below_step (below_step ?_ b6) b7) b8) b9⟩
  repeat (first | exact HB3.out | refine below_alloc ?_ _ | refine below_set ?_ (by simp; omega) | refine below_step ?_ b5 | refine below_step ?_ (Mem.below_bytes _ _ _))

set_option maxHeartbeats 8000000 in
set_option maxRecDepth 100000 in
theorem cellAny_yes (ty : Int) (ht : ty = 2) (c1 : Int) (hc : (c1 != 0) = true) (c2 : ByteArray) (n : Int) (b : Bool) (s : ByteArray) (hs1 : decide ((c2.size : Int) ≤ 200) = true) (hs2 : decide ((200 : Int) < (s.size : Int)) = false) (w : World) :
    Calls Try.prog 13 #[.int .i64 ty, .agg #[.bool false, .int .i64 c1, .string c2], .agg #[.int .i64 n, .bool b, .string s]] w fun e w' => e = .returned (.bool true) ∧ Below w.heap.size w w' := by
  subst ht
  have HT := Lib.hid (fun w => cell_To.bool 2 rfl c1 c2 w)
  rw [hc] at HT
  have hu := Try.underlying60
  have hu2 := Try.underlying77
  have HS := Lib.hid (show firkinlaw09_small.f false c1 c2 = some (decide ((c2.size : Int) ≤ 200)) from rfl)
  rw [hs1] at HS
  clear hs1
  have kc := fun (W : World) => Lib.run_convert_string_bytes (P := Try.prog) W 9 22 5 s Try.underlying9 Try.underlying22 Try.underlying5
  go_enter Try.func13, Try.ntmps13
  go_wp2_with fail
  go_quiet (fail)
  go_wp2_with fail
  have bk0 := blk_drewN (blk_alloc (Mem.alloc_new w (.cells #[.bool false, .int .i64 c1, .string c2] 60)) (.cells #[.int .i64 n, .bool b, .string s] 77)) nq
  have B0 := pw_below_drewN (below_alloc (below_alloc (Below.refl w.heap.size w) (.cells #[.bool false, .int .i64 c1, .string c2] 60)) (.cells #[.int .i64 n, .bool b, .string s] 77)) nq
  refine (firkinlaw09_small.calls false c1 c2 _ _ HS.out).mono ?_
  rintro e w1 ⟨rfl, b1⟩
  have B1 := below_step B0 b1
  have bk1 := blk_below bk0 b1
  have c_0 : w1.cell? ⟨w.heap.size, 0, none⟩ = some (.bool false) := (blk_cell bk1 0).trans rfl
  have c_1 : w1.cell? ⟨w.heap.size, 1, none⟩ = some (.int .i64 c1) := (blk_cell bk1 1).trans rfl
  have c_2 : w1.cell? ⟨w.heap.size, 2, none⟩ = some (.string c2) := (blk_cell bk1 2).trans rfl
  have BK1 := Aside0.mk bk1
  clear bk0 B0 b1 bk1 HS
  go_wp2_with fail
  refine (HT.out _).mono ?_
  rintro e w2 ⟨rfl, b2⟩
  have B2 := below_step B1 b2
  have BK2 := Aside0.mk (blk_below BK1.out b2)
  clear c_0 c_1 c_2 BK1 B1 b2
  go_wp2_with fail
  refine (cell_From.bool_true _).mono ?_
  rintro e w3 ⟨rfl, b3⟩
  have HB3 := Aside0.mk (below_step B2 b3)
  have bk3 := blk_below BK2.out b3
  have c_0 : w3.cell? ⟨w.heap.size, 0, none⟩ = some (.bool false) := (blk_cell bk3 0).trans rfl
  have c_1 : w3.cell? ⟨w.heap.size, 1, none⟩ = some (.int .i64 c1) := (blk_cell bk3 1).trans rfl
  have c_2 : w3.cell? ⟨w.heap.size, 2, none⟩ = some (.string c2) := (blk_cell bk3 2).trans rfl
  have hlt := blk_lt bk3
  clear BK2 B2 b3 bk3
  go_wp2_with fail
  refine (cell_From.bytes _ _ _ _).mono ?_
  rintro e w5 ⟨rfl, b5⟩
  go_wp2_with fail
  refine (cell_Int.val n _).mono ?_
  rintro e w6 ⟨rfl, b6⟩
  go_wp2_with fail
  refine (cell_Bool.val b _).mono ?_
  rintro e w7 ⟨rfl, b7⟩
  go_wp2_with fail
  refine (cell_Text.val s _).mono ?_
  rintro e w8 ⟨rfl, b8⟩
  go_wp2_with fail
  refine (firkinlaw09_live.calls true _ rfl).mono ?_
  rintro e w9 ⟨rfl, b9⟩
  go_wp2_with fail
  go_ret
  refine ⟨rfl, below_step (below_step (below_step (below_step ?_ b6) b7) b8) b9⟩
  repeat (first | exact HB3.out | refine below_alloc ?_ _ | refine below_set ?_ (by simp; omega) | refine below_step ?_ b5 | refine below_step ?_ (Mem.below_bytes _ _ _))

set_option maxHeartbeats 8000000 in
set_option maxRecDepth 100000 in
theorem cellAny_no (ty : Int) (ht : ty = 2) (c2 : ByteArray) (n : Int) (b : Bool) (s : ByteArray) (hs1 : decide ((c2.size : Int) ≤ 200) = true) (hs2 : decide ((200 : Int) < (s.size : Int)) = false) (w : World) :
    Calls Try.prog 13 #[.int .i64 ty, .agg #[.bool false, .int .i64 0, .string c2], .agg #[.int .i64 n, .bool b, .string s]] w fun e w' => e = .returned (.bool true) ∧ Below w.heap.size w w' := by
  subst ht
  have HT := Lib.hid (fun w => cell_To.bool 2 rfl 0 c2 w)
  rw [show ((0 : Int) != 0) = false from rfl] at HT
  have hu := Try.underlying60
  have hu2 := Try.underlying77
  have HS := Lib.hid (show firkinlaw09_small.f false 0 c2 = some (decide ((c2.size : Int) ≤ 200)) from rfl)
  rw [hs1] at HS
  clear hs1
  have kc := fun (W : World) => Lib.run_convert_string_bytes (P := Try.prog) W 9 22 5 s Try.underlying9 Try.underlying22 Try.underlying5
  go_enter Try.func13, Try.ntmps13
  go_wp2_with fail
  go_quiet (fail)
  go_wp2_with fail
  have bk0 := blk_drewN (blk_alloc (Mem.alloc_new w (.cells #[.bool false, .int .i64 0, .string c2] 60)) (.cells #[.int .i64 n, .bool b, .string s] 77)) nq
  have B0 := pw_below_drewN (below_alloc (below_alloc (Below.refl w.heap.size w) (.cells #[.bool false, .int .i64 0, .string c2] 60)) (.cells #[.int .i64 n, .bool b, .string s] 77)) nq
  refine (firkinlaw09_small.calls false 0 c2 _ _ HS.out).mono ?_
  rintro e w1 ⟨rfl, b1⟩
  have B1 := below_step B0 b1
  have bk1 := blk_below bk0 b1
  have c_0 : w1.cell? ⟨w.heap.size, 0, none⟩ = some (.bool false) := (blk_cell bk1 0).trans rfl
  have c_1 : w1.cell? ⟨w.heap.size, 1, none⟩ = some (.int .i64 0) := (blk_cell bk1 1).trans rfl
  have c_2 : w1.cell? ⟨w.heap.size, 2, none⟩ = some (.string c2) := (blk_cell bk1 2).trans rfl
  have BK1 := Aside0.mk bk1
  clear bk0 B0 b1 bk1 HS
  go_wp2_with fail
  refine (HT.out _).mono ?_
  rintro e w2 ⟨rfl, b2⟩
  have B2 := below_step B1 b2
  have BK2 := Aside0.mk (blk_below BK1.out b2)
  clear c_0 c_1 c_2 BK1 B1 b2
  go_wp2_with fail
  refine (cell_From.bool_false _).mono ?_
  rintro e w3 ⟨rfl, b3⟩
  have HB3 := Aside0.mk (below_step B2 b3)
  have bk3 := blk_below BK2.out b3
  have c_0 : w3.cell? ⟨w.heap.size, 0, none⟩ = some (.bool false) := (blk_cell bk3 0).trans rfl
  have c_1 : w3.cell? ⟨w.heap.size, 1, none⟩ = some (.int .i64 0) := (blk_cell bk3 1).trans rfl
  have c_2 : w3.cell? ⟨w.heap.size, 2, none⟩ = some (.string c2) := (blk_cell bk3 2).trans rfl
  have hlt := blk_lt bk3
  clear BK2 B2 b3 bk3
  go_wp2_with fail
  refine (cell_From.bytes _ _ _ _).mono ?_
  rintro e w5 ⟨rfl, b5⟩
  go_wp2_with fail
  refine (cell_Int.val n _).mono ?_
  rintro e w6 ⟨rfl, b6⟩
  go_wp2_with fail
  refine (cell_Bool.val b _).mono ?_
  rintro e w7 ⟨rfl, b7⟩
  go_wp2_with fail
  refine (cell_Text.val s _).mono ?_
  rintro e w8 ⟨rfl, b8⟩
  go_wp2_with fail
  refine (firkinlaw09_live.calls true _ rfl).mono ?_
  rintro e w9 ⟨rfl, b9⟩
  go_wp2_with fail
  go_ret
  refine ⟨rfl, below_step (below_step (below_step (below_step ?_ b6) b7) b8) b9⟩
  repeat (first | exact HB3.out | refine below_alloc ?_ _ | refine below_set ?_ (by simp; omega) | refine below_step ?_ b5 | refine below_step ?_ (Mem.below_bytes _ _ _))

set_option maxHeartbeats 8000000 in
set_option maxRecDepth 100000 in
theorem cellAny_low (ty : Int) (ht : ty < 1) (c1 : Int) (c2 : ByteArray) (n : Int) (b : Bool) (s : ByteArray) (hs1 : decide ((c2.size : Int) ≤ 200) = true) (hs2 : decide ((200 : Int) < (s.size : Int)) = false) (w : World) :
    Calls Try.prog 13 #[.int .i64 ty, .agg #[.bool false, .int .i64 c1, .string c2], .agg #[.int .i64 n, .bool b, .string s]] w fun e w' => e = .returned (.bool true) ∧ Below w.heap.size w w' := by
  have HT := Lib.hid (fun w => cell_To.other ty (beq_eq_false_iff_ne.mpr (by omega)) (beq_eq_false_iff_ne.mpr (by omega)) (beq_eq_false_iff_ne.mpr (by omega)) c1 c2 w)
  have h9 : decide (1 ≤ ty) = false := decide_eq_false (by omega)
  have hu := Try.underlying60
  have hu2 := Try.underlying77
  have HS := Lib.hid (show firkinlaw09_small.f false c1 c2 = some (decide ((c2.size : Int) ≤ 200)) from rfl)
  rw [hs1] at HS
  clear hs1
  have kc := fun (W : World) => Lib.run_convert_string_bytes (P := Try.prog) W 9 22 5 s Try.underlying9 Try.underlying22 Try.underlying5
  go_enter Try.func13, Try.ntmps13
  go_wp2_with fail
  go_quiet (fail)
  go_wp2_with fail
  have bk0 := blk_drewN (blk_alloc (Mem.alloc_new w (.cells #[.bool false, .int .i64 c1, .string c2] 60)) (.cells #[.int .i64 n, .bool b, .string s] 77)) nq
  have B0 := pw_below_drewN (below_alloc (below_alloc (Below.refl w.heap.size w) (.cells #[.bool false, .int .i64 c1, .string c2] 60)) (.cells #[.int .i64 n, .bool b, .string s] 77)) nq
  refine (firkinlaw09_small.calls false c1 c2 _ _ HS.out).mono ?_
  rintro e w1 ⟨rfl, b1⟩
  have B1 := below_step B0 b1
  have bk1 := blk_below bk0 b1
  have c_0 : w1.cell? ⟨w.heap.size, 0, none⟩ = some (.bool false) := (blk_cell bk1 0).trans rfl
  have c_1 : w1.cell? ⟨w.heap.size, 1, none⟩ = some (.int .i64 c1) := (blk_cell bk1 1).trans rfl
  have c_2 : w1.cell? ⟨w.heap.size, 2, none⟩ = some (.string c2) := (blk_cell bk1 2).trans rfl
  have BK1 := Aside0.mk bk1
  clear bk0 B0 b1 bk1 HS
  go_wp2_with fail
  refine (HT.out _).mono ?_
  rintro e w2 ⟨rfl, b2⟩
  have B2 := below_step B1 b2
  have BK2 := Aside0.mk (blk_below BK1.out b2)
  clear c_0 c_1 c_2 BK1 B1 b2
  go_wp2_with fail
  refine (cell_From.none_ _).mono ?_
  rintro e w3 ⟨rfl, b3⟩
  have HB3 := Aside0.mk (below_step B2 b3)
  have bk3 := blk_below BK2.out b3
  have c_0 : w3.cell? ⟨w.heap.size, 0, none⟩ = some (.bool false) := (blk_cell bk3 0).trans rfl
  have c_1 : w3.cell? ⟨w.heap.size, 1, none⟩ = some (.int .i64 c1) := (blk_cell bk3 1).trans rfl
  have c_2 : w3.cell? ⟨w.heap.size, 2, none⟩ = some (.string c2) := (blk_cell bk3 2).trans rfl
  have hlt := blk_lt bk3
  clear BK2 B2 b3 bk3
  go_wp2_with fail
  refine (cell_From.bytes _ _ _ _).mono ?_
  rintro e w5 ⟨rfl, b5⟩
  go_wp2_with fail
  refine (cell_Int.val n _).mono ?_
  rintro e w6 ⟨rfl, b6⟩
  go_wp2_with fail
  refine (cell_Bool.val b _).mono ?_
  rintro e w7 ⟨rfl, b7⟩
  go_wp2_with fail
  refine (cell_Text.val s _).mono ?_
  rintro e w8 ⟨rfl, b8⟩
  go_wp2_with fail
  refine (firkinlaw09_live.calls true _ rfl).mono ?_
  rintro e w9 ⟨rfl, b9⟩
  go_wp2_with fail
  go_ret
  refine ⟨rfl, below_step (below_step (below_step (below_step ?_ b6) b7) b8) b9⟩
  repeat (first | exact HB3.out | refine below_alloc ?_ _ | refine below_set ?_ (by simp; omega) | refine below_step ?_ b5 | refine below_step ?_ (Mem.below_bytes _ _ _))

set_option maxHeartbeats 8000000 in
set_option maxRecDepth 100000 in
theorem cellAny_high (ty : Int) (ht : 3 < ty) (c1 : Int) (c2 : ByteArray) (n : Int) (b : Bool) (s : ByteArray) (hs1 : decide ((c2.size : Int) ≤ 200) = true) (hs2 : decide ((200 : Int) < (s.size : Int)) = false) (w : World) :
    Calls Try.prog 13 #[.int .i64 ty, .agg #[.bool false, .int .i64 c1, .string c2], .agg #[.int .i64 n, .bool b, .string s]] w fun e w' => e = .returned (.bool true) ∧ Below w.heap.size w w' := by
  have HT := Lib.hid (fun w => cell_To.other ty (beq_eq_false_iff_ne.mpr (by omega)) (beq_eq_false_iff_ne.mpr (by omega)) (beq_eq_false_iff_ne.mpr (by omega)) c1 c2 w)
  have h9 : decide (1 ≤ ty) = true := decide_eq_true (by omega)
  have h8 : decide (ty ≤ 3) = false := decide_eq_false (by omega)
  have hu := Try.underlying60
  have hu2 := Try.underlying77
  have HS := Lib.hid (show firkinlaw09_small.f false c1 c2 = some (decide ((c2.size : Int) ≤ 200)) from rfl)
  rw [hs1] at HS
  clear hs1
  have kc := fun (W : World) => Lib.run_convert_string_bytes (P := Try.prog) W 9 22 5 s Try.underlying9 Try.underlying22 Try.underlying5
  go_enter Try.func13, Try.ntmps13
  go_wp2_with fail
  go_quiet (fail)
  go_wp2_with fail
  have bk0 := blk_drewN (blk_alloc (Mem.alloc_new w (.cells #[.bool false, .int .i64 c1, .string c2] 60)) (.cells #[.int .i64 n, .bool b, .string s] 77)) nq
  have B0 := pw_below_drewN (below_alloc (below_alloc (Below.refl w.heap.size w) (.cells #[.bool false, .int .i64 c1, .string c2] 60)) (.cells #[.int .i64 n, .bool b, .string s] 77)) nq
  refine (firkinlaw09_small.calls false c1 c2 _ _ HS.out).mono ?_
  rintro e w1 ⟨rfl, b1⟩
  have B1 := below_step B0 b1
  have bk1 := blk_below bk0 b1
  have c_0 : w1.cell? ⟨w.heap.size, 0, none⟩ = some (.bool false) := (blk_cell bk1 0).trans rfl
  have c_1 : w1.cell? ⟨w.heap.size, 1, none⟩ = some (.int .i64 c1) := (blk_cell bk1 1).trans rfl
  have c_2 : w1.cell? ⟨w.heap.size, 2, none⟩ = some (.string c2) := (blk_cell bk1 2).trans rfl
  have BK1 := Aside0.mk bk1
  clear bk0 B0 b1 bk1 HS
  go_wp2_with fail
  refine (HT.out _).mono ?_
  rintro e w2 ⟨rfl, b2⟩
  have B2 := below_step B1 b2
  have BK2 := Aside0.mk (blk_below BK1.out b2)
  clear c_0 c_1 c_2 BK1 B1 b2
  go_wp2_with fail
  refine (cell_From.none_ _).mono ?_
  rintro e w3 ⟨rfl, b3⟩
  have HB3 := Aside0.mk (below_step B2 b3)
  have bk3 := blk_below BK2.out b3
  have c_0 : w3.cell? ⟨w.heap.size, 0, none⟩ = some (.bool false) := (blk_cell bk3 0).trans rfl
  have c_1 : w3.cell? ⟨w.heap.size, 1, none⟩ = some (.int .i64 c1) := (blk_cell bk3 1).trans rfl
  have c_2 : w3.cell? ⟨w.heap.size, 2, none⟩ = some (.string c2) := (blk_cell bk3 2).trans rfl
  have hlt := blk_lt bk3
  clear BK2 B2 b3 bk3
  go_wp2_with fail
  refine (cell_From.bytes _ _ _ _).mono ?_
  rintro e w5 ⟨rfl, b5⟩
  go_wp2_with fail
  refine (cell_Int.val n _).mono ?_
  rintro e w6 ⟨rfl, b6⟩
  go_wp2_with fail
  refine (cell_Bool.val b _).mono ?_
  rintro e w7 ⟨rfl, b7⟩
  go_wp2_with fail
  refine (cell_Text.val s _).mono ?_
  rintro e w8 ⟨rfl, b8⟩
  go_wp2_with fail
  refine (firkinlaw09_live.calls true _ rfl).mono ?_
  rintro e w9 ⟨rfl, b9⟩
  go_wp2_with fail
  go_ret
  refine ⟨rfl, below_step (below_step (below_step (below_step ?_ b6) b7) b8) b9⟩
  repeat (first | exact HB3.out | refine below_alloc ?_ _ | refine below_set ?_ (by simp; omega) | refine below_step ?_ b5 | refine below_step ?_ (Mem.below_bytes _ _ _))

def firkinlaw09_CellAny.f (a0 : Int) (a1_0 : Bool) (a1_1 : Int) (a1_2 : ByteArray) (a2_0 : Int) (a2_1 : Bool) (a2_2 : ByteArray) : Option Bool := some true
set_option maxHeartbeats 8000000 in
set_option maxRecDepth 100000 in
theorem cellAny_small (ty : Int) (c0 : Bool) (c1 : Int) (c2 : ByteArray) (n : Int) (b : Bool) (s : ByteArray) (hl : 200 < c2.size ∨ 200 < s.size) (w : World) :
    Calls Try.prog 13 #[.int .i64 ty, .agg #[.bool c0, .int .i64 c1, .string c2], .agg #[.int .i64 n, .bool b, .string s]] w fun e w' => e = .returned (.bool true) ∧ Below w.heap.size w w' := by
  have hu := Try.underlying60
  have hu2 := Try.underlying77
  have HS := Lib.hid (show firkinlaw09_small.f c0 c1 c2 = some (decide ((c2.size : Int) ≤ 200)) from rfl)
  obtain ⟨b1, hb1⟩ : ∃ b_ : Bool, decide ((c2.size : Int) ≤ 200) = b_ := ⟨_, rfl⟩
  obtain ⟨b2, hb2⟩ : ∃ b_ : Bool, decide ((200 : Int) < (s.size : Int)) = b_ := ⟨_, rfl⟩
  have hx : (!b1 || b2) = true := by rw [← hb1, ← hb2]; simp only [Bool.or_eq_true, Bool.not_eq_true', decide_eq_false_iff_not, decide_eq_true_eq]; omega
  rw [hb1] at HS
  clear hl
  cases b1 <;> cases b2 <;> first
    | (exact absurd hx (by decide))
    | (clear hx hb1
       go_enter Try.func13, Try.ntmps13
       go_wp2_with fail
       go_quiet (fail)
       go_wp2_with fail
       refine (firkinlaw09_small.calls c0 c1 c2 _ _ HS.out).mono ?_
       rintro e w1 ⟨rfl, b1⟩
       go_wp2_with fail
       refine (firkinlaw09_live.calls true _ rfl).mono ?_
       rintro e w2 ⟨rfl, b2⟩
       go_wp2_with fail
       go_ret
       exact ⟨rfl, below_step (below_step (pw_below_drewN (below_alloc (below_alloc (Below.refl _ _) _) _) _) b1) b2⟩)
theorem firkinlaw09_CellAny.calls (a0 : Int) (a1_0 : Bool) (a1_1 : Int) (a1_2 : ByteArray) (a2_0 : Int) (a2_1 : Bool) (a2_2 : ByteArray) (r : Bool) (w : World) (h : firkinlaw09_CellAny.f a0 a1_0 a1_1 a1_2 a2_0 a2_1 a2_2 = some r) :
    Calls Try.prog 13 #[.int .i64 a0, .agg #[.bool a1_0, .int .i64 a1_1, .string a1_2], .agg #[.int .i64 a2_0, .bool a2_1, .string a2_2]] w fun e w' => e = .returned (.bool r) ∧ Below w.heap.size w w' := by
  obtain rfl := Option.some.inj h
  clear h
  by_cases hl : 200 < a1_2.size ∨ 200 < a2_2.size
  · exact cellAny_small _ _ _ _ _ _ _ hl w
  have h1 : decide ((a1_2.size : Int) ≤ 200) = true := decide_eq_true (by omega)
  have h2 : decide ((200 : Int) < (a2_2.size : Int)) = false := decide_eq_false (by omega)
  cases a1_0 with
  | true => exact cellAny_null _ _ _ _ _ _ h1 h2 w
  | false =>
    by_cases t1 : a0 < 1
    · exact cellAny_low _ t1 _ _ _ _ _ h1 h2 w
    by_cases t2 : 3 < a0
    · exact cellAny_high _ t2 _ _ _ _ _ h1 h2 w
    by_cases t3 : a0 = 1
    · exact cellAny_int _ t3 _ _ _ _ _ h1 h2 w
    by_cases t4 : a0 = 3
    · exact cellAny_text _ t4 _ _ _ _ _ h1 h2 w
    by_cases t5 : a1_1 = 0
    · subst t5; exact cellAny_no _ (by omega) _ _ _ _ h1 h2 w
    · exact cellAny_yes _ (by omega) _ (by rw [bne_iff_ne]; exact t5) _ _ _ _ h1 h2 w
end Go.Proofs.Ytebalgjkabnldaa.X
