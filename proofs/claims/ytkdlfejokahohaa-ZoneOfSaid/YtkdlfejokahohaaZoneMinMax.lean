/- The contracts of slices.MinFunc and slices.MaxFunc over two cells, by cells' order. -/
import Derived.Test.YtkdlfejokahohaaCellOrd0
import Derived.Test.YtkdlfejokahohaaMem
import Derived.Deep.RegionHeld3
import Derived.StillTailTactics
import Derived.Laws.Rows
import Derived.Lib.Hide
namespace Go.Proofs.Ytkdlfejokahohaa.X
open Go.RowKit Go.Proofs.Ytkdlfejokahohaa.CellPlain Go.Proofs.YtkdlfejokahohaaW.PrintWords Go.Proofs.YtkdlfejokahohaaW.PrintLast Go.Proofs.YtkdlfejokahohaaW.PrintMore
set_option linter.unusedVariables false
set_option linter.unusedSimpArgs false
abbrev cv (c : S23) : Array Value := #[.bool c.f0, .int .i64 c.f1, .string c.f2]
theorem cv_set (w : World) (g : Nat) (a c : S23) (t : TypeId) (h : w.heap[g]? = some (.cells (cv a) t (0, 0))) :
    (((w.setCell ⟨g, 0, none⟩ (.bool c.f0)).setCell ⟨g, 1, none⟩ (.int .i64 c.f1)).setCell ⟨g, 2, none⟩ (.string c.f2)).heap[g]? = some (.cells (cv c) t (0, 0)) := by
  have h1 := blk_set (blk_set (blk_set h 0 (.bool c.f0)) 1 (.int .i64 c.f1)) 2 (.string c.f2)
  exact h1
set_option maxHeartbeats 8000000 in
set_option maxRecDepth 100000 in
theorem cell_MinFunc2.calls (x y : S23) (g : Nat) (w : World) (hg : w.heap[g]? = some (.cells #[.bool x.f0, .int .i64 x.f1, .string x.f2, .bool y.f0, .int .i64 y.f1, .string y.f2] 23 (0, 0))) :
    Calls Try.prog 86 #[.slice (some ⟨g, 0, none⟩) 2 2, .func (.func 74) #[] #[]] w fun e w' => e = .returned (.agg (cv (if ordC y.f0 y.f1 y.f2 x.f0 x.f1 x.f2 < 0 then y else x))) ∧ Below w.heap.size w w' := by
  have hu1 := Try.underlying23
  have HO := Lib.hid (order_is y.f0 y.f1 y.f2 x.f0 x.f1 x.f2 5 (by decide))
  have HC := Aside0.mk (fun w => cell_Order.calls 5 y.f0 y.f1 y.f2 x.f0 x.f1 x.f2 (ordC y.f0 y.f1 y.f2 x.f0 x.f1 x.f2) w HO.out)
  generalize ordC y.f0 y.f1 y.f2 x.f0 x.f1 x.f2 = v at HC ⊢
  generalize hmm : (if v < 0 then y else x) = mm
  have HMM := Lib.hid hmm
  clear hmm
  generalize hz : (⟨false, 0, ByteArray.empty⟩ : S23) = z
  have hzv : (#[.bool false, .int .i64 0, .string ByteArray.empty] : Array Value) = cv z := by rw [← hz]
  have HB1 := Aside0.mk (below_alloc (Below.refl w.heap.size w) (.cells (cv z) 23))
  have HR1 := Aside0.mk (Mem.alloc_new w (.cells (cv z) 23))
  have HG1 := Aside0.mk (blk_alloc hg (.cells (cv z) 23))
  have hglt := blk_lt hg
  have hsz := Mem.alloc_size w (.cells (cv z) 23)
  clear hg HO
  go_enter Try.func86, Try.ntmps86
  have hb1 : decide ((2 : Int) < 1) = false := rfl
  go_upto_region 3 with (fail)
  rw [show (Value.string ⟨#[]⟩) = Value.string ByteArray.empty from rfl] at *
  try rw [hzv]
  generalize w.alloc (.cells (cv z) 23) = W1 at HB1 HR1 HG1 hsz ⊢
  have p0 : W1.cell? ⟨g, 0, none⟩ = some (.bool x.f0) := (blk_cell HG1.out 0).trans rfl
  have p1 : W1.cell? ⟨g, 1, none⟩ = some (.int .i64 x.f1) := (blk_cell HG1.out 1).trans rfl
  have p2 : W1.cell? ⟨g, 2, none⟩ = some (.string x.f2) := (blk_cell HG1.out 2).trans rfl
  have HB2 := Aside0.mk (below_alloc HB1.out (.cells (cv x) 23))
  have HR2 := Aside0.mk (blk_alloc HR1.out (.cells (cv x) 23))
  have HG2 := Aside0.mk (blk_alloc HG1.out (.cells (cv x) 23))
  have HM2 := Aside0.mk (Mem.alloc_new W1 (.cells (cv x) 23))
  rw [hsz] at HM2
  clear HB1 HR1 HG1
  go_upto_block 0 with (fail)
  generalize W1.alloc (.cells (cv x) 23) = W2 at HB2 HR2 HG2 HM2 ⊢
  go_wp2_with fail
  go_loopg [6] 1 (fun kq v6 w' => ∃ (m : S23), ((kq = 1 ∧ v6 = .int .i64 1 ∧ m = x) ∨ (kq = 0 ∧ v6 = .int .i64 2 ∧ m = mm)) ∧ Aside0 (w'.heap[w.heap.size + 1]? = some (.cells (cv m) 23 (0, 0))) ∧ Aside0 (w'.heap[w.heap.size]? = some (.cells (cv z) 23 (0, 0))) ∧ Aside0 (w'.heap[g]? = some (.cells #[.bool x.f0, .int .i64 x.f1, .string x.f2, .bool y.f0, .int .i64 y.f1, .string y.f2] 23 (0, 0))) ∧ Aside0 (Below w.heap.size w w'))
  case atStart => exact ⟨x, .inl ⟨rfl, rfl, rfl⟩, HM2, HR2, HG2, HB2⟩
  case round =>
    clear HM2 HR2 HG2 HB2 p0 p1 p2
    obtain ⟨m, hm, HM, HR, HG, HB⟩ := hrel
    rcases hm with ⟨rfl, rfl, rfl⟩ | ⟨rfl, rfl, hm⟩
    · have hb2 : decide ((1 : Int) < 2) = true := rfl
      go_upto_region 7 with (fail)
      have hg3 : wr.cell? ⟨g, 3, none⟩ = some (.bool y.f0) := (blk_cell HG.out 3).trans rfl
      have hg4 : wr.cell? ⟨g, 4, none⟩ = some (.int .i64 y.f1) := (blk_cell HG.out 4).trans rfl
      have hg5 : wr.cell? ⟨g, 5, none⟩ = some (.string y.f2) := (blk_cell HG.out 5).trans rfl
      have q0 : wr.cell? ⟨w.heap.size + 1, 0, none⟩ = some (.bool m.f0) := (blk_cell HM.out 0).trans rfl
      have q1 : wr.cell? ⟨w.heap.size + 1, 1, none⟩ = some (.int .i64 m.f1) := (blk_cell HM.out 1).trans rfl
      have q2 : wr.cell? ⟨w.heap.size + 1, 2, none⟩ = some (.string m.f2) := (blk_cell HM.out 2).trans rfl
      go_still_tail 6, (by kernel_rfl)
      change wpList _ _ _ _ _ wr.drew
      have HM3 := Aside0.mk (show wr.drew.heap[w.heap.size + 1]? = _ from HM.out)
      have HR3 := Aside0.mk (show wr.drew.heap[w.heap.size]? = _ from HR.out)
      have HG3 := Aside0.mk (show wr.drew.heap[g]? = _ from HG.out)
      have HB3 := Aside0.mk (below_drew HB.out)
      clear HM HR HG HB hg3 hg4 hg5 q0 q1 q2
      generalize wr.drew = w3 at HM3 HR3 HG3 HB3 ⊢
      go_wp2_with fail
      refine (HC.out _).mono ?_
      rintro e w4 ⟨rfl, b4⟩
      have HM4 := Aside0.mk (blk_below HM3.out b4)
      have HR4 := Aside0.mk (blk_below HR3.out b4)
      have HG4 := Aside0.mk (blk_below HG3.out b4)
      have HB4 := Aside0.mk (below_step HB3.out b4)
      clear HM3 HR3 HG3 HB3 b4
      by_cases hv : v < 0
      · have hv1 : decide (v < 0) = true := decide_eq_true hv
        have HV := Aside0.mk hv
        clear hv
        have hg3 : w4.cell? ⟨g, 3, none⟩ = some (.bool y.f0) := (blk_cell HG4.out 3).trans rfl
        have hg4 : w4.cell? ⟨g, 4, none⟩ = some (.int .i64 y.f1) := (blk_cell HG4.out 4).trans rfl
        have hg5 : w4.cell? ⟨g, 5, none⟩ = some (.string y.f2) := (blk_cell HG4.out 5).trans rfl
        have q0 : w4.cell? ⟨w.heap.size + 1, 0, none⟩ = some (.bool m.f0) := (blk_cell HM4.out 0).trans rfl
        have q1 : w4.cell? ⟨w.heap.size + 1, 1, none⟩ = some (.int .i64 m.f1) := (blk_cell HM4.out 1).trans rfl
        have q2 : w4.cell? ⟨w.heap.size + 1, 2, none⟩ = some (.string m.f2) := (blk_cell HM4.out 2).trans rfl
        have f0 := blk_frozen HM4.out 0
        have f1 := blk_frozen HM4.out 1
        have f2 := blk_frozen HM4.out 2
        go_wp2_with fail
        go_roundg 0
        case measure => omega
        case rel => exact ⟨y, .inr ⟨rfl, rfl, by rw [← HMM.out, if_pos (by have := HV.out; omega)]⟩, ⟨cv_set w4 _ m y _ HM4.out⟩, ⟨blk_far (blk_far (blk_far HR4.out (p := ⟨w.heap.size + 1, 0, none⟩) (by show w.heap.size ≠ w.heap.size + 1; omega) _) (p := ⟨w.heap.size + 1, 1, none⟩) (by show w.heap.size ≠ w.heap.size + 1; omega) _) (p := ⟨w.heap.size + 1, 2, none⟩) (by show w.heap.size ≠ w.heap.size + 1; omega) _⟩, ⟨blk_far (blk_far (blk_far HG4.out (p := ⟨w.heap.size + 1, 0, none⟩) (by show g ≠ w.heap.size + 1; omega) _) (p := ⟨w.heap.size + 1, 1, none⟩) (by show g ≠ w.heap.size + 1; omega) _) (p := ⟨w.heap.size + 1, 2, none⟩) (by show g ≠ w.heap.size + 1; omega) _⟩, ⟨below_set (below_set (below_set HB4.out (by omega)) (by omega)) (by omega)⟩⟩
      · have hv1 : decide (v < 0) = false := decide_eq_false hv
        have HV := Aside0.mk hv
        clear hv
        go_wp2_with fail
        go_roundg 0
        case measure => omega
        case rel => exact ⟨m, .inr ⟨rfl, rfl, by rw [← HMM.out, if_neg (by have := HV.out; omega)]⟩, HM4, HR4, HG4, HB4⟩
    · have hb2 : decide ((2 : Int) < 2) = false := rfl
      subst hm
      have q0 : wr.cell? ⟨w.heap.size + 1, 0, none⟩ = some (.bool m.f0) := (blk_cell HM.out 0).trans rfl
      have q1 : wr.cell? ⟨w.heap.size + 1, 1, none⟩ = some (.int .i64 m.f1) := (blk_cell HM.out 1).trans rfl
      have q2 : wr.cell? ⟨w.heap.size + 1, 2, none⟩ = some (.string m.f2) := (blk_cell HM.out 2).trans rfl
      have r0 : wr.cell? ⟨w.heap.size, 0, none⟩ = some (.bool z.f0) := (blk_cell HR.out 0).trans rfl
      have r1 : wr.cell? ⟨w.heap.size, 1, none⟩ = some (.int .i64 z.f1) := (blk_cell HR.out 1).trans rfl
      have r2 : wr.cell? ⟨w.heap.size, 2, none⟩ = some (.string z.f2) := (blk_cell HR.out 2).trans rfl
      have f0 := blk_frozen HR.out 0
      have f1 := blk_frozen HR.out 1
      have f2 := blk_frozen HR.out 2
      go_wp2_with fail
      have hW := cv_set wr w.heap.size z m _ HR.out
      have hB9 := below_set (j := 2) (v := .string m.f2) (below_set (j := 1) (v := .int .i64 m.f1) (below_set (j := 0) (v := .bool m.f0) HB.out (Nat.le_refl _)) (Nat.le_refl _)) (Nat.le_refl _)
      clear q0 q1 q2 r0 r1 r2 f0 f1 f2 HR HM HG HB
      generalize World.setCell _ _ _ = W8 at hB9 hW ⊢
      refine bodyPost_ret (results_cell_row rfl _ _ w.heap.size 23 _ (0, 0) _ rfl hW hu1 rfl (by kernel_rfl)) rfl ⟨?_, hB9⟩
      rfl
set_option maxHeartbeats 8000000 in
set_option maxRecDepth 100000 in
theorem cell_MaxFunc2.calls (x y : S23) (g : Nat) (w : World) (hg : w.heap[g]? = some (.cells #[.bool x.f0, .int .i64 x.f1, .string x.f2, .bool y.f0, .int .i64 y.f1, .string y.f2] 23 (0, 0))) :
    Calls Try.prog 87 #[.slice (some ⟨g, 0, none⟩) 2 2, .func (.func 74) #[] #[]] w fun e w' => e = .returned (.agg (cv (if 0 < ordC y.f0 y.f1 y.f2 x.f0 x.f1 x.f2 then y else x))) ∧ Below w.heap.size w w' := by
  have hu1 := Try.underlying23
  have HO := Lib.hid (order_is y.f0 y.f1 y.f2 x.f0 x.f1 x.f2 5 (by decide))
  have HC := Aside0.mk (fun w => cell_Order.calls 5 y.f0 y.f1 y.f2 x.f0 x.f1 x.f2 (ordC y.f0 y.f1 y.f2 x.f0 x.f1 x.f2) w HO.out)
  generalize ordC y.f0 y.f1 y.f2 x.f0 x.f1 x.f2 = v at HC ⊢
  generalize hmm : (if 0 < v then y else x) = mm
  have HMM := Lib.hid hmm
  clear hmm
  generalize hz : (⟨false, 0, ByteArray.empty⟩ : S23) = z
  have hzv : (#[.bool false, .int .i64 0, .string ByteArray.empty] : Array Value) = cv z := by rw [← hz]
  have HB1 := Aside0.mk (below_alloc (Below.refl w.heap.size w) (.cells (cv z) 23))
  have HR1 := Aside0.mk (Mem.alloc_new w (.cells (cv z) 23))
  have HG1 := Aside0.mk (blk_alloc hg (.cells (cv z) 23))
  have hglt := blk_lt hg
  have hsz := Mem.alloc_size w (.cells (cv z) 23)
  clear hg HO
  go_enter Try.func87, Try.ntmps87
  have hb1 : decide ((2 : Int) < 1) = false := rfl
  go_upto_region 3 with (fail)
  rw [show (Value.string ⟨#[]⟩) = Value.string ByteArray.empty from rfl] at *
  try rw [hzv]
  generalize w.alloc (.cells (cv z) 23) = W1 at HB1 HR1 HG1 hsz ⊢
  have p0 : W1.cell? ⟨g, 0, none⟩ = some (.bool x.f0) := (blk_cell HG1.out 0).trans rfl
  have p1 : W1.cell? ⟨g, 1, none⟩ = some (.int .i64 x.f1) := (blk_cell HG1.out 1).trans rfl
  have p2 : W1.cell? ⟨g, 2, none⟩ = some (.string x.f2) := (blk_cell HG1.out 2).trans rfl
  have HB2 := Aside0.mk (below_alloc HB1.out (.cells (cv x) 23))
  have HR2 := Aside0.mk (blk_alloc HR1.out (.cells (cv x) 23))
  have HG2 := Aside0.mk (blk_alloc HG1.out (.cells (cv x) 23))
  have HM2 := Aside0.mk (Mem.alloc_new W1 (.cells (cv x) 23))
  rw [hsz] at HM2
  clear HB1 HR1 HG1
  go_upto_block 0 with (fail)
  generalize W1.alloc (.cells (cv x) 23) = W2 at HB2 HR2 HG2 HM2 ⊢
  go_wp2_with fail
  go_loopg [6] 1 (fun kq v6 w' => ∃ (m : S23), ((kq = 1 ∧ v6 = .int .i64 1 ∧ m = x) ∨ (kq = 0 ∧ v6 = .int .i64 2 ∧ m = mm)) ∧ Aside0 (w'.heap[w.heap.size + 1]? = some (.cells (cv m) 23 (0, 0))) ∧ Aside0 (w'.heap[w.heap.size]? = some (.cells (cv z) 23 (0, 0))) ∧ Aside0 (w'.heap[g]? = some (.cells #[.bool x.f0, .int .i64 x.f1, .string x.f2, .bool y.f0, .int .i64 y.f1, .string y.f2] 23 (0, 0))) ∧ Aside0 (Below w.heap.size w w'))
  case atStart => exact ⟨x, .inl ⟨rfl, rfl, rfl⟩, HM2, HR2, HG2, HB2⟩
  case round =>
    clear HM2 HR2 HG2 HB2 p0 p1 p2
    obtain ⟨m, hm, HM, HR, HG, HB⟩ := hrel
    rcases hm with ⟨rfl, rfl, rfl⟩ | ⟨rfl, rfl, hm⟩
    · have hb2 : decide ((1 : Int) < 2) = true := rfl
      go_upto_region 7 with (fail)
      have hg3 : wr.cell? ⟨g, 3, none⟩ = some (.bool y.f0) := (blk_cell HG.out 3).trans rfl
      have hg4 : wr.cell? ⟨g, 4, none⟩ = some (.int .i64 y.f1) := (blk_cell HG.out 4).trans rfl
      have hg5 : wr.cell? ⟨g, 5, none⟩ = some (.string y.f2) := (blk_cell HG.out 5).trans rfl
      have q0 : wr.cell? ⟨w.heap.size + 1, 0, none⟩ = some (.bool m.f0) := (blk_cell HM.out 0).trans rfl
      have q1 : wr.cell? ⟨w.heap.size + 1, 1, none⟩ = some (.int .i64 m.f1) := (blk_cell HM.out 1).trans rfl
      have q2 : wr.cell? ⟨w.heap.size + 1, 2, none⟩ = some (.string m.f2) := (blk_cell HM.out 2).trans rfl
      go_still_tail 6, (by kernel_rfl)
      change wpList _ _ _ _ _ wr.drew
      have HM3 := Aside0.mk (show wr.drew.heap[w.heap.size + 1]? = _ from HM.out)
      have HR3 := Aside0.mk (show wr.drew.heap[w.heap.size]? = _ from HR.out)
      have HG3 := Aside0.mk (show wr.drew.heap[g]? = _ from HG.out)
      have HB3 := Aside0.mk (below_drew HB.out)
      clear HM HR HG HB hg3 hg4 hg5 q0 q1 q2
      generalize wr.drew = w3 at HM3 HR3 HG3 HB3 ⊢
      go_wp2_with fail
      refine (HC.out _).mono ?_
      rintro e w4 ⟨rfl, b4⟩
      have HM4 := Aside0.mk (blk_below HM3.out b4)
      have HR4 := Aside0.mk (blk_below HR3.out b4)
      have HG4 := Aside0.mk (blk_below HG3.out b4)
      have HB4 := Aside0.mk (below_step HB3.out b4)
      clear HM3 HR3 HG3 HB3 b4
      by_cases hv : 0 < v
      · have hv1 : decide (v > 0) = true := decide_eq_true hv
        have HV := Aside0.mk hv
        clear hv
        have hg3 : w4.cell? ⟨g, 3, none⟩ = some (.bool y.f0) := (blk_cell HG4.out 3).trans rfl
        have hg4 : w4.cell? ⟨g, 4, none⟩ = some (.int .i64 y.f1) := (blk_cell HG4.out 4).trans rfl
        have hg5 : w4.cell? ⟨g, 5, none⟩ = some (.string y.f2) := (blk_cell HG4.out 5).trans rfl
        have q0 : w4.cell? ⟨w.heap.size + 1, 0, none⟩ = some (.bool m.f0) := (blk_cell HM4.out 0).trans rfl
        have q1 : w4.cell? ⟨w.heap.size + 1, 1, none⟩ = some (.int .i64 m.f1) := (blk_cell HM4.out 1).trans rfl
        have q2 : w4.cell? ⟨w.heap.size + 1, 2, none⟩ = some (.string m.f2) := (blk_cell HM4.out 2).trans rfl
        have f0 := blk_frozen HM4.out 0
        have f1 := blk_frozen HM4.out 1
        have f2 := blk_frozen HM4.out 2
        go_wp2_with fail
        go_roundg 0
        case measure => omega
        case rel => exact ⟨y, .inr ⟨rfl, rfl, by rw [← HMM.out, if_pos (by have := HV.out; omega)]⟩, ⟨cv_set w4 _ m y _ HM4.out⟩, ⟨blk_far (blk_far (blk_far HR4.out (p := ⟨w.heap.size + 1, 0, none⟩) (by show w.heap.size ≠ w.heap.size + 1; omega) _) (p := ⟨w.heap.size + 1, 1, none⟩) (by show w.heap.size ≠ w.heap.size + 1; omega) _) (p := ⟨w.heap.size + 1, 2, none⟩) (by show w.heap.size ≠ w.heap.size + 1; omega) _⟩, ⟨blk_far (blk_far (blk_far HG4.out (p := ⟨w.heap.size + 1, 0, none⟩) (by show g ≠ w.heap.size + 1; omega) _) (p := ⟨w.heap.size + 1, 1, none⟩) (by show g ≠ w.heap.size + 1; omega) _) (p := ⟨w.heap.size + 1, 2, none⟩) (by show g ≠ w.heap.size + 1; omega) _⟩, ⟨below_set (below_set (below_set HB4.out (by omega)) (by omega)) (by omega)⟩⟩
      · have hv1 : decide (v > 0) = false := decide_eq_false hv
        have HV := Aside0.mk hv
        clear hv
        go_wp2_with fail
        go_roundg 0
        case measure => omega
        case rel => exact ⟨m, .inr ⟨rfl, rfl, by rw [← HMM.out, if_neg (by have := HV.out; omega)]⟩, HM4, HR4, HG4, HB4⟩
    · have hb2 : decide ((2 : Int) < 2) = false := rfl
      subst hm
      have q0 : wr.cell? ⟨w.heap.size + 1, 0, none⟩ = some (.bool m.f0) := (blk_cell HM.out 0).trans rfl
      have q1 : wr.cell? ⟨w.heap.size + 1, 1, none⟩ = some (.int .i64 m.f1) := (blk_cell HM.out 1).trans rfl
      have q2 : wr.cell? ⟨w.heap.size + 1, 2, none⟩ = some (.string m.f2) := (blk_cell HM.out 2).trans rfl
      have r0 : wr.cell? ⟨w.heap.size, 0, none⟩ = some (.bool z.f0) := (blk_cell HR.out 0).trans rfl
      have r1 : wr.cell? ⟨w.heap.size, 1, none⟩ = some (.int .i64 z.f1) := (blk_cell HR.out 1).trans rfl
      have r2 : wr.cell? ⟨w.heap.size, 2, none⟩ = some (.string z.f2) := (blk_cell HR.out 2).trans rfl
      have f0 := blk_frozen HR.out 0
      have f1 := blk_frozen HR.out 1
      have f2 := blk_frozen HR.out 2
      go_wp2_with fail
      have hW := cv_set wr w.heap.size z m _ HR.out
      have hB9 := below_set (j := 2) (v := .string m.f2) (below_set (j := 1) (v := .int .i64 m.f1) (below_set (j := 0) (v := .bool m.f0) HB.out (Nat.le_refl _)) (Nat.le_refl _)) (Nat.le_refl _)
      clear q0 q1 q2 r0 r1 r2 f0 f1 f2 HR HM HG HB
      generalize World.setCell _ _ _ = W8 at hB9 hW ⊢
      refine bodyPost_ret (results_cell_row rfl _ _ w.heap.size 23 _ (0, 0) _ rfl hW hu1 rfl (by kernel_rfl)) rfl ⟨?_, hB9⟩
      rfl
end Go.Proofs.Ytkdlfejokahohaa.X
