-- Printed for this claim by a program of this session (wip/xprint.py) over the kit's printer; Lean checks it.
import Derived.Test.YtkdlfejokahohaaX0
import Derived.Test.YtkdlfejokahohaaX1
import Derived.Test.YtkdlfejokahohaaX2
import Derived.Test.YtkdlfejokahohaaX4
import Derived.Test.YtkdlfejokahohaaZoneOfC
namespace Go.Proofs.Ytkdlfejokahohaa.X
open Go.RowKit Go.Proofs.YtkdlfejokahohaaW.PrintWords Go.Proofs.YtkdlfejokahohaaW.PrintLast Go.Proofs.YtkdlfejokahohaaW.PrintMore
attribute [local go_sem] max2_int min2_int max_two min_two max_three min_three max_four min_four   -- for this text's walks alone
set_option linter.unusedVariables false
set_option linter.unusedSimpArgs false

attribute [local go_sem high] eqA23 eqA25
/-! ### firkinlaw11_live: function 15 -/
def firkinlaw11_live.f  : Option (Bool) := (zone_Of.f (([(⟨false, 3, (⟨#[]⟩ : ByteArray)⟩ : S23), (⟨true, 0, (⟨#[]⟩ : ByteArray)⟩ : S23), (⟨false, (-1), (⟨#[]⟩ : ByteArray)⟩ : S23)] : List (S23)))).bind fun bt126 => (some (bt126.1 == 3 && (bt126.2.1 == 1 && ((!bt126.2.2.1 && (bt126.2.2.2.1 == (-1) && (bt126.2.2.2.2.1.toList == ([] : List UInt8)))) && ((!bt126.2.2.2.2.2.1 && (bt126.2.2.2.2.2.2.1 == 3 && (bt126.2.2.2.2.2.2.2.toList == ([] : List UInt8)))))))))
set_option maxHeartbeats 8000000 in
set_option maxRecDepth 100000 in
theorem firkinlaw11_live.calls  (r : Bool) (w : World) (h : firkinlaw11_live.f  = some r) :
    Calls Try.prog 15 #[] w fun e w' => e = .returned (.bool r) ∧ Below w.heap.size w w' := by
  have hu23 := Try.underlying23
  have hu25 := Try.underlying25
  have HB := Aside0.mk (Below.refl w.heap.size w)
  have H : ((zone_Of.f (([(⟨false, 3, (⟨#[]⟩ : ByteArray)⟩ : S23), (⟨true, 0, (⟨#[]⟩ : ByteArray)⟩ : S23), (⟨false, (-1), (⟨#[]⟩ : ByteArray)⟩ : S23)] : List (S23)))).bind fun bt126 => (some (bt126.1 == 3 && (bt126.2.1 == 1 && ((!bt126.2.2.1 && (bt126.2.2.2.1 == (-1) && (bt126.2.2.2.2.1.toList == ([] : List UInt8)))) && ((!bt126.2.2.2.2.2.1 && (bt126.2.2.2.2.2.2.1 == 3 && (bt126.2.2.2.2.2.2.2.toList == ([] : List UInt8)))))))))) = some r := h
  clear h
  obtain ⟨y123, hy123⟩ : ∃ y_ : List (S23), y_ = (([(⟨false, 3, (⟨#[]⟩ : ByteArray)⟩ : S23), (⟨true, 0, (⟨#[]⟩ : ByteArray)⟩ : S23), (⟨false, (-1), (⟨#[]⟩ : ByteArray)⟩ : S23)] : List (S23))) := ⟨_, rfl⟩
  replace H : ((zone_Of.f y123).bind fun bt126 => (some (bt126.1 == 3 && (bt126.2.1 == 1 && ((!bt126.2.2.1 && (bt126.2.2.2.1 == (-1) && (bt126.2.2.2.2.1.toList == ([] : List UInt8)))) && ((!bt126.2.2.2.2.2.1 && (bt126.2.2.2.2.2.2.1 == 3 && (bt126.2.2.2.2.2.2.2.toList == ([] : List UInt8)))))))))) = some r := by first | (rw [hy123]; with_reducible exact H) | (have H2_ := (Option.bind_some _ _).symm.trans H; rw [hy123]; with_reducible exact H2_) | (have H2_ := (Option.bind_some _ _).symm.trans H; with_reducible exact H2_) | with_reducible exact H | (rw [hy123]; exact H) | exact H
  have Ny123 := Aside0.mk hy123
  clear hy123
  replace H := Option.bind_eq_some_iff.mp H
  obtain ⟨⟨t126, t127, t128, t129, t130, t131, t132, t133⟩, A10, H⟩ := H
  replace H : (some (t126 == 3 && (t127 == 1 && ((!t128 && (t129 == (-1) && (t130.toList == ([] : List UInt8)))) && ((!t131 && (t132 == 3 && (t133.toList == ([] : List UInt8))))))))) = some r := H
  have A1 := Aside0.mk A10
  clear A10
  obtain rfl := Option.some.inj H
  go_enter Try.func15, Try.ntmps15
  go_wp2_with (first | ((with_reducible refine gate_dst (N := 4) rfl ?_); refine Kd.R_lit k23 _ 23 ?hg (N := 4) ?hd (xs := ([(⟨false, 3, (⟨#[]⟩ : ByteArray)⟩ : S23), (⟨true, 0, (⟨#[]⟩ : ByteArray)⟩ : S23), (⟨false, (-1), (⟨#[]⟩ : ByteArray)⟩ : S23)] : List (S23))) (inner := [.bool false, .int .i64 3, .string (⟨#[]⟩ : ByteArray), .bool true, .int .i64 0, .string (⟨#[]⟩ : ByteArray), .bool false, .int .i64 (-1), .string (⟨#[]⟩ : ByteArray)]) (ok := fun _ => True) (okp := fun _ => True) ?hr ?hp (fun _ hk => hk) trivial (Below.refl _ _) (Nat.le_refl _) (by simp) ?_; (case hd => rfl); (case hg => rfl); (case hr => first | (go_simp; done) | (go_simp; rfl)); (case hp => exact (Reps.c3 (show Kd.M k23 _ _ _ (⟨false, 3, (⟨#[]⟩ : ByteArray)⟩ : S23) [.bool false, .int .i64 3, .string (⟨#[]⟩ : ByteArray)] from (k23_mkM _ _ _ (⟨false, 3, (⟨#[]⟩ : ByteArray)⟩ : S23) )) (Reps.c3 (show Kd.M k23 _ _ _ (⟨true, 0, (⟨#[]⟩ : ByteArray)⟩ : S23) [.bool true, .int .i64 0, .string (⟨#[]⟩ : ByteArray)] from (k23_mkM _ _ _ (⟨true, 0, (⟨#[]⟩ : ByteArray)⟩ : S23) )) (Reps.c3 (show Kd.M k23 _ _ _ (⟨false, (-1), (⟨#[]⟩ : ByteArray)⟩ : S23) [.bool false, .int .i64 (-1), .string (⟨#[]⟩ : ByteArray)] from (k23_mkM _ _ _ (⟨false, (-1), (⟨#[]⟩ : ByteArray)⟩ : S23) )) (Reps.none _ _))))); intro v124 w2 ho3 hb hg_ hnew_; clear hg_ hnew_; (first | rw [← Ny123.out] at ho3 | (simp only [Int.reduceToNat] at ho3; rw [← Ny123.out] at ho3)); have n0_ := Aside0.mk (Kd.R_lower ho3 (below_size (by repeat (first | (with_reducible first | exact HB.out | apply below_alloc | apply pw_below_drewN | apply below_drew1) | exact HB.out)))); have n1_ := Aside0.mk (below_step (by repeat (first | (with_reducible first | exact HB.out | apply below_alloc | apply pw_below_drewN | apply below_drew1) | exact HB.out)) hb); clear HB; have HO125 := n0_; have HB := n1_; clear n0_ n1_; clear hb ho3; obtain ⟨Ao4, co4, eo4⟩ := Kd.R_slice HO125.out; subst eo4) | ((with_reducible refine gate_callee (f := 57) rfl ?_); refine goesL_ (some 5) rfl rfl Try.func57 (by kernel_rfl) rfl #[.slice Ao4 y123.length co4] rfl (by (try simp only [List.map_toArray, List.map_cons, List.map_nil]); first | done | rfl | (simp only [List.length_drop, List.length_take]; rfl)) ?_; (with_reducible refine (zone_Of.calls _ _ y123 t126 t127 t128 t129 t130 t131 t132 t133 _ ?side1 ?side2 A1.out).mono ?_); (case side1 => repeat (first | exact (Kd.R_reads' HO125.out).2.2 | (with_reducible refine Kd.C_alloc ?_ _) | (with_reducible refine Kd.C_drewN ?_ _) | (with_reducible refine Kd.C_drew ?_))); (case side2 => exact (Kd.R_reads' HO125.out).2.1); rintro e w5 ⟨rfl, hb⟩; refine ⟨_, rfl, ?_⟩; have n0_ := Aside0.mk (Kd.R_below (by (with_reducible repeat (first | apply Kd.R_alloc | apply Kd.R_drewN | apply Kd.R_drew)); exact HO125.out) hb); have n1_ := Aside0.mk (below_step (by repeat (first | (with_reducible first | exact HB.out | apply below_alloc | apply pw_below_drewN | apply below_drew1) | exact HB.out)) hb); clear HO125; clear HB; have HO125 := n0_; have HB := n1_; clear n0_ n1_; (try clear hb); (try clear hb2); (try clear hk); (try clear hi)))
  go_ret
  exact ⟨by first | rfl | (simp only [Go.Proofs.Ytkdlfejokahohaa.Strs.nilB]; rfl) | (simp [errW_none, errW_some] <;> rfl) | (simp [*, errW_none, errW_some] <;> rfl), by repeat (first | (with_reducible first | exact HB.out | apply below_alloc | apply pw_below_drewN | apply below_drew1) | exact HB.out)⟩

/-! ### cell_May: function 73 -/
def cell_May.f (a0 : Int) (a1 : Bool) (a2_0 : Bool) (a2_1 : Int) (a2_2 : ByteArray) : Option (Bool) := if a2_0 = true then (if a1 = true then (if a0 ≥ 1 then (if a0 ≤ 3 then (some (a2_0 && (a2_1 == 0 && (a2_2.toList == ([] : List UInt8))))) else (some false)) else (some false)) else (some false)) else (if a0 = 1 then (some (a2_2.toList == ([] : List UInt8))) else (if a0 = 2 then (if a2_2.toList = ([] : List UInt8) then (if a2_1 = 0 then (some true) else (some (a2_1 == 1))) else (some false)) else (if a0 = 3 then (if a2_1 = 0 then (some (decide ((a2_2.size : Int) ≤ 40))) else (some false)) else (some false))))
set_option maxHeartbeats 8000000 in
set_option maxRecDepth 100000 in
theorem cell_May.calls (a0 : Int) (a1 : Bool) (a2_0 : Bool) (a2_1 : Int) (a2_2 : ByteArray) (r : Bool) (w : World) (h : cell_May.f a0 a1 a2_0 a2_1 a2_2 = some r) :
    Calls Try.prog 73 #[.int .i64 a0, .bool a1, .agg #[.bool a2_0, .int .i64 a2_1, .string a2_2]] w fun e w' => e = .returned (.bool r) ∧ Below w.heap.size w w' := by
  have hu23 := Try.underlying23
  have HB := Aside0.mk (Below.refl w.heap.size w)
  have H : (if a2_0 = true then (if a1 = true then (if a0 ≥ 1 then (if a0 ≤ 3 then (some (a2_0 && (a2_1 == 0 && (a2_2.toList == ([] : List UInt8))))) else (some false)) else (some false)) else (some false)) else (if a0 = 1 then (some (a2_2.toList == ([] : List UInt8))) else (if a0 = 2 then (if a2_2.toList = ([] : List UInt8) then (if a2_1 = 0 then (some true) else (some (a2_1 == 1))) else (some false)) else (if a0 = 3 then (if a2_1 = 0 then (some (decide ((a2_2.size : Int) ≤ 40))) else (some false)) else (some false))))) = some r := h
  clear h
  by_cases c4 : a2_0 = true
  · subst c4
    have H1 : (if a1 = true then (if a0 ≥ 1 then (if a0 ≤ 3 then (some (true && (a2_1 == 0 && (a2_2.toList == ([] : List UInt8))))) else (some false)) else (some false)) else (some false)) = some r := by rw [if_pos rfl] at H; exact H
    clear H
    have H := H1
    clear H1
    by_cases c5 : a1 = true
    · subst c5
      have H1 : (if a0 ≥ 1 then (if a0 ≤ 3 then (some (true && (a2_1 == 0 && (a2_2.toList == ([] : List UInt8))))) else (some false)) else (some false)) = some r := by rw [if_pos rfl] at H; exact H
      clear H
      have H := H1
      clear H1
      by_cases c6 : a0 ≥ 1
      · rw [if_pos c6] at H
        have c6b0 : decide (1 ≤ a0) = true := decide_eq_true c6
        clear c6
        by_cases c7 : a0 ≤ 3
        · rw [if_pos c7] at H
          have c7b0 : decide (a0 ≤ 3) = true := decide_eq_true c7
          clear c7
          obtain rfl := Option.some.inj H
          go_enter Try.func73, Try.ntmps73
          go_wp2_with (first | ((with_reducible refine gate_dst (N := 5) rfl ?_); (try (refine gate_guard (by rfl) ?_; dsimp only)); refine box_event ?hg (N := 5) ?hd (cs := #[.bool true, .int .i64 a2_1, .string a2_2]) (t := 23) ?hr ?_; (case hd => rfl); (case hg => rfl); (case hr => first | (go_simp; done) | (go_simp; rfl)); intro gb134 hg w8 hbox hb; have n0_ := Aside0.mk (below_step (by repeat (first | (with_reducible first | exact HB.out | apply below_alloc | apply pw_below_drewN | apply below_drew1) | exact HB.out)) hb); have n1_ := Aside0.mk (hbox); have n2_ := Aside0.mk ((by rw [hg]; exact (below_size (by repeat (first | (with_reducible first | exact HB.out | apply below_alloc | apply pw_below_drewN | apply below_drew1) | exact HB.out))) : w.heap.size ≤ gb134)); have n3_ := Aside0.mk ((by rw [hg]; exact (below_size (by repeat (first | (with_reducible first | exact HB.out | apply below_alloc | apply pw_below_drewN | apply below_drew1) | exact HB.out))) : w.heap.size ≤ gb134)); clear HB; have HB := n0_; have BK134 := n1_; have GW134 := n2_; have GE134 := n3_; clear n0_ n1_ n2_ n3_; clear hb hbox hg; have hcz9_0 : w8.cell? ⟨gb134, 0, none⟩ = some (.bool true) := (blk_cell BK134.out 0).trans rfl; have hcz9_1 : w8.cell? ⟨gb134, 1, none⟩ = some (.int .i64 a2_1) := (blk_cell BK134.out 1).trans rfl; have hcz9_2 : w8.cell? ⟨gb134, 2, none⟩ = some (.string a2_2) := (blk_cell BK134.out 2).trans rfl; have hfz9_0 := blk_frozen BK134.out 0; have hfz9_1 := blk_frozen BK134.out 1; have hfz9_2 := blk_frozen BK134.out 2))
          go_ret
          exact ⟨by first | rfl | (simp only [Go.Proofs.Ytkdlfejokahohaa.Strs.nilB]; rfl) | (simp [errW_none, errW_some] <;> rfl) | (simp [*, errW_none, errW_some] <;> rfl), by repeat (first | (with_reducible first | exact HB.out | apply below_alloc | apply pw_below_drewN | apply below_drew1 | refine below_set ?_ GE134.out) | exact HB.out)⟩
        · rw [if_neg c7] at H
          have c7b0 : decide (a0 ≤ 3) = false := decide_eq_false c7
          clear c7
          obtain rfl := Option.some.inj H
          go_enter Try.func73, Try.ntmps73
          go_wp2_with (first | ((with_reducible refine gate_dst (N := 5) rfl ?_); (try (refine gate_guard (by rfl) ?_; dsimp only)); refine box_event ?hg (N := 5) ?hd (cs := #[.bool true, .int .i64 a2_1, .string a2_2]) (t := 23) ?hr ?_; (case hd => rfl); (case hg => rfl); (case hr => first | (go_simp; done) | (go_simp; rfl)); intro gb134 hg w10 hbox hb; have n0_ := Aside0.mk (below_step (by repeat (first | (with_reducible first | exact HB.out | apply below_alloc | apply pw_below_drewN | apply below_drew1) | exact HB.out)) hb); have n1_ := Aside0.mk (hbox); have n2_ := Aside0.mk ((by rw [hg]; exact (below_size (by repeat (first | (with_reducible first | exact HB.out | apply below_alloc | apply pw_below_drewN | apply below_drew1) | exact HB.out))) : w.heap.size ≤ gb134)); have n3_ := Aside0.mk ((by rw [hg]; exact (below_size (by repeat (first | (with_reducible first | exact HB.out | apply below_alloc | apply pw_below_drewN | apply below_drew1) | exact HB.out))) : w.heap.size ≤ gb134)); clear HB; have HB := n0_; have BK134 := n1_; have GW134 := n2_; have GE134 := n3_; clear n0_ n1_ n2_ n3_; clear hb hbox hg; have hcz11_0 : w10.cell? ⟨gb134, 0, none⟩ = some (.bool true) := (blk_cell BK134.out 0).trans rfl; have hcz11_1 : w10.cell? ⟨gb134, 1, none⟩ = some (.int .i64 a2_1) := (blk_cell BK134.out 1).trans rfl; have hcz11_2 : w10.cell? ⟨gb134, 2, none⟩ = some (.string a2_2) := (blk_cell BK134.out 2).trans rfl; have hfz11_0 := blk_frozen BK134.out 0; have hfz11_1 := blk_frozen BK134.out 1; have hfz11_2 := blk_frozen BK134.out 2))
          go_ret
          exact ⟨by first | rfl | (simp only [Go.Proofs.Ytkdlfejokahohaa.Strs.nilB]; rfl) | (simp [errW_none, errW_some] <;> rfl) | (simp [*, errW_none, errW_some] <;> rfl), by repeat (first | (with_reducible first | exact HB.out | apply below_alloc | apply pw_below_drewN | apply below_drew1 | refine below_set ?_ GE134.out) | exact HB.out)⟩
      · rw [if_neg c6] at H
        have c6b0 : decide (1 ≤ a0) = false := decide_eq_false c6
        clear c6
        obtain rfl := Option.some.inj H
        go_enter Try.func73, Try.ntmps73
        go_wp2_with (first | ((with_reducible refine gate_dst (N := 5) rfl ?_); (try (refine gate_guard (by rfl) ?_; dsimp only)); refine box_event ?hg (N := 5) ?hd (cs := #[.bool true, .int .i64 a2_1, .string a2_2]) (t := 23) ?hr ?_; (case hd => rfl); (case hg => rfl); (case hr => first | (go_simp; done) | (go_simp; rfl)); intro gb134 hg w12 hbox hb; have n0_ := Aside0.mk (below_step (by repeat (first | (with_reducible first | exact HB.out | apply below_alloc | apply pw_below_drewN | apply below_drew1) | exact HB.out)) hb); have n1_ := Aside0.mk (hbox); have n2_ := Aside0.mk ((by rw [hg]; exact (below_size (by repeat (first | (with_reducible first | exact HB.out | apply below_alloc | apply pw_below_drewN | apply below_drew1) | exact HB.out))) : w.heap.size ≤ gb134)); have n3_ := Aside0.mk ((by rw [hg]; exact (below_size (by repeat (first | (with_reducible first | exact HB.out | apply below_alloc | apply pw_below_drewN | apply below_drew1) | exact HB.out))) : w.heap.size ≤ gb134)); clear HB; have HB := n0_; have BK134 := n1_; have GW134 := n2_; have GE134 := n3_; clear n0_ n1_ n2_ n3_; clear hb hbox hg; have hcz13_0 : w12.cell? ⟨gb134, 0, none⟩ = some (.bool true) := (blk_cell BK134.out 0).trans rfl; have hcz13_1 : w12.cell? ⟨gb134, 1, none⟩ = some (.int .i64 a2_1) := (blk_cell BK134.out 1).trans rfl; have hcz13_2 : w12.cell? ⟨gb134, 2, none⟩ = some (.string a2_2) := (blk_cell BK134.out 2).trans rfl; have hfz13_0 := blk_frozen BK134.out 0; have hfz13_1 := blk_frozen BK134.out 1; have hfz13_2 := blk_frozen BK134.out 2))
        go_ret
        exact ⟨by first | rfl | (simp only [Go.Proofs.Ytkdlfejokahohaa.Strs.nilB]; rfl) | (simp [errW_none, errW_some] <;> rfl) | (simp [*, errW_none, errW_some] <;> rfl), by repeat (first | (with_reducible first | exact HB.out | apply below_alloc | apply pw_below_drewN | apply below_drew1 | refine below_set ?_ GE134.out) | exact HB.out)⟩
    · replace c5 := Bool.eq_false_iff.mpr c5
      subst c5
      have H1 : (some false) = some r := by rw [if_neg (show ¬ (false = true) by decide)] at H; exact H
      clear H
      have H := H1
      clear H1
      obtain rfl := Option.some.inj H
      go_enter Try.func73, Try.ntmps73
      go_wp2_with (first | ((with_reducible refine gate_dst (N := 5) rfl ?_); (try (refine gate_guard (by rfl) ?_; dsimp only)); refine box_event ?hg (N := 5) ?hd (cs := #[.bool true, .int .i64 a2_1, .string a2_2]) (t := 23) ?hr ?_; (case hd => rfl); (case hg => rfl); (case hr => first | (go_simp; done) | (go_simp; rfl)); intro gb134 hg w14 hbox hb; have n0_ := Aside0.mk (below_step (by repeat (first | (with_reducible first | exact HB.out | apply below_alloc | apply pw_below_drewN | apply below_drew1) | exact HB.out)) hb); have n1_ := Aside0.mk (hbox); have n2_ := Aside0.mk ((by rw [hg]; exact (below_size (by repeat (first | (with_reducible first | exact HB.out | apply below_alloc | apply pw_below_drewN | apply below_drew1) | exact HB.out))) : w.heap.size ≤ gb134)); have n3_ := Aside0.mk ((by rw [hg]; exact (below_size (by repeat (first | (with_reducible first | exact HB.out | apply below_alloc | apply pw_below_drewN | apply below_drew1) | exact HB.out))) : w.heap.size ≤ gb134)); clear HB; have HB := n0_; have BK134 := n1_; have GW134 := n2_; have GE134 := n3_; clear n0_ n1_ n2_ n3_; clear hb hbox hg; have hcz15_0 : w14.cell? ⟨gb134, 0, none⟩ = some (.bool true) := (blk_cell BK134.out 0).trans rfl; have hcz15_1 : w14.cell? ⟨gb134, 1, none⟩ = some (.int .i64 a2_1) := (blk_cell BK134.out 1).trans rfl; have hcz15_2 : w14.cell? ⟨gb134, 2, none⟩ = some (.string a2_2) := (blk_cell BK134.out 2).trans rfl; have hfz15_0 := blk_frozen BK134.out 0; have hfz15_1 := blk_frozen BK134.out 1; have hfz15_2 := blk_frozen BK134.out 2))
      go_ret
      exact ⟨by first | rfl | (simp only [Go.Proofs.Ytkdlfejokahohaa.Strs.nilB]; rfl) | (simp [errW_none, errW_some] <;> rfl) | (simp [*, errW_none, errW_some] <;> rfl), by repeat (first | (with_reducible first | exact HB.out | apply below_alloc | apply pw_below_drewN | apply below_drew1 | refine below_set ?_ GE134.out) | exact HB.out)⟩
  · replace c4 := Bool.eq_false_iff.mpr c4
    subst c4
    have H1 : (if a0 = 1 then (some (a2_2.toList == ([] : List UInt8))) else (if a0 = 2 then (if a2_2.toList = ([] : List UInt8) then (if a2_1 = 0 then (some true) else (some (a2_1 == 1))) else (some false)) else (if a0 = 3 then (if a2_1 = 0 then (some (decide ((a2_2.size : Int) ≤ 40))) else (some false)) else (some false)))) = some r := by rw [if_neg (show ¬ (false = true) by decide)] at H; exact H
    clear H
    have H := H1
    clear H1
    by_cases c16 : a0 = 1
    · rw [if_pos c16] at H
      have c16b0 : (a0 == 1) = true := beq_iff_eq.mpr c16
      have c16b1 : (a0 != 1) = false := bne_eq_false_iff_eq.mpr c16
      clear c16
      obtain rfl := Option.some.inj H
      go_enter Try.func73, Try.ntmps73
      go_wp2_with (first | ((with_reducible refine gate_dst (N := 5) rfl ?_); (try (refine gate_guard (by rfl) ?_; dsimp only)); refine box_event ?hg (N := 5) ?hd (cs := #[.bool false, .int .i64 a2_1, .string a2_2]) (t := 23) ?hr ?_; (case hd => rfl); (case hg => rfl); (case hr => first | (go_simp; done) | (go_simp; rfl)); intro gb134 hg w17 hbox hb; have n0_ := Aside0.mk (below_step (by repeat (first | (with_reducible first | exact HB.out | apply below_alloc | apply pw_below_drewN | apply below_drew1) | exact HB.out)) hb); have n1_ := Aside0.mk (hbox); have n2_ := Aside0.mk ((by rw [hg]; exact (below_size (by repeat (first | (with_reducible first | exact HB.out | apply below_alloc | apply pw_below_drewN | apply below_drew1) | exact HB.out))) : w.heap.size ≤ gb134)); have n3_ := Aside0.mk ((by rw [hg]; exact (below_size (by repeat (first | (with_reducible first | exact HB.out | apply below_alloc | apply pw_below_drewN | apply below_drew1) | exact HB.out))) : w.heap.size ≤ gb134)); clear HB; have HB := n0_; have BK134 := n1_; have GW134 := n2_; have GE134 := n3_; clear n0_ n1_ n2_ n3_; clear hb hbox hg; have hcz18_0 : w17.cell? ⟨gb134, 0, none⟩ = some (.bool false) := (blk_cell BK134.out 0).trans rfl; have hcz18_1 : w17.cell? ⟨gb134, 1, none⟩ = some (.int .i64 a2_1) := (blk_cell BK134.out 1).trans rfl; have hcz18_2 : w17.cell? ⟨gb134, 2, none⟩ = some (.string a2_2) := (blk_cell BK134.out 2).trans rfl; have hfz18_0 := blk_frozen BK134.out 0; have hfz18_1 := blk_frozen BK134.out 1; have hfz18_2 := blk_frozen BK134.out 2))
      go_ret
      exact ⟨by first | rfl | (simp only [Go.Proofs.Ytkdlfejokahohaa.Strs.nilB]; rfl) | (simp [errW_none, errW_some] <;> rfl) | (simp [*, errW_none, errW_some] <;> rfl), by repeat (first | (with_reducible first | exact HB.out | apply below_alloc | apply pw_below_drewN | apply below_drew1 | refine below_set ?_ GE134.out) | exact HB.out)⟩
    · rw [if_neg c16] at H
      have c16b0 : (a0 == 1) = false := beq_eq_false_iff_ne.mpr c16
      have c16b1 : (a0 != 1) = true := bne_iff_ne.mpr c16
      by_cases c19 : a0 = 2
      · rw [if_pos c19] at H
        have c19b0 : (a0 == 2) = true := beq_iff_eq.mpr c19
        have c19b1 : (a0 != 2) = false := bne_eq_false_iff_eq.mpr c19
        clear c19
        by_cases c20 : a2_2.toList = ([] : List UInt8)
        · rw [if_pos c20] at H
          have c20b0 : (a2_2.toList == ([] : List UInt8)) = true := beq_iff_eq.mpr c20
          have c20b0e := c20b0
          simp only [Go.Proofs.Ytkdlfejokahohaa.Strs.nilB] at c20b0e
          have c20b1 : (a2_2.toList != ([] : List UInt8)) = false := bne_eq_false_iff_eq.mpr c20
          clear c20
          by_cases c21 : a2_1 = 0
          · rw [if_pos c21] at H
            have c21b0 : (a2_1 == 0) = true := beq_iff_eq.mpr c21
            have c21b1 : (a2_1 != 0) = false := bne_eq_false_iff_eq.mpr c21
            clear c21
            obtain rfl := Option.some.inj H
            go_enter Try.func73, Try.ntmps73
            go_wp2_with (first | ((with_reducible refine gate_dst (N := 5) rfl ?_); (try (refine gate_guard (by rfl) ?_; dsimp only)); refine box_event ?hg (N := 5) ?hd (cs := #[.bool false, .int .i64 a2_1, .string a2_2]) (t := 23) ?hr ?_; (case hd => rfl); (case hg => rfl); (case hr => first | (go_simp; done) | (go_simp; rfl)); intro gb134 hg w22 hbox hb; have n0_ := Aside0.mk (below_step (by repeat (first | (with_reducible first | exact HB.out | apply below_alloc | apply pw_below_drewN | apply below_drew1) | exact HB.out)) hb); have n1_ := Aside0.mk (hbox); have n2_ := Aside0.mk ((by rw [hg]; exact (below_size (by repeat (first | (with_reducible first | exact HB.out | apply below_alloc | apply pw_below_drewN | apply below_drew1) | exact HB.out))) : w.heap.size ≤ gb134)); have n3_ := Aside0.mk ((by rw [hg]; exact (below_size (by repeat (first | (with_reducible first | exact HB.out | apply below_alloc | apply pw_below_drewN | apply below_drew1) | exact HB.out))) : w.heap.size ≤ gb134)); clear HB; have HB := n0_; have BK134 := n1_; have GW134 := n2_; have GE134 := n3_; clear n0_ n1_ n2_ n3_; clear hb hbox hg; have hcz23_0 : w22.cell? ⟨gb134, 0, none⟩ = some (.bool false) := (blk_cell BK134.out 0).trans rfl; have hcz23_1 : w22.cell? ⟨gb134, 1, none⟩ = some (.int .i64 a2_1) := (blk_cell BK134.out 1).trans rfl; have hcz23_2 : w22.cell? ⟨gb134, 2, none⟩ = some (.string a2_2) := (blk_cell BK134.out 2).trans rfl; have hfz23_0 := blk_frozen BK134.out 0; have hfz23_1 := blk_frozen BK134.out 1; have hfz23_2 := blk_frozen BK134.out 2))
            go_ret
            exact ⟨by first | rfl | (simp only [Go.Proofs.Ytkdlfejokahohaa.Strs.nilB]; rfl) | (simp [errW_none, errW_some] <;> rfl) | (simp [*, errW_none, errW_some] <;> rfl), by repeat (first | (with_reducible first | exact HB.out | apply below_alloc | apply pw_below_drewN | apply below_drew1 | refine below_set ?_ GE134.out) | exact HB.out)⟩
          · rw [if_neg c21] at H
            have c21b0 : (a2_1 == 0) = false := beq_eq_false_iff_ne.mpr c21
            have c21b1 : (a2_1 != 0) = true := bne_iff_ne.mpr c21
            obtain rfl := Option.some.inj H
            go_enter Try.func73, Try.ntmps73
            go_wp2_with (first | ((with_reducible refine gate_dst (N := 5) rfl ?_); (try (refine gate_guard (by rfl) ?_; dsimp only)); refine box_event ?hg (N := 5) ?hd (cs := #[.bool false, .int .i64 a2_1, .string a2_2]) (t := 23) ?hr ?_; (case hd => rfl); (case hg => rfl); (case hr => first | (go_simp; done) | (go_simp; rfl)); intro gb134 hg w24 hbox hb; have n0_ := Aside0.mk (below_step (by repeat (first | (with_reducible first | exact HB.out | apply below_alloc | apply pw_below_drewN | apply below_drew1) | exact HB.out)) hb); have n1_ := Aside0.mk (hbox); have n2_ := Aside0.mk ((by rw [hg]; exact (below_size (by repeat (first | (with_reducible first | exact HB.out | apply below_alloc | apply pw_below_drewN | apply below_drew1) | exact HB.out))) : w.heap.size ≤ gb134)); have n3_ := Aside0.mk ((by rw [hg]; exact (below_size (by repeat (first | (with_reducible first | exact HB.out | apply below_alloc | apply pw_below_drewN | apply below_drew1) | exact HB.out))) : w.heap.size ≤ gb134)); clear HB; have HB := n0_; have BK134 := n1_; have GW134 := n2_; have GE134 := n3_; clear n0_ n1_ n2_ n3_; clear hb hbox hg; have hcz25_0 : w24.cell? ⟨gb134, 0, none⟩ = some (.bool false) := (blk_cell BK134.out 0).trans rfl; have hcz25_1 : w24.cell? ⟨gb134, 1, none⟩ = some (.int .i64 a2_1) := (blk_cell BK134.out 1).trans rfl; have hcz25_2 : w24.cell? ⟨gb134, 2, none⟩ = some (.string a2_2) := (blk_cell BK134.out 2).trans rfl; have hfz25_0 := blk_frozen BK134.out 0; have hfz25_1 := blk_frozen BK134.out 1; have hfz25_2 := blk_frozen BK134.out 2))
            go_ret
            exact ⟨by first | rfl | (simp only [Go.Proofs.Ytkdlfejokahohaa.Strs.nilB]; rfl) | (simp [errW_none, errW_some] <;> rfl) | (simp [*, errW_none, errW_some] <;> rfl), by repeat (first | (with_reducible first | exact HB.out | apply below_alloc | apply pw_below_drewN | apply below_drew1 | refine below_set ?_ GE134.out) | exact HB.out)⟩
        · rw [if_neg c20] at H
          have c20b0 : (a2_2.toList == ([] : List UInt8)) = false := beq_eq_false_iff_ne.mpr c20
          have c20b0e := c20b0
          simp only [Go.Proofs.Ytkdlfejokahohaa.Strs.nilB] at c20b0e
          have c20b1 : (a2_2.toList != ([] : List UInt8)) = true := bne_iff_ne.mpr c20
          obtain rfl := Option.some.inj H
          go_enter Try.func73, Try.ntmps73
          go_wp2_with (first | ((with_reducible refine gate_dst (N := 5) rfl ?_); (try (refine gate_guard (by rfl) ?_; dsimp only)); refine box_event ?hg (N := 5) ?hd (cs := #[.bool false, .int .i64 a2_1, .string a2_2]) (t := 23) ?hr ?_; (case hd => rfl); (case hg => rfl); (case hr => first | (go_simp; done) | (go_simp; rfl)); intro gb134 hg w26 hbox hb; have n0_ := Aside0.mk (below_step (by repeat (first | (with_reducible first | exact HB.out | apply below_alloc | apply pw_below_drewN | apply below_drew1) | exact HB.out)) hb); have n1_ := Aside0.mk (hbox); have n2_ := Aside0.mk ((by rw [hg]; exact (below_size (by repeat (first | (with_reducible first | exact HB.out | apply below_alloc | apply pw_below_drewN | apply below_drew1) | exact HB.out))) : w.heap.size ≤ gb134)); have n3_ := Aside0.mk ((by rw [hg]; exact (below_size (by repeat (first | (with_reducible first | exact HB.out | apply below_alloc | apply pw_below_drewN | apply below_drew1) | exact HB.out))) : w.heap.size ≤ gb134)); clear HB; have HB := n0_; have BK134 := n1_; have GW134 := n2_; have GE134 := n3_; clear n0_ n1_ n2_ n3_; clear hb hbox hg; have hcz27_0 : w26.cell? ⟨gb134, 0, none⟩ = some (.bool false) := (blk_cell BK134.out 0).trans rfl; have hcz27_1 : w26.cell? ⟨gb134, 1, none⟩ = some (.int .i64 a2_1) := (blk_cell BK134.out 1).trans rfl; have hcz27_2 : w26.cell? ⟨gb134, 2, none⟩ = some (.string a2_2) := (blk_cell BK134.out 2).trans rfl; have hfz27_0 := blk_frozen BK134.out 0; have hfz27_1 := blk_frozen BK134.out 1; have hfz27_2 := blk_frozen BK134.out 2))
          go_ret
          exact ⟨by first | rfl | (simp only [Go.Proofs.Ytkdlfejokahohaa.Strs.nilB]; rfl) | (simp [errW_none, errW_some] <;> rfl) | (simp [*, errW_none, errW_some] <;> rfl), by repeat (first | (with_reducible first | exact HB.out | apply below_alloc | apply pw_below_drewN | apply below_drew1 | refine below_set ?_ GE134.out) | exact HB.out)⟩
      · rw [if_neg c19] at H
        have c19b0 : (a0 == 2) = false := beq_eq_false_iff_ne.mpr c19
        have c19b1 : (a0 != 2) = true := bne_iff_ne.mpr c19
        by_cases c28 : a0 = 3
        · rw [if_pos c28] at H
          have c28b0 : (a0 == 3) = true := beq_iff_eq.mpr c28
          have c28b1 : (a0 != 3) = false := bne_eq_false_iff_eq.mpr c28
          clear c28
          by_cases c29 : a2_1 = 0
          · rw [if_pos c29] at H
            have c29b0 : (a2_1 == 0) = true := beq_iff_eq.mpr c29
            have c29b1 : (a2_1 != 0) = false := bne_eq_false_iff_eq.mpr c29
            clear c29
            obtain rfl := Option.some.inj H
            go_enter Try.func73, Try.ntmps73
            go_wp2_with (first | ((with_reducible refine gate_dst (N := 5) rfl ?_); (try (refine gate_guard (by rfl) ?_; dsimp only)); refine box_event ?hg (N := 5) ?hd (cs := #[.bool false, .int .i64 a2_1, .string a2_2]) (t := 23) ?hr ?_; (case hd => rfl); (case hg => rfl); (case hr => first | (go_simp; done) | (go_simp; rfl)); intro gb134 hg w30 hbox hb; have n0_ := Aside0.mk (below_step (by repeat (first | (with_reducible first | exact HB.out | apply below_alloc | apply pw_below_drewN | apply below_drew1) | exact HB.out)) hb); have n1_ := Aside0.mk (hbox); have n2_ := Aside0.mk ((by rw [hg]; exact (below_size (by repeat (first | (with_reducible first | exact HB.out | apply below_alloc | apply pw_below_drewN | apply below_drew1) | exact HB.out))) : w.heap.size ≤ gb134)); have n3_ := Aside0.mk ((by rw [hg]; exact (below_size (by repeat (first | (with_reducible first | exact HB.out | apply below_alloc | apply pw_below_drewN | apply below_drew1) | exact HB.out))) : w.heap.size ≤ gb134)); clear HB; have HB := n0_; have BK134 := n1_; have GW134 := n2_; have GE134 := n3_; clear n0_ n1_ n2_ n3_; clear hb hbox hg; have hcz31_0 : w30.cell? ⟨gb134, 0, none⟩ = some (.bool false) := (blk_cell BK134.out 0).trans rfl; have hcz31_1 : w30.cell? ⟨gb134, 1, none⟩ = some (.int .i64 a2_1) := (blk_cell BK134.out 1).trans rfl; have hcz31_2 : w30.cell? ⟨gb134, 2, none⟩ = some (.string a2_2) := (blk_cell BK134.out 2).trans rfl; have hfz31_0 := blk_frozen BK134.out 0; have hfz31_1 := blk_frozen BK134.out 1; have hfz31_2 := blk_frozen BK134.out 2))
            go_ret
            exact ⟨by first | rfl | (simp only [Go.Proofs.Ytkdlfejokahohaa.Strs.nilB]; rfl) | (simp [errW_none, errW_some] <;> rfl) | (simp [*, errW_none, errW_some] <;> rfl), by repeat (first | (with_reducible first | exact HB.out | apply below_alloc | apply pw_below_drewN | apply below_drew1 | refine below_set ?_ GE134.out) | exact HB.out)⟩
          · rw [if_neg c29] at H
            have c29b0 : (a2_1 == 0) = false := beq_eq_false_iff_ne.mpr c29
            have c29b1 : (a2_1 != 0) = true := bne_iff_ne.mpr c29
            obtain rfl := Option.some.inj H
            go_enter Try.func73, Try.ntmps73
            go_wp2_with (first | ((with_reducible refine gate_dst (N := 5) rfl ?_); (try (refine gate_guard (by rfl) ?_; dsimp only)); refine box_event ?hg (N := 5) ?hd (cs := #[.bool false, .int .i64 a2_1, .string a2_2]) (t := 23) ?hr ?_; (case hd => rfl); (case hg => rfl); (case hr => first | (go_simp; done) | (go_simp; rfl)); intro gb134 hg w32 hbox hb; have n0_ := Aside0.mk (below_step (by repeat (first | (with_reducible first | exact HB.out | apply below_alloc | apply pw_below_drewN | apply below_drew1) | exact HB.out)) hb); have n1_ := Aside0.mk (hbox); have n2_ := Aside0.mk ((by rw [hg]; exact (below_size (by repeat (first | (with_reducible first | exact HB.out | apply below_alloc | apply pw_below_drewN | apply below_drew1) | exact HB.out))) : w.heap.size ≤ gb134)); have n3_ := Aside0.mk ((by rw [hg]; exact (below_size (by repeat (first | (with_reducible first | exact HB.out | apply below_alloc | apply pw_below_drewN | apply below_drew1) | exact HB.out))) : w.heap.size ≤ gb134)); clear HB; have HB := n0_; have BK134 := n1_; have GW134 := n2_; have GE134 := n3_; clear n0_ n1_ n2_ n3_; clear hb hbox hg; have hcz33_0 : w32.cell? ⟨gb134, 0, none⟩ = some (.bool false) := (blk_cell BK134.out 0).trans rfl; have hcz33_1 : w32.cell? ⟨gb134, 1, none⟩ = some (.int .i64 a2_1) := (blk_cell BK134.out 1).trans rfl; have hcz33_2 : w32.cell? ⟨gb134, 2, none⟩ = some (.string a2_2) := (blk_cell BK134.out 2).trans rfl; have hfz33_0 := blk_frozen BK134.out 0; have hfz33_1 := blk_frozen BK134.out 1; have hfz33_2 := blk_frozen BK134.out 2))
            go_ret
            exact ⟨by first | rfl | (simp only [Go.Proofs.Ytkdlfejokahohaa.Strs.nilB]; rfl) | (simp [errW_none, errW_some] <;> rfl) | (simp [*, errW_none, errW_some] <;> rfl), by repeat (first | (with_reducible first | exact HB.out | apply below_alloc | apply pw_below_drewN | apply below_drew1 | refine below_set ?_ GE134.out) | exact HB.out)⟩
        · rw [if_neg c28] at H
          have c28b0 : (a0 == 3) = false := beq_eq_false_iff_ne.mpr c28
          have c28b1 : (a0 != 3) = true := bne_iff_ne.mpr c28
          obtain rfl := Option.some.inj H
          go_enter Try.func73, Try.ntmps73
          go_wp2_with (first | ((with_reducible refine gate_dst (N := 5) rfl ?_); (try (refine gate_guard (by rfl) ?_; dsimp only)); refine box_event ?hg (N := 5) ?hd (cs := #[.bool false, .int .i64 a2_1, .string a2_2]) (t := 23) ?hr ?_; (case hd => rfl); (case hg => rfl); (case hr => first | (go_simp; done) | (go_simp; rfl)); intro gb134 hg w34 hbox hb; have n0_ := Aside0.mk (below_step (by repeat (first | (with_reducible first | exact HB.out | apply below_alloc | apply pw_below_drewN | apply below_drew1) | exact HB.out)) hb); have n1_ := Aside0.mk (hbox); have n2_ := Aside0.mk ((by rw [hg]; exact (below_size (by repeat (first | (with_reducible first | exact HB.out | apply below_alloc | apply pw_below_drewN | apply below_drew1) | exact HB.out))) : w.heap.size ≤ gb134)); have n3_ := Aside0.mk ((by rw [hg]; exact (below_size (by repeat (first | (with_reducible first | exact HB.out | apply below_alloc | apply pw_below_drewN | apply below_drew1) | exact HB.out))) : w.heap.size ≤ gb134)); clear HB; have HB := n0_; have BK134 := n1_; have GW134 := n2_; have GE134 := n3_; clear n0_ n1_ n2_ n3_; clear hb hbox hg; have hcz35_0 : w34.cell? ⟨gb134, 0, none⟩ = some (.bool false) := (blk_cell BK134.out 0).trans rfl; have hcz35_1 : w34.cell? ⟨gb134, 1, none⟩ = some (.int .i64 a2_1) := (blk_cell BK134.out 1).trans rfl; have hcz35_2 : w34.cell? ⟨gb134, 2, none⟩ = some (.string a2_2) := (blk_cell BK134.out 2).trans rfl; have hfz35_0 := blk_frozen BK134.out 0; have hfz35_1 := blk_frozen BK134.out 1; have hfz35_2 := blk_frozen BK134.out 2))
          go_ret
          exact ⟨by first | rfl | (simp only [Go.Proofs.Ytkdlfejokahohaa.Strs.nilB]; rfl) | (simp [errW_none, errW_some] <;> rfl) | (simp [*, errW_none, errW_some] <;> rfl), by repeat (first | (with_reducible first | exact HB.out | apply below_alloc | apply pw_below_drewN | apply below_drew1 | refine below_set ?_ GE134.out) | exact HB.out)⟩

/-! ### zone_May: function 16 -/
mutual
def zone_May.j0 : Nat → Int → Bool → Int → Int → Bool → Int → ByteArray → Bool → Int → ByteArray → Option (Bool)
  | 0, _, _, _, _, _, _, _, _, _, _ => none
  | k + 1, x0, x5, x136000, x136001, x136002, x136003, x136004, x136005, x136006, x136007 => if x5 = true then (some false) else (if x136000 < 0 then (zone_May.j1 k x0 true x136000 x136001 x136002 x136003 x136004 x136005 x136006 x136007) else (if x136000 > 4096 then (zone_May.j1 k x0 true x136000 x136001 x136002 x136003 x136004 x136005 x136006 x136007) else (if x136001 < 0 then (zone_May.j1 k x0 true x136000 x136001 x136002 x136003 x136004 x136005 x136006 x136007) else (zone_May.j1 k x0 (decide (x136001 > x136000)) x136000 x136001 x136002 x136003 x136004 x136005 x136006 x136007))))
def zone_May.j1 : Nat → Int → Bool → Int → Int → Bool → Int → ByteArray → Bool → Int → ByteArray → Option (Bool)
  | 0, _, _, _, _, _, _, _, _, _, _ => none
  | k + 1, x0, x12, x136000, x136001, x136002, x136003, x136004, x136005, x136006, x136007 => if x12 = true then (some false) else ((zone_some.f x136000 x136001 x136002 x136003 x136004 x136005 x136006 x136007).bind fun t136 => (if t136 = true then ((cell_May.f x0 false x136002 x136003 x136004).bind fun t137 => (if t137 = true then ((cell_May.f x0 false x136005 x136006 x136007).bind fun t138 => (if t138 = true then ((cell_Order.f k x136002 x136003 x136004 x136005 x136006 x136007).bind fun t139 => (some (decide (t139 ≤ 0)))) else (some false))) else (some false))) else (if (!x136002 && (x136003 == 0 && (x136004.toList == ([] : List UInt8)))) = true then (some (!x136005 && (x136006 == 0 && (x136007.toList == ([] : List UInt8))))) else (some false))))
end
def zone_May.f (k : Nat) (a0 : Int) (a1_0 : Int) (a1_1 : Int) (a1_2 : Bool) (a1_3 : Int) (a1_4 : ByteArray) (a1_5 : Bool) (a1_6 : Int) (a1_7 : ByteArray) : Option (Bool) := if a0 < 1 then (zone_May.j0 k a0 true a1_0 a1_1 a1_2 a1_3 a1_4 a1_5 a1_6 a1_7) else (zone_May.j0 k a0 (decide (a0 > 3)) a1_0 a1_1 a1_2 a1_3 a1_4 a1_5 a1_6 a1_7)
theorem zone_May.mono_l : ∀ k, (∀ y0 y1 y2 y3 y4 y5 y6 y7 y8 y9, LeO (zone_May.j0 k y0 y1 y2 y3 y4 y5 y6 y7 y8 y9) (zone_May.j0 (k + 1) y0 y1 y2 y3 y4 y5 y6 y7 y8 y9)) ∧ (∀ y0 y1 y2 y3 y4 y5 y6 y7 y8 y9, LeO (zone_May.j1 k y0 y1 y2 y3 y4 y5 y6 y7 y8 y9) (zone_May.j1 (k + 1) y0 y1 y2 y3 y4 y5 y6 y7 y8 y9))
  | 0 => ⟨fun _ _ _ _ _ _ _ _ _ _ r h => by simp [zone_May.j0] at h, fun _ _ _ _ _ _ _ _ _ _ r h => by simp [zone_May.j1] at h⟩
  | k + 1 => by
    obtain ⟨ih0, ih1⟩ := zone_May.mono_l k
    refine ⟨?_, ?_⟩
    · intro y0 y1 y2 y3 y4 y5 y6 y7 y8 y9
      unfold zone_May.j0
      repeat' first
      | (with_reducible exact ih0 _ _ _ _ _ _ _ _ _ _)
      | (with_reducible exact ih1 _ _ _ _ _ _ _ _ _ _)
      | (with_reducible exact cell_Order.mono _ _ _ _ _ _ _)
      | (with_reducible exact LeO.refl _)
      | (with_reducible exact LeO.none _)
      | (with_reducible refine LeO.ite ?_ ?_)
      | (with_reducible refine LeO.bind ?_ (fun _ => ?_))
      | exact ih0 _ _ _ _ _ _ _ _ _ _
      | exact ih1 _ _ _ _ _ _ _ _ _ _
      | exact cell_Order.mono _ _ _ _ _ _ _
      | exact LeO.none _
      | refine LeO.ite ?_ ?_
      | refine LeO.bind ?_ (fun _ => ?_)
    · intro y0 y1 y2 y3 y4 y5 y6 y7 y8 y9
      unfold zone_May.j1
      repeat' first
      | (with_reducible exact ih0 _ _ _ _ _ _ _ _ _ _)
      | (with_reducible exact ih1 _ _ _ _ _ _ _ _ _ _)
      | (with_reducible exact cell_Order.mono _ _ _ _ _ _ _)
      | (with_reducible exact LeO.refl _)
      | (with_reducible exact LeO.none _)
      | (with_reducible refine LeO.ite ?_ ?_)
      | (with_reducible refine LeO.bind ?_ (fun _ => ?_))
      | exact ih0 _ _ _ _ _ _ _ _ _ _
      | exact ih1 _ _ _ _ _ _ _ _ _ _
      | exact cell_Order.mono _ _ _ _ _ _ _
      | exact LeO.none _
      | refine LeO.ite ?_ ?_
      | refine LeO.bind ?_ (fun _ => ?_)
theorem zone_May.mono : ∀ a0 a1 a2 a3 a4 a5 a6 a7 a8 k, LeO (zone_May.f k a0 a1 a2 a3 a4 a5 a6 a7 a8) (zone_May.f (k + 1) a0 a1 a2 a3 a4 a5 a6 a7 a8) := by
  intro a0 a1 a2 a3 a4 a5 a6 a7 a8 k
  obtain ⟨ih0, ih1⟩ := zone_May.mono_l k
  unfold zone_May.f
  repeat' first
      | (with_reducible exact ih0 _ _ _ _ _ _ _ _ _ _)
      | (with_reducible exact ih1 _ _ _ _ _ _ _ _ _ _)
      | (with_reducible exact cell_Order.mono _ _ _ _ _ _ _)
      | (with_reducible exact LeO.refl _)
      | (with_reducible exact LeO.none _)
      | (with_reducible refine LeO.ite ?_ ?_)
      | (with_reducible refine LeO.bind ?_ (fun _ => ?_))
      | exact ih0 _ _ _ _ _ _ _ _ _ _
      | exact ih1 _ _ _ _ _ _ _ _ _ _
      | exact cell_Order.mono _ _ _ _ _ _ _
      | exact LeO.none _
      | refine LeO.ite ?_ ?_
      | refine LeO.bind ?_ (fun _ => ?_)
set_option maxHeartbeats 8000000 in
set_option maxRecDepth 100000 in
theorem zone_May.calls (k : Nat) (a0 : Int) (a1_0 : Int) (a1_1 : Int) (a1_2 : Bool) (a1_3 : Int) (a1_4 : ByteArray) (a1_5 : Bool) (a1_6 : Int) (a1_7 : ByteArray) (r : Bool) (w : World) (h : zone_May.f k a0 a1_0 a1_1 a1_2 a1_3 a1_4 a1_5 a1_6 a1_7 = some r) :
    Calls Try.prog 16 #[.int .i64 a0, .agg #[.int .i64 a1_0, .int .i64 a1_1, .bool a1_2, .int .i64 a1_3, .string a1_4, .bool a1_5, .int .i64 a1_6, .string a1_7]] w fun e w' => e = .returned (.bool r) ∧ Below w.heap.size w w' := by
  have hu25 := Try.underlying25
  have hu23 := Try.underlying23
  have HB := Aside0.mk (Below.refl w.heap.size w)
  have H : (if a0 < 1 then (zone_May.j0 k a0 true a1_0 a1_1 a1_2 a1_3 a1_4 a1_5 a1_6 a1_7) else (zone_May.j0 k a0 (decide (a0 > 3)) a1_0 a1_1 a1_2 a1_3 a1_4 a1_5 a1_6 a1_7)) = some r := h
  clear h
  have HC3 := Aside0.mk H
  clear H
  go_enter Try.func16, Try.ntmps16
  go_upto_region 1 with (first | ((with_reducible refine gate_dst (N := 3) rfl ?_); refine box_event ?hg (N := 3) ?hd (cs := #[.int .i64 a1_0, .int .i64 a1_1, .bool a1_2, .int .i64 a1_3, .string a1_4, .bool a1_5, .int .i64 a1_6, .string a1_7]) (t := 25) ?hr ?_; (case hd => rfl); (case hg => rfl); (case hr => first | (go_simp; done) | (go_simp; rfl)); intro gb135 hg w4 hbox hb; have n0_ := Aside0.mk (below_step (by repeat (first | (with_reducible first | exact HB.out | apply below_alloc | apply pw_below_drewN | apply below_drew1) | exact HB.out)) hb); have n1_ := Aside0.mk (hbox); have n2_ := Aside0.mk ((by rw [hg]; exact (below_size (by repeat (first | (with_reducible first | exact HB.out | apply below_alloc | apply pw_below_drewN | apply below_drew1) | exact HB.out))) : w.heap.size ≤ gb135)); have n3_ := Aside0.mk ((by rw [hg]; exact (below_size (by repeat (first | (with_reducible first | exact HB.out | apply below_alloc | apply pw_below_drewN | apply below_drew1) | exact HB.out))) : w.heap.size ≤ gb135)); clear HB; have HB := n0_; have BK135 := n1_; have GW135 := n2_; have GE135 := n3_; clear n0_ n1_ n2_ n3_; clear hb hbox hg))
  (try simp only [Act.put, List.setIfInBounds_toArray, List.set_cons_zero, List.set_cons_succ])
  go_cut [5] (fun v5 wc => ∃ (kq : Nat) (x5_2 : Bool), v5 = .bool x5_2 ∧ Aside0 (zone_May.j0 kq a0 x5_2 a1_0 a1_1 a1_2 a1_3 a1_4 a1_5 a1_6 a1_7 = some r) ∧ Aside0 (kq ≤ k) ∧ Aside0 (wc.heap[gb135]? = some (.cells #[.int .i64 a1_0, .int .i64 a1_1, .bool a1_2, .int .i64 a1_3, .string a1_4, .bool a1_5, .int .i64 a1_6, .string a1_7] 25 (0, 0))) ∧ Aside0 (Below w.heap.size w wc))
  case first =>
    have H := HC3.out
    clear HC3
    by_cases c5 : a0 < 1
    · rw [if_pos c5] at H
      have c5b0 : decide (a0 < 1) = true := decide_eq_true c5
      clear c5
      (first | rw [c5b0] | (simp only [i64_w, i32_w]; rw [c5b0]) | skip)
      have H' := Aside0.mk H
      clear H
      go_wp2
      go_meet
      case rel => exact ⟨_, (true), (by first | rfl | (simp; done) | (simp [*]; done)), H', ⟨by first | omega | exact Nat.le_refl _⟩, ⟨by (with_reducible repeat (first | refine blk_drewN ?_ _ | refine blk_drew ?_ | refine blk_alloc ?_ _)); exact BK135.out⟩, ⟨by repeat (first | (with_reducible first | exact HB.out | apply below_alloc | apply pw_below_drewN | apply below_drew1 | refine below_set ?_ GE135.out) | exact HB.out)⟩⟩
    · rw [if_neg c5] at H
      have c5b0 : decide (a0 < 1) = false := decide_eq_false c5
      clear c5
      (first | rw [c5b0] | (simp only [i64_w, i32_w]; rw [c5b0]) | skip)
      have H' := Aside0.mk H
      clear H
      go_wp2
      go_meet
      case rel => exact ⟨_, (decide (a0 > 3)), (by first | rfl | (simp; done) | (simp [*]; done)), H', ⟨by first | omega | exact Nat.le_refl _⟩, ⟨by (with_reducible repeat (first | refine blk_drewN ?_ _ | refine blk_drew ?_ | refine blk_alloc ?_ _)); exact BK135.out⟩, ⟨by repeat (first | (with_reducible first | exact HB.out | apply below_alloc | apply pw_below_drewN | apply below_drew1 | refine below_set ?_ GE135.out) | exact HB.out)⟩⟩
  case rest =>
    clear HC3
    try clear c1
    try clear p2
    try clear c5
    try clear c5b0
    obtain ⟨kq, x5_2, rfl, HA, HJ2, BK135, HB⟩ := hcut
    cases kq with
    | zero => exact absurd HA.out (by simp [zone_May.j0])
    | succ kj2 =>
      have H := HA.out
      clear HA
      simp only [zone_May.j0] at H
      by_cases c6 : x5_2 = true
      · subst c6
        have H1 : (some false) = some r := by rw [if_pos rfl] at H; exact H
        clear H
        have H := H1
        clear H1
        obtain rfl := Option.some.inj H
        go_wp2
        go_ret
        exact ⟨by first | rfl | (simp only [Go.Proofs.Ytkdlfejokahohaa.Strs.nilB]; rfl) | (simp [errW_none, errW_some] <;> rfl) | (simp [*, errW_none, errW_some] <;> rfl), by repeat (first | (with_reducible first | exact HB.out | apply below_alloc | apply pw_below_drewN | apply below_drew1 | refine below_set ?_ GE135.out) | exact HB.out)⟩
      · replace c6 := Bool.eq_false_iff.mpr c6
        subst c6
        have H1 : (if a1_0 < 0 then (zone_May.j1 kj2 a0 true a1_0 a1_1 a1_2 a1_3 a1_4 a1_5 a1_6 a1_7) else (if a1_0 > 4096 then (zone_May.j1 kj2 a0 true a1_0 a1_1 a1_2 a1_3 a1_4 a1_5 a1_6 a1_7) else (if a1_1 < 0 then (zone_May.j1 kj2 a0 true a1_0 a1_1 a1_2 a1_3 a1_4 a1_5 a1_6 a1_7) else (zone_May.j1 kj2 a0 (decide (a1_1 > a1_0)) a1_0 a1_1 a1_2 a1_3 a1_4 a1_5 a1_6 a1_7)))) = some r := by rw [if_neg (show ¬ (false = true) by decide)] at H; exact H
        clear H
        have H := H1
        clear H1
        have HC7 := Aside0.mk H
        clear H
        go_upto_region 3 with (fail)
        go_cut [12] (fun v12 wc => ∃ (kq : Nat) (x12_6 : Bool), v12 = .bool x12_6 ∧ Aside0 (zone_May.j1 kq a0 x12_6 a1_0 a1_1 a1_2 a1_3 a1_4 a1_5 a1_6 a1_7 = some r) ∧ Aside0 (kq ≤ kj2) ∧ Aside0 (wc.heap[gb135]? = some (.cells #[.int .i64 a1_0, .int .i64 a1_1, .bool a1_2, .int .i64 a1_3, .string a1_4, .bool a1_5, .int .i64 a1_6, .string a1_7] 25 (0, 0))) ∧ Aside0 (Below w.heap.size w wc))
        case first =>
          have H := HC7.out
          clear HC7
          by_cases c8 : a1_0 < 0
          · rw [if_pos c8] at H
            have c8b0 : decide (a1_0 < 0) = true := decide_eq_true c8
            clear c8
            (first | rw [c8b0] | (simp only [i64_w, i32_w]; rw [c8b0]) | skip)
            have H' := Aside0.mk H
            clear H
            have hcz9_0 : wc.cell? ⟨gb135, 0, none⟩ = some (.int .i64 a1_0) := (blk_cell BK135.out 0).trans rfl
            have hcz9_1 : wc.cell? ⟨gb135, 1, none⟩ = some (.int .i64 a1_1) := (blk_cell BK135.out 1).trans rfl
            have hcz9_2 : wc.cell? ⟨gb135, 2, none⟩ = some (.bool a1_2) := (blk_cell BK135.out 2).trans rfl
            have hcz9_3 : wc.cell? ⟨gb135, 3, none⟩ = some (.int .i64 a1_3) := (blk_cell BK135.out 3).trans rfl
            have hcz9_4 : wc.cell? ⟨gb135, 4, none⟩ = some (.string a1_4) := (blk_cell BK135.out 4).trans rfl
            have hcz9_5 : wc.cell? ⟨gb135, 5, none⟩ = some (.bool a1_5) := (blk_cell BK135.out 5).trans rfl
            have hcz9_6 : wc.cell? ⟨gb135, 6, none⟩ = some (.int .i64 a1_6) := (blk_cell BK135.out 6).trans rfl
            have hcz9_7 : wc.cell? ⟨gb135, 7, none⟩ = some (.string a1_7) := (blk_cell BK135.out 7).trans rfl
            have hfz9_0 := blk_frozen BK135.out 0
            have hfz9_1 := blk_frozen BK135.out 1
            have hfz9_2 := blk_frozen BK135.out 2
            have hfz9_3 := blk_frozen BK135.out 3
            have hfz9_4 := blk_frozen BK135.out 4
            have hfz9_5 := blk_frozen BK135.out 5
            have hfz9_6 := blk_frozen BK135.out 6
            have hfz9_7 := blk_frozen BK135.out 7
            go_wp2
            go_meet
            case rel => exact ⟨_, (true), (by first | rfl | (simp; done) | (simp [*]; done)), H', ⟨by have := HJ2.out; first | omega | exact Nat.le_refl _⟩, ⟨by (with_reducible repeat (first | refine blk_drewN ?_ _ | refine blk_drew ?_ | refine blk_alloc ?_ _)); exact BK135.out⟩, ⟨by repeat (first | (with_reducible first | exact HB.out | apply below_alloc | apply pw_below_drewN | apply below_drew1 | refine below_set ?_ GE135.out) | exact HB.out)⟩⟩
          · rw [if_neg c8] at H
            have c8b0 : decide (a1_0 < 0) = false := decide_eq_false c8
            clear c8
            (first | rw [c8b0] | (simp only [i64_w, i32_w]; rw [c8b0]) | skip)
            by_cases c10 : a1_0 > 4096
            · rw [if_pos c10] at H
              have c10b0 : decide (4096 < a1_0) = true := decide_eq_true c10
              clear c10
              have H' := Aside0.mk H
              clear H
              have hcz11_0 : wc.cell? ⟨gb135, 0, none⟩ = some (.int .i64 a1_0) := (blk_cell BK135.out 0).trans rfl
              have hcz11_1 : wc.cell? ⟨gb135, 1, none⟩ = some (.int .i64 a1_1) := (blk_cell BK135.out 1).trans rfl
              have hcz11_2 : wc.cell? ⟨gb135, 2, none⟩ = some (.bool a1_2) := (blk_cell BK135.out 2).trans rfl
              have hcz11_3 : wc.cell? ⟨gb135, 3, none⟩ = some (.int .i64 a1_3) := (blk_cell BK135.out 3).trans rfl
              have hcz11_4 : wc.cell? ⟨gb135, 4, none⟩ = some (.string a1_4) := (blk_cell BK135.out 4).trans rfl
              have hcz11_5 : wc.cell? ⟨gb135, 5, none⟩ = some (.bool a1_5) := (blk_cell BK135.out 5).trans rfl
              have hcz11_6 : wc.cell? ⟨gb135, 6, none⟩ = some (.int .i64 a1_6) := (blk_cell BK135.out 6).trans rfl
              have hcz11_7 : wc.cell? ⟨gb135, 7, none⟩ = some (.string a1_7) := (blk_cell BK135.out 7).trans rfl
              have hfz11_0 := blk_frozen BK135.out 0
              have hfz11_1 := blk_frozen BK135.out 1
              have hfz11_2 := blk_frozen BK135.out 2
              have hfz11_3 := blk_frozen BK135.out 3
              have hfz11_4 := blk_frozen BK135.out 4
              have hfz11_5 := blk_frozen BK135.out 5
              have hfz11_6 := blk_frozen BK135.out 6
              have hfz11_7 := blk_frozen BK135.out 7
              go_wp2
              go_meet
              case rel => exact ⟨_, (true), (by first | rfl | (simp; done) | (simp [*]; done)), H', ⟨by have := HJ2.out; first | omega | exact Nat.le_refl _⟩, ⟨by (with_reducible repeat (first | refine blk_drewN ?_ _ | refine blk_drew ?_ | refine blk_alloc ?_ _)); exact BK135.out⟩, ⟨by repeat (first | (with_reducible first | exact HB.out | apply below_alloc | apply pw_below_drewN | apply below_drew1 | refine below_set ?_ GE135.out) | exact HB.out)⟩⟩
            · rw [if_neg c10] at H
              have c10b0 : decide (4096 < a1_0) = false := decide_eq_false c10
              clear c10
              by_cases c12 : a1_1 < 0
              · rw [if_pos c12] at H
                have c12b0 : decide (a1_1 < 0) = true := decide_eq_true c12
                clear c12
                have H' := Aside0.mk H
                clear H
                have hcz13_0 : wc.cell? ⟨gb135, 0, none⟩ = some (.int .i64 a1_0) := (blk_cell BK135.out 0).trans rfl
                have hcz13_1 : wc.cell? ⟨gb135, 1, none⟩ = some (.int .i64 a1_1) := (blk_cell BK135.out 1).trans rfl
                have hcz13_2 : wc.cell? ⟨gb135, 2, none⟩ = some (.bool a1_2) := (blk_cell BK135.out 2).trans rfl
                have hcz13_3 : wc.cell? ⟨gb135, 3, none⟩ = some (.int .i64 a1_3) := (blk_cell BK135.out 3).trans rfl
                have hcz13_4 : wc.cell? ⟨gb135, 4, none⟩ = some (.string a1_4) := (blk_cell BK135.out 4).trans rfl
                have hcz13_5 : wc.cell? ⟨gb135, 5, none⟩ = some (.bool a1_5) := (blk_cell BK135.out 5).trans rfl
                have hcz13_6 : wc.cell? ⟨gb135, 6, none⟩ = some (.int .i64 a1_6) := (blk_cell BK135.out 6).trans rfl
                have hcz13_7 : wc.cell? ⟨gb135, 7, none⟩ = some (.string a1_7) := (blk_cell BK135.out 7).trans rfl
                have hfz13_0 := blk_frozen BK135.out 0
                have hfz13_1 := blk_frozen BK135.out 1
                have hfz13_2 := blk_frozen BK135.out 2
                have hfz13_3 := blk_frozen BK135.out 3
                have hfz13_4 := blk_frozen BK135.out 4
                have hfz13_5 := blk_frozen BK135.out 5
                have hfz13_6 := blk_frozen BK135.out 6
                have hfz13_7 := blk_frozen BK135.out 7
                go_wp2
                go_meet
                case rel => exact ⟨_, (true), (by first | rfl | (simp; done) | (simp [*]; done)), H', ⟨by have := HJ2.out; first | omega | exact Nat.le_refl _⟩, ⟨by (with_reducible repeat (first | refine blk_drewN ?_ _ | refine blk_drew ?_ | refine blk_alloc ?_ _)); exact BK135.out⟩, ⟨by repeat (first | (with_reducible first | exact HB.out | apply below_alloc | apply pw_below_drewN | apply below_drew1 | refine below_set ?_ GE135.out) | exact HB.out)⟩⟩
              · rw [if_neg c12] at H
                have c12b0 : decide (a1_1 < 0) = false := decide_eq_false c12
                clear c12
                have H' := Aside0.mk H
                clear H
                have hcz14_0 : wc.cell? ⟨gb135, 0, none⟩ = some (.int .i64 a1_0) := (blk_cell BK135.out 0).trans rfl
                have hcz14_1 : wc.cell? ⟨gb135, 1, none⟩ = some (.int .i64 a1_1) := (blk_cell BK135.out 1).trans rfl
                have hcz14_2 : wc.cell? ⟨gb135, 2, none⟩ = some (.bool a1_2) := (blk_cell BK135.out 2).trans rfl
                have hcz14_3 : wc.cell? ⟨gb135, 3, none⟩ = some (.int .i64 a1_3) := (blk_cell BK135.out 3).trans rfl
                have hcz14_4 : wc.cell? ⟨gb135, 4, none⟩ = some (.string a1_4) := (blk_cell BK135.out 4).trans rfl
                have hcz14_5 : wc.cell? ⟨gb135, 5, none⟩ = some (.bool a1_5) := (blk_cell BK135.out 5).trans rfl
                have hcz14_6 : wc.cell? ⟨gb135, 6, none⟩ = some (.int .i64 a1_6) := (blk_cell BK135.out 6).trans rfl
                have hcz14_7 : wc.cell? ⟨gb135, 7, none⟩ = some (.string a1_7) := (blk_cell BK135.out 7).trans rfl
                have hfz14_0 := blk_frozen BK135.out 0
                have hfz14_1 := blk_frozen BK135.out 1
                have hfz14_2 := blk_frozen BK135.out 2
                have hfz14_3 := blk_frozen BK135.out 3
                have hfz14_4 := blk_frozen BK135.out 4
                have hfz14_5 := blk_frozen BK135.out 5
                have hfz14_6 := blk_frozen BK135.out 6
                have hfz14_7 := blk_frozen BK135.out 7
                go_wp2
                go_meet
                case rel => exact ⟨_, (decide (a1_1 > a1_0)), (by first | rfl | (simp; done) | (simp [*]; done)), H', ⟨by have := HJ2.out; first | omega | exact Nat.le_refl _⟩, ⟨by (with_reducible repeat (first | refine blk_drewN ?_ _ | refine blk_drew ?_ | refine blk_alloc ?_ _)); exact BK135.out⟩, ⟨by repeat (first | (with_reducible first | exact HB.out | apply below_alloc | apply pw_below_drewN | apply below_drew1 | refine below_set ?_ GE135.out) | exact HB.out)⟩⟩
        case rest =>
          clear HC7
          try clear c1
          try clear p2
          try clear c5
          try clear c5b0
          try clear c6
          try clear c8
          try clear c8b0
          try clear c10
          try clear c10b0
          try clear c12
          try clear c12b0
          try clear hcz11_0
          try clear hcz11_1
          try clear hcz11_2
          try clear hcz11_3
          try clear hcz11_4
          try clear hcz11_5
          try clear hcz11_6
          try clear hcz11_7
          try clear hcz13_0
          try clear hcz13_1
          try clear hcz13_2
          try clear hcz13_3
          try clear hcz13_4
          try clear hcz13_5
          try clear hcz13_6
          try clear hcz13_7
          try clear hcz14_0
          try clear hcz14_1
          try clear hcz14_2
          try clear hcz14_3
          try clear hcz14_4
          try clear hcz14_5
          try clear hcz14_6
          try clear hcz14_7
          try clear hcz9_0
          try clear hcz9_1
          try clear hcz9_2
          try clear hcz9_3
          try clear hcz9_4
          try clear hcz9_5
          try clear hcz9_6
          try clear hcz9_7
          try clear hfz11_0
          try clear hfz11_1
          try clear hfz11_2
          try clear hfz11_3
          try clear hfz11_4
          try clear hfz11_5
          try clear hfz11_6
          try clear hfz11_7
          try clear hfz13_0
          try clear hfz13_1
          try clear hfz13_2
          try clear hfz13_3
          try clear hfz13_4
          try clear hfz13_5
          try clear hfz13_6
          try clear hfz13_7
          try clear hfz14_0
          try clear hfz14_1
          try clear hfz14_2
          try clear hfz14_3
          try clear hfz14_4
          try clear hfz14_5
          try clear hfz14_6
          try clear hfz14_7
          try clear hfz9_0
          try clear hfz9_1
          try clear hfz9_2
          try clear hfz9_3
          try clear hfz9_4
          try clear hfz9_5
          try clear hfz9_6
          try clear hfz9_7
          try clear p2
          obtain ⟨kq, x12_6, rfl, HA, HJ6, BK135, HB⟩ := hcut
          cases kq with
          | zero => exact absurd HA.out (by simp [zone_May.j1])
          | succ kj6 =>
            have H := HA.out
            clear HA
            simp only [zone_May.j1] at H
            by_cases c15 : x12_6 = true
            · subst c15
              have H1 : (some false) = some r := by rw [if_pos rfl] at H; exact H
              clear H
              have H := H1
              clear H1
              obtain rfl := Option.some.inj H
              go_wp2
              go_ret
              exact ⟨by first | rfl | (simp only [Go.Proofs.Ytkdlfejokahohaa.Strs.nilB]; rfl) | (simp [errW_none, errW_some] <;> rfl) | (simp [*, errW_none, errW_some] <;> rfl), by repeat (first | (with_reducible first | exact HB.out | apply below_alloc | apply pw_below_drewN | apply below_drew1 | refine below_set ?_ GE135.out) | exact HB.out)⟩
            · replace c15 := Bool.eq_false_iff.mpr c15
              subst c15
              have H1 : ((zone_some.f a1_0 a1_1 a1_2 a1_3 a1_4 a1_5 a1_6 a1_7).bind fun t136 => (if t136 = true then ((cell_May.f a0 false a1_2 a1_3 a1_4).bind fun t137 => (if t137 = true then ((cell_May.f a0 false a1_5 a1_6 a1_7).bind fun t138 => (if t138 = true then ((cell_Order.f kj6 a1_2 a1_3 a1_4 a1_5 a1_6 a1_7).bind fun t139 => (some (decide (t139 ≤ 0)))) else (some false))) else (some false))) else (if (!a1_2 && (a1_3 == 0 && (a1_4.toList == ([] : List UInt8)))) = true then (some (!a1_5 && (a1_6 == 0 && (a1_7.toList == ([] : List UInt8))))) else (some false)))) = some r := by rw [if_neg (show ¬ (false = true) by decide)] at H; exact H
              clear H
              have H := H1
              clear H1
              replace H := Option.bind_eq_some_iff.mp H
              obtain ⟨t136, A160, H⟩ := H
              replace H : (if t136 = true then ((cell_May.f a0 false a1_2 a1_3 a1_4).bind fun t137 => (if t137 = true then ((cell_May.f a0 false a1_5 a1_6 a1_7).bind fun t138 => (if t138 = true then ((cell_Order.f kj6 a1_2 a1_3 a1_4 a1_5 a1_6 a1_7).bind fun t139 => (some (decide (t139 ≤ 0)))) else (some false))) else (some false))) else (if (!a1_2 && (a1_3 == 0 && (a1_4.toList == ([] : List UInt8)))) = true then (some (!a1_5 && (a1_6 == 0 && (a1_7.toList == ([] : List UInt8))))) else (some false))) = some r := H
              have A16 := Aside0.mk A160
              clear A160
              by_cases c17 : t136 = true
              · subst c17
                have H1 : ((cell_May.f a0 false a1_2 a1_3 a1_4).bind fun t137 => (if t137 = true then ((cell_May.f a0 false a1_5 a1_6 a1_7).bind fun t138 => (if t138 = true then ((cell_Order.f kj6 a1_2 a1_3 a1_4 a1_5 a1_6 a1_7).bind fun t139 => (some (decide (t139 ≤ 0)))) else (some false))) else (some false))) = some r := by rw [if_pos rfl] at H; exact H
                clear H
                have H := H1
                clear H1
                replace H := Option.bind_eq_some_iff.mp H
                obtain ⟨t137, A180, H⟩ := H
                replace H : (if t137 = true then ((cell_May.f a0 false a1_5 a1_6 a1_7).bind fun t138 => (if t138 = true then ((cell_Order.f kj6 a1_2 a1_3 a1_4 a1_5 a1_6 a1_7).bind fun t139 => (some (decide (t139 ≤ 0)))) else (some false))) else (some false)) = some r := H
                have A18 := Aside0.mk A180
                clear A180
                by_cases c19 : t137 = true
                · subst c19
                  have H1 : ((cell_May.f a0 false a1_5 a1_6 a1_7).bind fun t138 => (if t138 = true then ((cell_Order.f kj6 a1_2 a1_3 a1_4 a1_5 a1_6 a1_7).bind fun t139 => (some (decide (t139 ≤ 0)))) else (some false))) = some r := by rw [if_pos rfl] at H; exact H
                  clear H
                  have H := H1
                  clear H1
                  replace H := Option.bind_eq_some_iff.mp H
                  obtain ⟨t138, A200, H⟩ := H
                  replace H : (if t138 = true then ((cell_Order.f kj6 a1_2 a1_3 a1_4 a1_5 a1_6 a1_7).bind fun t139 => (some (decide (t139 ≤ 0)))) else (some false)) = some r := H
                  have A20 := Aside0.mk A200
                  clear A200
                  by_cases c21 : t138 = true
                  · subst c21
                    have H1 : ((cell_Order.f kj6 a1_2 a1_3 a1_4 a1_5 a1_6 a1_7).bind fun t139 => (some (decide (t139 ≤ 0)))) = some r := by rw [if_pos rfl] at H; exact H
                    clear H
                    have H := H1
                    clear H1
                    replace H := Option.bind_eq_some_iff.mp H
                    obtain ⟨t139, A220, H⟩ := H
                    replace H : (some (decide (t139 ≤ 0))) = some r := H
                    have A22 := Aside0.mk A220
                    clear A220
                    obtain rfl := Option.some.inj H
                    have hcz23_0 : wc.cell? ⟨gb135, 0, none⟩ = some (.int .i64 a1_0) := (blk_cell BK135.out 0).trans rfl
                    have hcz23_1 : wc.cell? ⟨gb135, 1, none⟩ = some (.int .i64 a1_1) := (blk_cell BK135.out 1).trans rfl
                    have hcz23_2 : wc.cell? ⟨gb135, 2, none⟩ = some (.bool a1_2) := (blk_cell BK135.out 2).trans rfl
                    have hcz23_3 : wc.cell? ⟨gb135, 3, none⟩ = some (.int .i64 a1_3) := (blk_cell BK135.out 3).trans rfl
                    have hcz23_4 : wc.cell? ⟨gb135, 4, none⟩ = some (.string a1_4) := (blk_cell BK135.out 4).trans rfl
                    have hcz23_5 : wc.cell? ⟨gb135, 5, none⟩ = some (.bool a1_5) := (blk_cell BK135.out 5).trans rfl
                    have hcz23_6 : wc.cell? ⟨gb135, 6, none⟩ = some (.int .i64 a1_6) := (blk_cell BK135.out 6).trans rfl
                    have hcz23_7 : wc.cell? ⟨gb135, 7, none⟩ = some (.string a1_7) := (blk_cell BK135.out 7).trans rfl
                    have hfz23_0 := blk_frozen BK135.out 0
                    have hfz23_1 := blk_frozen BK135.out 1
                    have hfz23_2 := blk_frozen BK135.out 2
                    have hfz23_3 := blk_frozen BK135.out 3
                    have hfz23_4 := blk_frozen BK135.out 4
                    have hfz23_5 := blk_frozen BK135.out 5
                    have hfz23_6 := blk_frozen BK135.out 6
                    have hfz23_7 := blk_frozen BK135.out 7
                    go_wp2_with (first | ((with_reducible refine gate_callee (f := 72) rfl ?_); refine goesL_ (some 35) rfl rfl Try.func72 (by kernel_rfl) rfl #[.agg #[.int .i64 a1_0, .int .i64 a1_1, .bool a1_2, .int .i64 a1_3, .string a1_4, .bool a1_5, .int .i64 a1_6, .string a1_7]] rfl (by (try simp only [List.map_toArray, List.map_cons, List.map_nil]); first | done | rfl | (simp only [List.length_drop, List.length_take]; rfl)) ?_; (with_reducible refine (zone_some.calls a1_0 a1_1 a1_2 a1_3 a1_4 a1_5 a1_6 a1_7 true _ A16.out).mono ?_); rintro e w24 ⟨rfl, hb⟩; refine ⟨_, rfl, ?_⟩; have n0_ := Aside0.mk (blk_below (g := gb135) (o := .cells #[.int .i64 a1_0, .int .i64 a1_1, .bool a1_2, .int .i64 a1_3, .string a1_4, .bool a1_5, .int .i64 a1_6, .string a1_7] 25 (0, 0)) (by (with_reducible repeat (first | refine blk_drewN ?_ _ | refine blk_drew ?_ | refine blk_alloc ?_ _)); exact BK135.out) hb); have n1_ := Aside0.mk (below_step (by repeat (first | (with_reducible first | exact HB.out | apply below_alloc | apply pw_below_drewN | apply below_drew1 | refine below_set ?_ GE135.out) | exact HB.out)) hb); clear BK135; clear HB; have BK135 := n0_; have HB := n1_; clear n0_ n1_; (try clear hb); (try clear hb2); (try clear hk); (try clear hi); have hcz25_0 : w24.cell? ⟨gb135, 0, none⟩ = some (.int .i64 a1_0) := (blk_cell BK135.out 0).trans rfl; have hcz25_1 : w24.cell? ⟨gb135, 1, none⟩ = some (.int .i64 a1_1) := (blk_cell BK135.out 1).trans rfl; have hcz25_2 : w24.cell? ⟨gb135, 2, none⟩ = some (.bool a1_2) := (blk_cell BK135.out 2).trans rfl; have hcz25_3 : w24.cell? ⟨gb135, 3, none⟩ = some (.int .i64 a1_3) := (blk_cell BK135.out 3).trans rfl; have hcz25_4 : w24.cell? ⟨gb135, 4, none⟩ = some (.string a1_4) := (blk_cell BK135.out 4).trans rfl; have hcz25_5 : w24.cell? ⟨gb135, 5, none⟩ = some (.bool a1_5) := (blk_cell BK135.out 5).trans rfl; have hcz25_6 : w24.cell? ⟨gb135, 6, none⟩ = some (.int .i64 a1_6) := (blk_cell BK135.out 6).trans rfl; have hcz25_7 : w24.cell? ⟨gb135, 7, none⟩ = some (.string a1_7) := (blk_cell BK135.out 7).trans rfl; have hfz25_0 := blk_frozen BK135.out 0; have hfz25_1 := blk_frozen BK135.out 1; have hfz25_2 := blk_frozen BK135.out 2; have hfz25_3 := blk_frozen BK135.out 3; have hfz25_4 := blk_frozen BK135.out 4; have hfz25_5 := blk_frozen BK135.out 5; have hfz25_6 := blk_frozen BK135.out 6; have hfz25_7 := blk_frozen BK135.out 7) | ((with_reducible refine gate_callee (f := 73) rfl ?_); refine goesL_ (some 50) rfl rfl Try.func73 (by kernel_rfl) rfl #[.int .i64 a0, .bool false, .agg #[.bool a1_2, .int .i64 a1_3, .string a1_4]] rfl (by (try simp only [List.map_toArray, List.map_cons, List.map_nil]); first | done | rfl | (simp only [List.length_drop, List.length_take]; rfl)) ?_; (with_reducible refine (cell_May.calls a0 false a1_2 a1_3 a1_4 true _ A18.out).mono ?_); rintro e w26 ⟨rfl, hb⟩; refine ⟨_, rfl, ?_⟩; have n0_ := Aside0.mk (blk_below (g := gb135) (o := .cells #[.int .i64 a1_0, .int .i64 a1_1, .bool a1_2, .int .i64 a1_3, .string a1_4, .bool a1_5, .int .i64 a1_6, .string a1_7] 25 (0, 0)) (by (with_reducible repeat (first | refine blk_drewN ?_ _ | refine blk_drew ?_ | refine blk_alloc ?_ _)); exact BK135.out) hb); have n1_ := Aside0.mk (below_step (by repeat (first | (with_reducible first | exact HB.out | apply below_alloc | apply pw_below_drewN | apply below_drew1 | refine below_set ?_ GE135.out) | exact HB.out)) hb); clear BK135; clear HB; have BK135 := n0_; have HB := n1_; clear n0_ n1_; (try clear hb); (try clear hb2); (try clear hk); (try clear hi); have hcz27_0 : w26.cell? ⟨gb135, 0, none⟩ = some (.int .i64 a1_0) := (blk_cell BK135.out 0).trans rfl; have hcz27_1 : w26.cell? ⟨gb135, 1, none⟩ = some (.int .i64 a1_1) := (blk_cell BK135.out 1).trans rfl; have hcz27_2 : w26.cell? ⟨gb135, 2, none⟩ = some (.bool a1_2) := (blk_cell BK135.out 2).trans rfl; have hcz27_3 : w26.cell? ⟨gb135, 3, none⟩ = some (.int .i64 a1_3) := (blk_cell BK135.out 3).trans rfl; have hcz27_4 : w26.cell? ⟨gb135, 4, none⟩ = some (.string a1_4) := (blk_cell BK135.out 4).trans rfl; have hcz27_5 : w26.cell? ⟨gb135, 5, none⟩ = some (.bool a1_5) := (blk_cell BK135.out 5).trans rfl; have hcz27_6 : w26.cell? ⟨gb135, 6, none⟩ = some (.int .i64 a1_6) := (blk_cell BK135.out 6).trans rfl; have hcz27_7 : w26.cell? ⟨gb135, 7, none⟩ = some (.string a1_7) := (blk_cell BK135.out 7).trans rfl; have hfz27_0 := blk_frozen BK135.out 0; have hfz27_1 := blk_frozen BK135.out 1; have hfz27_2 := blk_frozen BK135.out 2; have hfz27_3 := blk_frozen BK135.out 3; have hfz27_4 := blk_frozen BK135.out 4; have hfz27_5 := blk_frozen BK135.out 5; have hfz27_6 := blk_frozen BK135.out 6; have hfz27_7 := blk_frozen BK135.out 7) | (go_at_call 73; (with_reducible refine (cell_May.calls a0 false a1_5 a1_6 a1_7 true _ A20.out).mono ?_); rintro e w28 ⟨rfl, hb⟩; have n0_ := Aside0.mk (blk_below (g := gb135) (o := .cells #[.int .i64 a1_0, .int .i64 a1_1, .bool a1_2, .int .i64 a1_3, .string a1_4, .bool a1_5, .int .i64 a1_6, .string a1_7] 25 (0, 0)) (by (with_reducible repeat (first | refine blk_drewN ?_ _ | refine blk_drew ?_ | refine blk_alloc ?_ _)); exact BK135.out) hb); have n1_ := Aside0.mk (below_step (by repeat (first | (with_reducible first | exact HB.out | apply below_alloc | apply pw_below_drewN | apply below_drew1 | refine below_set ?_ GE135.out) | exact HB.out)) hb); clear BK135; clear HB; have BK135 := n0_; have HB := n1_; clear n0_ n1_; (try clear hb); (try clear hb2); (try clear hk); (try clear hi); (try clear A20); have hcz29_0 : w28.cell? ⟨gb135, 0, none⟩ = some (.int .i64 a1_0) := (blk_cell BK135.out 0).trans rfl; have hcz29_1 : w28.cell? ⟨gb135, 1, none⟩ = some (.int .i64 a1_1) := (blk_cell BK135.out 1).trans rfl; have hcz29_2 : w28.cell? ⟨gb135, 2, none⟩ = some (.bool a1_2) := (blk_cell BK135.out 2).trans rfl; have hcz29_3 : w28.cell? ⟨gb135, 3, none⟩ = some (.int .i64 a1_3) := (blk_cell BK135.out 3).trans rfl; have hcz29_4 : w28.cell? ⟨gb135, 4, none⟩ = some (.string a1_4) := (blk_cell BK135.out 4).trans rfl; have hcz29_5 : w28.cell? ⟨gb135, 5, none⟩ = some (.bool a1_5) := (blk_cell BK135.out 5).trans rfl; have hcz29_6 : w28.cell? ⟨gb135, 6, none⟩ = some (.int .i64 a1_6) := (blk_cell BK135.out 6).trans rfl; have hcz29_7 : w28.cell? ⟨gb135, 7, none⟩ = some (.string a1_7) := (blk_cell BK135.out 7).trans rfl; have hfz29_0 := blk_frozen BK135.out 0; have hfz29_1 := blk_frozen BK135.out 1; have hfz29_2 := blk_frozen BK135.out 2; have hfz29_3 := blk_frozen BK135.out 3; have hfz29_4 := blk_frozen BK135.out 4; have hfz29_5 := blk_frozen BK135.out 5; have hfz29_6 := blk_frozen BK135.out 6; have hfz29_7 := blk_frozen BK135.out 7) | (go_at_call 74; (with_reducible refine (cell_Order.calls kj6 a1_2 a1_3 a1_4 a1_5 a1_6 a1_7 t139 _ A22.out).mono ?_); rintro e w30 ⟨rfl, hb⟩; have n0_ := Aside0.mk (blk_below (g := gb135) (o := .cells #[.int .i64 a1_0, .int .i64 a1_1, .bool a1_2, .int .i64 a1_3, .string a1_4, .bool a1_5, .int .i64 a1_6, .string a1_7] 25 (0, 0)) (by (with_reducible repeat (first | refine blk_drewN ?_ _ | refine blk_drew ?_ | refine blk_alloc ?_ _)); exact BK135.out) hb); have n1_ := Aside0.mk (below_step (by repeat (first | (with_reducible first | exact HB.out | apply below_alloc | apply pw_below_drewN | apply below_drew1 | refine below_set ?_ GE135.out) | exact HB.out)) hb); clear BK135; clear HB; have BK135 := n0_; have HB := n1_; clear n0_ n1_; (try clear hb); (try clear hb2); (try clear hk); (try clear hi)))
                    go_ret
                    exact ⟨by first | rfl | (simp only [Go.Proofs.Ytkdlfejokahohaa.Strs.nilB]; rfl) | (simp [errW_none, errW_some] <;> rfl) | (simp [*, errW_none, errW_some] <;> rfl), by repeat (first | (with_reducible first | exact HB.out | apply below_alloc | apply pw_below_drewN | apply below_drew1 | refine below_set ?_ GE135.out) | exact HB.out)⟩
                  · replace c21 := Bool.eq_false_iff.mpr c21
                    subst c21
                    have H1 : (some false) = some r := by rw [if_neg (show ¬ (false = true) by decide)] at H; exact H
                    clear H
                    have H := H1
                    clear H1
                    obtain rfl := Option.some.inj H
                    have hcz31_0 : wc.cell? ⟨gb135, 0, none⟩ = some (.int .i64 a1_0) := (blk_cell BK135.out 0).trans rfl
                    have hcz31_1 : wc.cell? ⟨gb135, 1, none⟩ = some (.int .i64 a1_1) := (blk_cell BK135.out 1).trans rfl
                    have hcz31_2 : wc.cell? ⟨gb135, 2, none⟩ = some (.bool a1_2) := (blk_cell BK135.out 2).trans rfl
                    have hcz31_3 : wc.cell? ⟨gb135, 3, none⟩ = some (.int .i64 a1_3) := (blk_cell BK135.out 3).trans rfl
                    have hcz31_4 : wc.cell? ⟨gb135, 4, none⟩ = some (.string a1_4) := (blk_cell BK135.out 4).trans rfl
                    have hcz31_5 : wc.cell? ⟨gb135, 5, none⟩ = some (.bool a1_5) := (blk_cell BK135.out 5).trans rfl
                    have hcz31_6 : wc.cell? ⟨gb135, 6, none⟩ = some (.int .i64 a1_6) := (blk_cell BK135.out 6).trans rfl
                    have hcz31_7 : wc.cell? ⟨gb135, 7, none⟩ = some (.string a1_7) := (blk_cell BK135.out 7).trans rfl
                    have hfz31_0 := blk_frozen BK135.out 0
                    have hfz31_1 := blk_frozen BK135.out 1
                    have hfz31_2 := blk_frozen BK135.out 2
                    have hfz31_3 := blk_frozen BK135.out 3
                    have hfz31_4 := blk_frozen BK135.out 4
                    have hfz31_5 := blk_frozen BK135.out 5
                    have hfz31_6 := blk_frozen BK135.out 6
                    have hfz31_7 := blk_frozen BK135.out 7
                    go_wp2_with (first | ((with_reducible refine gate_callee (f := 72) rfl ?_); refine goesL_ (some 35) rfl rfl Try.func72 (by kernel_rfl) rfl #[.agg #[.int .i64 a1_0, .int .i64 a1_1, .bool a1_2, .int .i64 a1_3, .string a1_4, .bool a1_5, .int .i64 a1_6, .string a1_7]] rfl (by (try simp only [List.map_toArray, List.map_cons, List.map_nil]); first | done | rfl | (simp only [List.length_drop, List.length_take]; rfl)) ?_; (with_reducible refine (zone_some.calls a1_0 a1_1 a1_2 a1_3 a1_4 a1_5 a1_6 a1_7 true _ A16.out).mono ?_); rintro e w32 ⟨rfl, hb⟩; refine ⟨_, rfl, ?_⟩; have n0_ := Aside0.mk (blk_below (g := gb135) (o := .cells #[.int .i64 a1_0, .int .i64 a1_1, .bool a1_2, .int .i64 a1_3, .string a1_4, .bool a1_5, .int .i64 a1_6, .string a1_7] 25 (0, 0)) (by (with_reducible repeat (first | refine blk_drewN ?_ _ | refine blk_drew ?_ | refine blk_alloc ?_ _)); exact BK135.out) hb); have n1_ := Aside0.mk (below_step (by repeat (first | (with_reducible first | exact HB.out | apply below_alloc | apply pw_below_drewN | apply below_drew1 | refine below_set ?_ GE135.out) | exact HB.out)) hb); clear BK135; clear HB; have BK135 := n0_; have HB := n1_; clear n0_ n1_; (try clear hb); (try clear hb2); (try clear hk); (try clear hi); have hcz33_0 : w32.cell? ⟨gb135, 0, none⟩ = some (.int .i64 a1_0) := (blk_cell BK135.out 0).trans rfl; have hcz33_1 : w32.cell? ⟨gb135, 1, none⟩ = some (.int .i64 a1_1) := (blk_cell BK135.out 1).trans rfl; have hcz33_2 : w32.cell? ⟨gb135, 2, none⟩ = some (.bool a1_2) := (blk_cell BK135.out 2).trans rfl; have hcz33_3 : w32.cell? ⟨gb135, 3, none⟩ = some (.int .i64 a1_3) := (blk_cell BK135.out 3).trans rfl; have hcz33_4 : w32.cell? ⟨gb135, 4, none⟩ = some (.string a1_4) := (blk_cell BK135.out 4).trans rfl; have hcz33_5 : w32.cell? ⟨gb135, 5, none⟩ = some (.bool a1_5) := (blk_cell BK135.out 5).trans rfl; have hcz33_6 : w32.cell? ⟨gb135, 6, none⟩ = some (.int .i64 a1_6) := (blk_cell BK135.out 6).trans rfl; have hcz33_7 : w32.cell? ⟨gb135, 7, none⟩ = some (.string a1_7) := (blk_cell BK135.out 7).trans rfl; have hfz33_0 := blk_frozen BK135.out 0; have hfz33_1 := blk_frozen BK135.out 1; have hfz33_2 := blk_frozen BK135.out 2; have hfz33_3 := blk_frozen BK135.out 3; have hfz33_4 := blk_frozen BK135.out 4; have hfz33_5 := blk_frozen BK135.out 5; have hfz33_6 := blk_frozen BK135.out 6; have hfz33_7 := blk_frozen BK135.out 7) | ((with_reducible refine gate_callee (f := 73) rfl ?_); refine goesL_ (some 50) rfl rfl Try.func73 (by kernel_rfl) rfl #[.int .i64 a0, .bool false, .agg #[.bool a1_2, .int .i64 a1_3, .string a1_4]] rfl (by (try simp only [List.map_toArray, List.map_cons, List.map_nil]); first | done | rfl | (simp only [List.length_drop, List.length_take]; rfl)) ?_; (with_reducible refine (cell_May.calls a0 false a1_2 a1_3 a1_4 true _ A18.out).mono ?_); rintro e w34 ⟨rfl, hb⟩; refine ⟨_, rfl, ?_⟩; have n0_ := Aside0.mk (blk_below (g := gb135) (o := .cells #[.int .i64 a1_0, .int .i64 a1_1, .bool a1_2, .int .i64 a1_3, .string a1_4, .bool a1_5, .int .i64 a1_6, .string a1_7] 25 (0, 0)) (by (with_reducible repeat (first | refine blk_drewN ?_ _ | refine blk_drew ?_ | refine blk_alloc ?_ _)); exact BK135.out) hb); have n1_ := Aside0.mk (below_step (by repeat (first | (with_reducible first | exact HB.out | apply below_alloc | apply pw_below_drewN | apply below_drew1 | refine below_set ?_ GE135.out) | exact HB.out)) hb); clear BK135; clear HB; have BK135 := n0_; have HB := n1_; clear n0_ n1_; (try clear hb); (try clear hb2); (try clear hk); (try clear hi); have hcz35_0 : w34.cell? ⟨gb135, 0, none⟩ = some (.int .i64 a1_0) := (blk_cell BK135.out 0).trans rfl; have hcz35_1 : w34.cell? ⟨gb135, 1, none⟩ = some (.int .i64 a1_1) := (blk_cell BK135.out 1).trans rfl; have hcz35_2 : w34.cell? ⟨gb135, 2, none⟩ = some (.bool a1_2) := (blk_cell BK135.out 2).trans rfl; have hcz35_3 : w34.cell? ⟨gb135, 3, none⟩ = some (.int .i64 a1_3) := (blk_cell BK135.out 3).trans rfl; have hcz35_4 : w34.cell? ⟨gb135, 4, none⟩ = some (.string a1_4) := (blk_cell BK135.out 4).trans rfl; have hcz35_5 : w34.cell? ⟨gb135, 5, none⟩ = some (.bool a1_5) := (blk_cell BK135.out 5).trans rfl; have hcz35_6 : w34.cell? ⟨gb135, 6, none⟩ = some (.int .i64 a1_6) := (blk_cell BK135.out 6).trans rfl; have hcz35_7 : w34.cell? ⟨gb135, 7, none⟩ = some (.string a1_7) := (blk_cell BK135.out 7).trans rfl; have hfz35_0 := blk_frozen BK135.out 0; have hfz35_1 := blk_frozen BK135.out 1; have hfz35_2 := blk_frozen BK135.out 2; have hfz35_3 := blk_frozen BK135.out 3; have hfz35_4 := blk_frozen BK135.out 4; have hfz35_5 := blk_frozen BK135.out 5; have hfz35_6 := blk_frozen BK135.out 6; have hfz35_7 := blk_frozen BK135.out 7) | (go_at_call 73; (with_reducible refine (cell_May.calls a0 false a1_5 a1_6 a1_7 false _ A20.out).mono ?_); rintro e w36 ⟨rfl, hb⟩; have n0_ := Aside0.mk (blk_below (g := gb135) (o := .cells #[.int .i64 a1_0, .int .i64 a1_1, .bool a1_2, .int .i64 a1_3, .string a1_4, .bool a1_5, .int .i64 a1_6, .string a1_7] 25 (0, 0)) (by (with_reducible repeat (first | refine blk_drewN ?_ _ | refine blk_drew ?_ | refine blk_alloc ?_ _)); exact BK135.out) hb); have n1_ := Aside0.mk (below_step (by repeat (first | (with_reducible first | exact HB.out | apply below_alloc | apply pw_below_drewN | apply below_drew1 | refine below_set ?_ GE135.out) | exact HB.out)) hb); clear BK135; clear HB; have BK135 := n0_; have HB := n1_; clear n0_ n1_; (try clear hb); (try clear hb2); (try clear hk); (try clear hi); (try clear A20)))
                    go_ret
                    exact ⟨by first | rfl | (simp only [Go.Proofs.Ytkdlfejokahohaa.Strs.nilB]; rfl) | (simp [errW_none, errW_some] <;> rfl) | (simp [*, errW_none, errW_some] <;> rfl), by repeat (first | (with_reducible first | exact HB.out | apply below_alloc | apply pw_below_drewN | apply below_drew1 | refine below_set ?_ GE135.out) | exact HB.out)⟩
                · replace c19 := Bool.eq_false_iff.mpr c19
                  subst c19
                  have H1 : (some false) = some r := by rw [if_neg (show ¬ (false = true) by decide)] at H; exact H
                  clear H
                  have H := H1
                  clear H1
                  obtain rfl := Option.some.inj H
                  have hcz37_0 : wc.cell? ⟨gb135, 0, none⟩ = some (.int .i64 a1_0) := (blk_cell BK135.out 0).trans rfl
                  have hcz37_1 : wc.cell? ⟨gb135, 1, none⟩ = some (.int .i64 a1_1) := (blk_cell BK135.out 1).trans rfl
                  have hcz37_2 : wc.cell? ⟨gb135, 2, none⟩ = some (.bool a1_2) := (blk_cell BK135.out 2).trans rfl
                  have hcz37_3 : wc.cell? ⟨gb135, 3, none⟩ = some (.int .i64 a1_3) := (blk_cell BK135.out 3).trans rfl
                  have hcz37_4 : wc.cell? ⟨gb135, 4, none⟩ = some (.string a1_4) := (blk_cell BK135.out 4).trans rfl
                  have hcz37_5 : wc.cell? ⟨gb135, 5, none⟩ = some (.bool a1_5) := (blk_cell BK135.out 5).trans rfl
                  have hcz37_6 : wc.cell? ⟨gb135, 6, none⟩ = some (.int .i64 a1_6) := (blk_cell BK135.out 6).trans rfl
                  have hcz37_7 : wc.cell? ⟨gb135, 7, none⟩ = some (.string a1_7) := (blk_cell BK135.out 7).trans rfl
                  have hfz37_0 := blk_frozen BK135.out 0
                  have hfz37_1 := blk_frozen BK135.out 1
                  have hfz37_2 := blk_frozen BK135.out 2
                  have hfz37_3 := blk_frozen BK135.out 3
                  have hfz37_4 := blk_frozen BK135.out 4
                  have hfz37_5 := blk_frozen BK135.out 5
                  have hfz37_6 := blk_frozen BK135.out 6
                  have hfz37_7 := blk_frozen BK135.out 7
                  go_wp2_with (first | ((with_reducible refine gate_callee (f := 72) rfl ?_); refine goesL_ (some 35) rfl rfl Try.func72 (by kernel_rfl) rfl #[.agg #[.int .i64 a1_0, .int .i64 a1_1, .bool a1_2, .int .i64 a1_3, .string a1_4, .bool a1_5, .int .i64 a1_6, .string a1_7]] rfl (by (try simp only [List.map_toArray, List.map_cons, List.map_nil]); first | done | rfl | (simp only [List.length_drop, List.length_take]; rfl)) ?_; (with_reducible refine (zone_some.calls a1_0 a1_1 a1_2 a1_3 a1_4 a1_5 a1_6 a1_7 true _ A16.out).mono ?_); rintro e w38 ⟨rfl, hb⟩; refine ⟨_, rfl, ?_⟩; have n0_ := Aside0.mk (blk_below (g := gb135) (o := .cells #[.int .i64 a1_0, .int .i64 a1_1, .bool a1_2, .int .i64 a1_3, .string a1_4, .bool a1_5, .int .i64 a1_6, .string a1_7] 25 (0, 0)) (by (with_reducible repeat (first | refine blk_drewN ?_ _ | refine blk_drew ?_ | refine blk_alloc ?_ _)); exact BK135.out) hb); have n1_ := Aside0.mk (below_step (by repeat (first | (with_reducible first | exact HB.out | apply below_alloc | apply pw_below_drewN | apply below_drew1 | refine below_set ?_ GE135.out) | exact HB.out)) hb); clear BK135; clear HB; have BK135 := n0_; have HB := n1_; clear n0_ n1_; (try clear hb); (try clear hb2); (try clear hk); (try clear hi); have hcz39_0 : w38.cell? ⟨gb135, 0, none⟩ = some (.int .i64 a1_0) := (blk_cell BK135.out 0).trans rfl; have hcz39_1 : w38.cell? ⟨gb135, 1, none⟩ = some (.int .i64 a1_1) := (blk_cell BK135.out 1).trans rfl; have hcz39_2 : w38.cell? ⟨gb135, 2, none⟩ = some (.bool a1_2) := (blk_cell BK135.out 2).trans rfl; have hcz39_3 : w38.cell? ⟨gb135, 3, none⟩ = some (.int .i64 a1_3) := (blk_cell BK135.out 3).trans rfl; have hcz39_4 : w38.cell? ⟨gb135, 4, none⟩ = some (.string a1_4) := (blk_cell BK135.out 4).trans rfl; have hcz39_5 : w38.cell? ⟨gb135, 5, none⟩ = some (.bool a1_5) := (blk_cell BK135.out 5).trans rfl; have hcz39_6 : w38.cell? ⟨gb135, 6, none⟩ = some (.int .i64 a1_6) := (blk_cell BK135.out 6).trans rfl; have hcz39_7 : w38.cell? ⟨gb135, 7, none⟩ = some (.string a1_7) := (blk_cell BK135.out 7).trans rfl; have hfz39_0 := blk_frozen BK135.out 0; have hfz39_1 := blk_frozen BK135.out 1; have hfz39_2 := blk_frozen BK135.out 2; have hfz39_3 := blk_frozen BK135.out 3; have hfz39_4 := blk_frozen BK135.out 4; have hfz39_5 := blk_frozen BK135.out 5; have hfz39_6 := blk_frozen BK135.out 6; have hfz39_7 := blk_frozen BK135.out 7) | ((with_reducible refine gate_callee (f := 73) rfl ?_); refine goesL_ (some 50) rfl rfl Try.func73 (by kernel_rfl) rfl #[.int .i64 a0, .bool false, .agg #[.bool a1_2, .int .i64 a1_3, .string a1_4]] rfl (by (try simp only [List.map_toArray, List.map_cons, List.map_nil]); first | done | rfl | (simp only [List.length_drop, List.length_take]; rfl)) ?_; (with_reducible refine (cell_May.calls a0 false a1_2 a1_3 a1_4 false _ A18.out).mono ?_); rintro e w40 ⟨rfl, hb⟩; refine ⟨_, rfl, ?_⟩; have n0_ := Aside0.mk (blk_below (g := gb135) (o := .cells #[.int .i64 a1_0, .int .i64 a1_1, .bool a1_2, .int .i64 a1_3, .string a1_4, .bool a1_5, .int .i64 a1_6, .string a1_7] 25 (0, 0)) (by (with_reducible repeat (first | refine blk_drewN ?_ _ | refine blk_drew ?_ | refine blk_alloc ?_ _)); exact BK135.out) hb); have n1_ := Aside0.mk (below_step (by repeat (first | (with_reducible first | exact HB.out | apply below_alloc | apply pw_below_drewN | apply below_drew1 | refine below_set ?_ GE135.out) | exact HB.out)) hb); clear BK135; clear HB; have BK135 := n0_; have HB := n1_; clear n0_ n1_; (try clear hb); (try clear hb2); (try clear hk); (try clear hi)))
                  go_ret
                  exact ⟨by first | rfl | (simp only [Go.Proofs.Ytkdlfejokahohaa.Strs.nilB]; rfl) | (simp [errW_none, errW_some] <;> rfl) | (simp [*, errW_none, errW_some] <;> rfl), by repeat (first | (with_reducible first | exact HB.out | apply below_alloc | apply pw_below_drewN | apply below_drew1 | refine below_set ?_ GE135.out) | exact HB.out)⟩
              · replace c17 := Bool.eq_false_iff.mpr c17
                subst c17
                have H1 : (if (!a1_2 && (a1_3 == 0 && (a1_4.toList == ([] : List UInt8)))) = true then (some (!a1_5 && (a1_6 == 0 && (a1_7.toList == ([] : List UInt8))))) else (some false)) = some r := by rw [if_neg (show ¬ (false = true) by decide)] at H; exact H
                clear H
                have H := H1
                clear H1
                by_cases c41 : (!a1_2 && (a1_3 == 0 && (a1_4.toList == ([] : List UInt8)))) = true
                · rw [if_pos c41] at H
                  have c41b0 : (!a1_2 && (a1_3 == 0 && (a1_4.toList == ([] : List UInt8)))) = true := c41
                  have c41b0e := c41b0
                  simp only [Go.Proofs.Ytkdlfejokahohaa.Strs.nilB] at c41b0e
                  clear c41
                  obtain rfl := Option.some.inj H
                  have hcz42_0 : wc.cell? ⟨gb135, 0, none⟩ = some (.int .i64 a1_0) := (blk_cell BK135.out 0).trans rfl
                  have hcz42_1 : wc.cell? ⟨gb135, 1, none⟩ = some (.int .i64 a1_1) := (blk_cell BK135.out 1).trans rfl
                  have hcz42_2 : wc.cell? ⟨gb135, 2, none⟩ = some (.bool a1_2) := (blk_cell BK135.out 2).trans rfl
                  have hcz42_3 : wc.cell? ⟨gb135, 3, none⟩ = some (.int .i64 a1_3) := (blk_cell BK135.out 3).trans rfl
                  have hcz42_4 : wc.cell? ⟨gb135, 4, none⟩ = some (.string a1_4) := (blk_cell BK135.out 4).trans rfl
                  have hcz42_5 : wc.cell? ⟨gb135, 5, none⟩ = some (.bool a1_5) := (blk_cell BK135.out 5).trans rfl
                  have hcz42_6 : wc.cell? ⟨gb135, 6, none⟩ = some (.int .i64 a1_6) := (blk_cell BK135.out 6).trans rfl
                  have hcz42_7 : wc.cell? ⟨gb135, 7, none⟩ = some (.string a1_7) := (blk_cell BK135.out 7).trans rfl
                  have hfz42_0 := blk_frozen BK135.out 0
                  have hfz42_1 := blk_frozen BK135.out 1
                  have hfz42_2 := blk_frozen BK135.out 2
                  have hfz42_3 := blk_frozen BK135.out 3
                  have hfz42_4 := blk_frozen BK135.out 4
                  have hfz42_5 := blk_frozen BK135.out 5
                  have hfz42_6 := blk_frozen BK135.out 6
                  have hfz42_7 := blk_frozen BK135.out 7
                  go_wp2_with (first | ((with_reducible refine gate_callee (f := 72) rfl ?_); refine goesL_ (some 35) rfl rfl Try.func72 (by kernel_rfl) rfl #[.agg #[.int .i64 a1_0, .int .i64 a1_1, .bool a1_2, .int .i64 a1_3, .string a1_4, .bool a1_5, .int .i64 a1_6, .string a1_7]] rfl (by (try simp only [List.map_toArray, List.map_cons, List.map_nil]); first | done | rfl | (simp only [List.length_drop, List.length_take]; rfl)) ?_; (with_reducible refine (zone_some.calls a1_0 a1_1 a1_2 a1_3 a1_4 a1_5 a1_6 a1_7 false _ A16.out).mono ?_); rintro e w43 ⟨rfl, hb⟩; refine ⟨_, rfl, ?_⟩; have n0_ := Aside0.mk (blk_below (g := gb135) (o := .cells #[.int .i64 a1_0, .int .i64 a1_1, .bool a1_2, .int .i64 a1_3, .string a1_4, .bool a1_5, .int .i64 a1_6, .string a1_7] 25 (0, 0)) (by (with_reducible repeat (first | refine blk_drewN ?_ _ | refine blk_drew ?_ | refine blk_alloc ?_ _)); exact BK135.out) hb); have n1_ := Aside0.mk (below_step (by repeat (first | (with_reducible first | exact HB.out | apply below_alloc | apply pw_below_drewN | apply below_drew1 | refine below_set ?_ GE135.out) | exact HB.out)) hb); clear BK135; clear HB; have BK135 := n0_; have HB := n1_; clear n0_ n1_; (try clear hb); (try clear hb2); (try clear hk); (try clear hi); have hcz44_0 : w43.cell? ⟨gb135, 0, none⟩ = some (.int .i64 a1_0) := (blk_cell BK135.out 0).trans rfl; have hcz44_1 : w43.cell? ⟨gb135, 1, none⟩ = some (.int .i64 a1_1) := (blk_cell BK135.out 1).trans rfl; have hcz44_2 : w43.cell? ⟨gb135, 2, none⟩ = some (.bool a1_2) := (blk_cell BK135.out 2).trans rfl; have hcz44_3 : w43.cell? ⟨gb135, 3, none⟩ = some (.int .i64 a1_3) := (blk_cell BK135.out 3).trans rfl; have hcz44_4 : w43.cell? ⟨gb135, 4, none⟩ = some (.string a1_4) := (blk_cell BK135.out 4).trans rfl; have hcz44_5 : w43.cell? ⟨gb135, 5, none⟩ = some (.bool a1_5) := (blk_cell BK135.out 5).trans rfl; have hcz44_6 : w43.cell? ⟨gb135, 6, none⟩ = some (.int .i64 a1_6) := (blk_cell BK135.out 6).trans rfl; have hcz44_7 : w43.cell? ⟨gb135, 7, none⟩ = some (.string a1_7) := (blk_cell BK135.out 7).trans rfl; have hfz44_0 := blk_frozen BK135.out 0; have hfz44_1 := blk_frozen BK135.out 1; have hfz44_2 := blk_frozen BK135.out 2; have hfz44_3 := blk_frozen BK135.out 3; have hfz44_4 := blk_frozen BK135.out 4; have hfz44_5 := blk_frozen BK135.out 5; have hfz44_6 := blk_frozen BK135.out 6; have hfz44_7 := blk_frozen BK135.out 7))
                  go_ret
                  exact ⟨by first | rfl | (simp only [Go.Proofs.Ytkdlfejokahohaa.Strs.nilB]; rfl) | (simp [errW_none, errW_some] <;> rfl) | (simp [*, errW_none, errW_some] <;> rfl), by repeat (first | (with_reducible first | exact HB.out | apply below_alloc | apply pw_below_drewN | apply below_drew1 | refine below_set ?_ GE135.out) | exact HB.out)⟩
                · rw [if_neg c41] at H
                  have c41b0 : (!a1_2 && (a1_3 == 0 && (a1_4.toList == ([] : List UInt8)))) = false := by simpa using c41
                  have c41b0e := c41b0
                  simp only [Go.Proofs.Ytkdlfejokahohaa.Strs.nilB] at c41b0e
                  clear c41
                  obtain rfl := Option.some.inj H
                  have hcz45_0 : wc.cell? ⟨gb135, 0, none⟩ = some (.int .i64 a1_0) := (blk_cell BK135.out 0).trans rfl
                  have hcz45_1 : wc.cell? ⟨gb135, 1, none⟩ = some (.int .i64 a1_1) := (blk_cell BK135.out 1).trans rfl
                  have hcz45_2 : wc.cell? ⟨gb135, 2, none⟩ = some (.bool a1_2) := (blk_cell BK135.out 2).trans rfl
                  have hcz45_3 : wc.cell? ⟨gb135, 3, none⟩ = some (.int .i64 a1_3) := (blk_cell BK135.out 3).trans rfl
                  have hcz45_4 : wc.cell? ⟨gb135, 4, none⟩ = some (.string a1_4) := (blk_cell BK135.out 4).trans rfl
                  have hcz45_5 : wc.cell? ⟨gb135, 5, none⟩ = some (.bool a1_5) := (blk_cell BK135.out 5).trans rfl
                  have hcz45_6 : wc.cell? ⟨gb135, 6, none⟩ = some (.int .i64 a1_6) := (blk_cell BK135.out 6).trans rfl
                  have hcz45_7 : wc.cell? ⟨gb135, 7, none⟩ = some (.string a1_7) := (blk_cell BK135.out 7).trans rfl
                  have hfz45_0 := blk_frozen BK135.out 0
                  have hfz45_1 := blk_frozen BK135.out 1
                  have hfz45_2 := blk_frozen BK135.out 2
                  have hfz45_3 := blk_frozen BK135.out 3
                  have hfz45_4 := blk_frozen BK135.out 4
                  have hfz45_5 := blk_frozen BK135.out 5
                  have hfz45_6 := blk_frozen BK135.out 6
                  have hfz45_7 := blk_frozen BK135.out 7
                  go_wp2_with (first | ((with_reducible refine gate_callee (f := 72) rfl ?_); refine goesL_ (some 35) rfl rfl Try.func72 (by kernel_rfl) rfl #[.agg #[.int .i64 a1_0, .int .i64 a1_1, .bool a1_2, .int .i64 a1_3, .string a1_4, .bool a1_5, .int .i64 a1_6, .string a1_7]] rfl (by (try simp only [List.map_toArray, List.map_cons, List.map_nil]); first | done | rfl | (simp only [List.length_drop, List.length_take]; rfl)) ?_; (with_reducible refine (zone_some.calls a1_0 a1_1 a1_2 a1_3 a1_4 a1_5 a1_6 a1_7 false _ A16.out).mono ?_); rintro e w46 ⟨rfl, hb⟩; refine ⟨_, rfl, ?_⟩; have n0_ := Aside0.mk (blk_below (g := gb135) (o := .cells #[.int .i64 a1_0, .int .i64 a1_1, .bool a1_2, .int .i64 a1_3, .string a1_4, .bool a1_5, .int .i64 a1_6, .string a1_7] 25 (0, 0)) (by (with_reducible repeat (first | refine blk_drewN ?_ _ | refine blk_drew ?_ | refine blk_alloc ?_ _)); exact BK135.out) hb); have n1_ := Aside0.mk (below_step (by repeat (first | (with_reducible first | exact HB.out | apply below_alloc | apply pw_below_drewN | apply below_drew1 | refine below_set ?_ GE135.out) | exact HB.out)) hb); clear BK135; clear HB; have BK135 := n0_; have HB := n1_; clear n0_ n1_; (try clear hb); (try clear hb2); (try clear hk); (try clear hi); have hcz47_0 : w46.cell? ⟨gb135, 0, none⟩ = some (.int .i64 a1_0) := (blk_cell BK135.out 0).trans rfl; have hcz47_1 : w46.cell? ⟨gb135, 1, none⟩ = some (.int .i64 a1_1) := (blk_cell BK135.out 1).trans rfl; have hcz47_2 : w46.cell? ⟨gb135, 2, none⟩ = some (.bool a1_2) := (blk_cell BK135.out 2).trans rfl; have hcz47_3 : w46.cell? ⟨gb135, 3, none⟩ = some (.int .i64 a1_3) := (blk_cell BK135.out 3).trans rfl; have hcz47_4 : w46.cell? ⟨gb135, 4, none⟩ = some (.string a1_4) := (blk_cell BK135.out 4).trans rfl; have hcz47_5 : w46.cell? ⟨gb135, 5, none⟩ = some (.bool a1_5) := (blk_cell BK135.out 5).trans rfl; have hcz47_6 : w46.cell? ⟨gb135, 6, none⟩ = some (.int .i64 a1_6) := (blk_cell BK135.out 6).trans rfl; have hcz47_7 : w46.cell? ⟨gb135, 7, none⟩ = some (.string a1_7) := (blk_cell BK135.out 7).trans rfl; have hfz47_0 := blk_frozen BK135.out 0; have hfz47_1 := blk_frozen BK135.out 1; have hfz47_2 := blk_frozen BK135.out 2; have hfz47_3 := blk_frozen BK135.out 3; have hfz47_4 := blk_frozen BK135.out 4; have hfz47_5 := blk_frozen BK135.out 5; have hfz47_6 := blk_frozen BK135.out 6; have hfz47_7 := blk_frozen BK135.out 7))
                  go_ret
                  exact ⟨by first | rfl | (simp only [Go.Proofs.Ytkdlfejokahohaa.Strs.nilB]; rfl) | (simp [errW_none, errW_some] <;> rfl) | (simp [*, errW_none, errW_some] <;> rfl), by repeat (first | (with_reducible first | exact HB.out | apply below_alloc | apply pw_below_drewN | apply below_drew1 | refine below_set ?_ GE135.out) | exact HB.out)⟩

end Go.Proofs.Ytkdlfejokahohaa.X
