/- The contracts of what zone.noted hands back, and of zone.Of: cells' zone. -/
import Derived.Test.YtkdlfejokahohaaCellOrd0
import Derived.Test.YtkdlfejokahohaaMem
import Derived.StillTailTactics
import Derived.RegionTactic
import Derived.ChangeAlike
import Derived.Lib.Hide
namespace Go.Proofs.Ytkdlfejokahohaa.X
open Go.RowKit Go.Proofs.Ytkdlfejokahohaa.CellPlain Go.Proofs.YtkdlfejokahohaaW.PrintWords Go.Proofs.YtkdlfejokahohaaW.PrintLast Go.Proofs.YtkdlfejokahohaaW.PrintMore
set_option linter.unusedVariables false
set_option linter.unusedSimpArgs false
def zone_sm.f (a0_0 : Int) (a0_1 : Int) (a0_2 : Bool) (a0_3 : Int) (a0_4 : ByteArray) (a0_5 : Bool) (a0_6 : Int) (a0_7 : ByteArray) : Option (Bool) := some (decide (a0_0 > a0_1))
set_option maxHeartbeats 8000000 in
set_option maxRecDepth 100000 in
theorem zone_sm.calls (a0_0 : Int) (a0_1 : Int) (a0_2 : Bool) (a0_3 : Int) (a0_4 : ByteArray) (a0_5 : Bool) (a0_6 : Int) (a0_7 : ByteArray) (r : Bool) (w : World) (h : zone_sm.f a0_0 a0_1 a0_2 a0_3 a0_4 a0_5 a0_6 a0_7 = some r) :
    Calls Try.prog 72 #[.agg #[.int .i64 a0_0, .int .i64 a0_1, .bool a0_2, .int .i64 a0_3, .string a0_4, .bool a0_5, .int .i64 a0_6, .string a0_7]] w fun e w' => e = .returned (.bool r) ∧ Below w.heap.size w w' := by
  have hu25 := Try.underlying25
  have HB := Aside0.mk (Below.refl w.heap.size w)
  have H : (some (decide (a0_0 > a0_1))) = some r := h
  clear h
  obtain rfl := Option.some.inj H
  go_enter Try.func72, Try.ntmps72
  go_wp2_with (first | ((with_reducible refine gate_dst (N := 1) rfl ?_); refine box_event ?hg (N := 1) ?hd (cs := #[.int .i64 a0_0, .int .i64 a0_1, .bool a0_2, .int .i64 a0_3, .string a0_4, .bool a0_5, .int .i64 a0_6, .string a0_7]) (t := 25) ?hr ?_; (case hd => rfl); (case hg => rfl); (case hr => first | (go_simp; done) | (go_simp; rfl)); intro gb662 hg w2 hbox hb; have n0_ := Aside0.mk (below_step (by repeat (first | (with_reducible first | exact HB.out | apply below_alloc | apply pw_below_drewN | apply below_drew1) | exact HB.out)) hb); have n1_ := Aside0.mk (hbox); have n2_ := Aside0.mk ((by rw [hg]; exact (below_size (by repeat (first | (with_reducible first | exact HB.out | apply below_alloc | apply pw_below_drewN | apply below_drew1) | exact HB.out))) : w.heap.size ≤ gb662)); have n3_ := Aside0.mk ((by rw [hg]; exact (below_size (by repeat (first | (with_reducible first | exact HB.out | apply below_alloc | apply pw_below_drewN | apply below_drew1) | exact HB.out))) : w.heap.size ≤ gb662)); clear HB; have HB := n0_; have BK662 := n1_; have GW662 := n2_; have GE662 := n3_; clear n0_ n1_ n2_ n3_; clear hb hbox hg; have hcz3_0 : w2.cell? ⟨gb662, 0, none⟩ = some (.int .i64 a0_0) := (blk_cell BK662.out 0).trans rfl; have hcz3_1 : w2.cell? ⟨gb662, 1, none⟩ = some (.int .i64 a0_1) := (blk_cell BK662.out 1).trans rfl; have hcz3_2 : w2.cell? ⟨gb662, 2, none⟩ = some (.bool a0_2) := (blk_cell BK662.out 2).trans rfl; have hcz3_3 : w2.cell? ⟨gb662, 3, none⟩ = some (.int .i64 a0_3) := (blk_cell BK662.out 3).trans rfl; have hcz3_4 : w2.cell? ⟨gb662, 4, none⟩ = some (.string a0_4) := (blk_cell BK662.out 4).trans rfl; have hcz3_5 : w2.cell? ⟨gb662, 5, none⟩ = some (.bool a0_5) := (blk_cell BK662.out 5).trans rfl; have hcz3_6 : w2.cell? ⟨gb662, 6, none⟩ = some (.int .i64 a0_6) := (blk_cell BK662.out 6).trans rfl; have hcz3_7 : w2.cell? ⟨gb662, 7, none⟩ = some (.string a0_7) := (blk_cell BK662.out 7).trans rfl; have hfz3_0 := blk_frozen BK662.out 0; have hfz3_1 := blk_frozen BK662.out 1; have hfz3_2 := blk_frozen BK662.out 2; have hfz3_3 := blk_frozen BK662.out 3; have hfz3_4 := blk_frozen BK662.out 4; have hfz3_5 := blk_frozen BK662.out 5; have hfz3_6 := blk_frozen BK662.out 6; have hfz3_7 := blk_frozen BK662.out 7))
  go_ret
  exact ⟨by first | rfl | (simp [errW_none, errW_some] <;> rfl) | (simp [*, errW_none, errW_some] <;> rfl), by repeat (first | (with_reducible first | exact HB.out | apply below_alloc | apply pw_below_drewN | apply below_drew1 | refine below_set ?_ GE662.out) | exact HB.out)⟩
/-- A zone with one cell more. -/
def noteR (z0 z1 : Int) (lo hi c : S23) : Int × Int × S23 × S23 :=
  if c.f0 = true then (z0 + 1, z1 + 1, lo, hi)
  else if z0 ≤ z1 then (z0 + 1, z1, c, c)
  else if ordC c.f0 c.f1 c.f2 lo.f0 lo.f1 lo.f2 < 0 then (z0 + 1, z1, c, hi)
  else if 0 < ordC c.f0 c.f1 c.f2 hi.f0 hi.f1 hi.f2 then (z0 + 1, z1, lo, c)
  else (z0 + 1, z1, lo, hi)
def zc (z : Int × Int × S23 × S23) : Array Value := #[.int .i64 z.1, .int .i64 z.2.1, .bool z.2.2.1.f0, .int .i64 z.2.2.1.f1, .string z.2.2.1.f2, .bool z.2.2.2.f0, .int .i64 z.2.2.2.f1, .string z.2.2.2.f2]
theorem set_one (w : World) (g i : Nat) (arr arr' : Array Value) (t : TypeId) (v : Value) (h : w.heap[g]? = some (.cells arr t (0, 0))) (he : arr.set! i v = arr') : (w.setCell ⟨g, i, none⟩ v).heap[g]? = some (.cells arr' t (0, 0)) := by
  rw [← he]; simpa using blk_set h i v
theorem set_seven (w : World) (g : Nat) (a0 a1 a2 a3 a4 a5 a6 a7 v0 v2 v3 v4 v5 v6 v7 : Value) (t : TypeId) (h : w.heap[g]? = some (.cells #[a0, a1, a2, a3, a4, a5, a6, a7] t (0, 0))) :
    (((((((w.setCell ⟨g, 0, none⟩ v0).setCell ⟨g, 2, none⟩ v2).setCell ⟨g, 3, none⟩ v3).setCell ⟨g, 4, none⟩ v4).setCell ⟨g, 5, none⟩ v5).setCell ⟨g, 6, none⟩ v6).setCell ⟨g, 7, none⟩ v7).heap[g]? = some (.cells #[v0, a1, v2, v3, v4, v5, v6, v7] t (0, 0)) := by
  refine set_one _ g 7 #[v0, a1, v2, v3, v4, v5, v6, a7] _ t v7 ?_ rfl
  refine set_one _ g 6 #[v0, a1, v2, v3, v4, v5, a6, a7] _ t v6 ?_ rfl
  refine set_one _ g 5 #[v0, a1, v2, v3, v4, a5, a6, a7] _ t v5 ?_ rfl
  refine set_one _ g 4 #[v0, a1, v2, v3, a4, a5, a6, a7] _ t v4 ?_ rfl
  refine set_one _ g 3 #[v0, a1, v2, a3, a4, a5, a6, a7] _ t v3 ?_ rfl
  refine set_one _ g 2 #[v0, a1, a2, a3, a4, a5, a6, a7] _ t v2 ?_ rfl
  exact set_one _ g 0 #[a0, a1, a2, a3, a4, a5, a6, a7] _ t v0 h rfl
theorem set_seven' (w : World) (g : Nat) (a0 a1 a2 a3 a4 a5 a6 a7 v0 v2 v3 v4 v5 v6 v7 : Value) (t : TypeId) (h : w.heap[g]? = some (.cells #[a0, a1, a2, a3, a4, a5, a6, a7] t (0, 0))) :
    (((((((w.setCell ⟨g, 0, none⟩ v0).setCell ⟨g, 2, none⟩ v2).setCell ⟨g, 3, none⟩ v3).setCell ⟨g, 4, none⟩ v4).setCell ⟨g, 5, none⟩ v5).setCell ⟨g, 6, none⟩ v6).setCell ⟨g, 7, none⟩ v7).drew.heap[g]? = some (.cells #[v0, a1, v2, v3, v4, v5, v6, v7] t (0, 0)) := by
  rw [show ∀ W : World, W.drew.heap = W.heap from fun _ => rfl]
  exact set_seven w g a0 a1 a2 a3 a4 a5 a6 a7 v0 v2 v3 v4 v5 v6 v7 t h
theorem set_four (w : World) (g n : Nat) (a0 a1 a2 a3 a4 a5 a6 a7 v0 v2 v3 v4 : Value) (t : TypeId) (h : w.heap[g]? = some (.cells #[a0, a1, a2, a3, a4, a5, a6, a7] t (0, 0))) :
    (((w.setCell ⟨g, 2, none⟩ v2).setCell ⟨g, 3, none⟩ v3).setCell ⟨g, 4, none⟩ v4).heap[g]? = some (.cells #[a0, a1, v2, v3, v4, a5, a6, a7] t (0, 0)) := by
  refine set_one _ g 4 #[a0, a1, v2, v3, a4, a5, a6, a7] _ t v4 ?_ rfl
  refine set_one _ g 3 #[a0, a1, v2, a3, a4, a5, a6, a7] _ t v3 ?_ rfl
  exact set_one _ g 2 #[a0, a1, a2, a3, a4, a5, a6, a7] _ t v2 h rfl
theorem set_high (w : World) (g n : Nat) (a0 a1 a2 a3 a4 a5 a6 a7 v5 v6 v7 : Value) (t : TypeId) (h : w.heap[g]? = some (.cells #[a0, a1, a2, a3, a4, a5, a6, a7] t (0, 0))) :
    (((w.setCell ⟨g, 5, none⟩ v5).setCell ⟨g, 6, none⟩ v6).setCell ⟨g, 7, none⟩ v7).heap[g]? = some (.cells #[a0, a1, a2, a3, a4, v5, v6, v7] t (0, 0)) := by
  refine set_one _ g 7 #[a0, a1, a2, a3, a4, v5, v6, a7] _ t v7 ?_ rfl
  refine set_one _ g 6 #[a0, a1, a2, a3, a4, v5, a6, a7] _ t v6 ?_ rfl
  exact set_one _ g 5 #[a0, a1, a2, a3, a4, a5, a6, a7] _ t v5 h rfl
set_option maxHeartbeats 8000000 in
set_option maxRecDepth 100000 in
theorem zone_note.calls (gp gz : Nat) (z0 z1 : Int) (lo hi c : S23) (w : World) (hp : w.heap[gp]? = some (.cells #[.pointer (some ⟨gz, 0, none⟩)] 103 (0, 0))) (hz : w.heap[gz]? = some (.cells (zc (z0, z1, lo, hi)) 25 (0, 0))) (hne : gp ≠ gz) (wB : World) (hB : Below wB.heap.size wB w) (hBg : wB.heap.size ≤ gz)
    (hb0 : -9223372036854775808 ≤ z0 ∧ z0 < 9223372036854775807) (hb1 : -9223372036854775808 ≤ z1 ∧ z1 < 9223372036854775807) :
    Calls Try.prog 101 #[.agg #[.bool c.f0, .int .i64 c.f1, .string c.f2], .pointer (some ⟨gp, 0, none⟩)] w fun e w' => e = .returned (.tuple #[]) ∧ w'.heap[gz]? = some (.cells (zc (noteR z0 z1 lo hi c)) 25 (0, 0)) ∧ KeepBut w w' gz none ∧ Below wB.heap.size wB w' := by
  have hu1 := Try.underlying23
  have hu2 := Try.underlying25
  obtain ⟨l0, l1, l2⟩ := lo
  obtain ⟨h0, h1, h2⟩ := hi
  obtain ⟨c0, c1, c2⟩ := c
  simp only [zc] at hz
  have bkc := Mem.alloc_new w (.cells #[.bool c0, .int .i64 c1, .string c2] 23)
  have bkp := blk_alloc hp (.cells #[.bool c0, .int .i64 c1, .string c2] 23)
  have bkz := blk_alloc hz (.cells #[.bool c0, .int .i64 c1, .string c2] 23)
  have hK := keep_alloc (KeepBut.refl w gz none) (.cells #[.bool c0, .int .i64 c1, .string c2] 23)
  have HB := Aside0.mk (below_alloc hB (.cells #[.bool c0, .int .i64 c1, .string c2] 23))
  have hgp := blk_lt hp
  have hgz := blk_lt hz
  clear hp hz
  obtain ⟨bs, hbs⟩ : ∃ b_ : Bool, decide (z0 > z1) = b_ := ⟨_, rfl⟩
  have E1 := Lib.hid (show zone_sm.f z0 z1 l0 l1 l2 h0 h1 h2 = some (decide (z0 > z1)) from rfl)
  rw [hbs] at E1
  have HBS := Aside0.mk hbs
  clear hbs
  go_enter Try.func101, Try.ntmps101
  generalize hW : w.alloc (.cells #[.bool c0, .int .i64 c1, .string c2] 23) = W at bkc bkp bkz hK HB
  have HW := Lib.hid hW
  clear hW
  go_upto_region 1 with (fail)
  rw [HW.out]
  have p0 : W.cell? ⟨gp, 0, none⟩ = some (.pointer (some ⟨gz, 0, none⟩)) := (blk_cell bkp 0).trans rfl
  have a0 : W.cell? ⟨gz, 0, none⟩ = some (.int .i64 z0) := (blk_cell bkz 0).trans rfl
  have a1 : W.cell? ⟨gz, 1, none⟩ = some (.int .i64 z1) := (blk_cell bkz 1).trans rfl
  have a2 : W.cell? ⟨gz, 2, none⟩ = some (.bool l0) := (blk_cell bkz 2).trans rfl
  have a3 : W.cell? ⟨gz, 3, none⟩ = some (.int .i64 l1) := (blk_cell bkz 3).trans rfl
  have a4 : W.cell? ⟨gz, 4, none⟩ = some (.string l2) := (blk_cell bkz 4).trans rfl
  have a5 : W.cell? ⟨gz, 5, none⟩ = some (.bool h0) := (blk_cell bkz 5).trans rfl
  have a6 : W.cell? ⟨gz, 6, none⟩ = some (.int .i64 h1) := (blk_cell bkz 6).trans rfl
  have a7 : W.cell? ⟨gz, 7, none⟩ = some (.string h2) := (blk_cell bkz 7).trans rfl
  go_wp2_with fail
  refine (zone_sm.calls z0 z1 l0 l1 l2 h0 h1 h2 bs _ E1.out).mono ?_
  rintro e w2 ⟨rfl, b2⟩
  have bkc2 := blk_below bkc b2
  have bkp2 := blk_below bkp b2
  have bkz2 := blk_below bkz b2
  have HB2 := Aside0.mk (below_step HB.out b2)
  have HK2 := Aside0.mk (hK.trans (KeepBut.of_below b2 gz none) (.inl rfl))
  clear p0 a0 a1 a2 a3 a4 a5 a6 a7 bkc bkp bkz b2 hK HB hB
  have p0 : w2.cell? ⟨gp, 0, none⟩ = some (.pointer (some ⟨gz, 0, none⟩)) := (blk_cell bkp2 0).trans rfl
  have a0 : w2.cell? ⟨gz, 0, none⟩ = some (.int .i64 z0) := (blk_cell bkz2 0).trans rfl
  have a1 : w2.cell? ⟨gz, 1, none⟩ = some (.int .i64 z1) := (blk_cell bkz2 1).trans rfl
  have a2 : w2.cell? ⟨gz, 2, none⟩ = some (.bool l0) := (blk_cell bkz2 2).trans rfl
  have a3 : w2.cell? ⟨gz, 3, none⟩ = some (.int .i64 l1) := (blk_cell bkz2 3).trans rfl
  have a4 : w2.cell? ⟨gz, 4, none⟩ = some (.string l2) := (blk_cell bkz2 4).trans rfl
  have a5 : w2.cell? ⟨gz, 5, none⟩ = some (.bool h0) := (blk_cell bkz2 5).trans rfl
  have a6 : w2.cell? ⟨gz, 6, none⟩ = some (.int .i64 h1) := (blk_cell bkz2 6).trans rfl
  have a7 : w2.cell? ⟨gz, 7, none⟩ = some (.string h2) := (blk_cell bkz2 7).trans rfl
  have f0 := blk_frozen bkz2 0
  have f1 := blk_frozen bkz2 1
  have f2 := blk_frozen bkz2 2
  have f3 := blk_frozen bkz2 3
  have f4 := blk_frozen bkz2 4
  have f5 := blk_frozen bkz2 5
  have f6 := blk_frozen bkz2 6
  have f7 := blk_frozen bkz2 7
  have q0 : w2.cell? ⟨w.heap.size, 0, none⟩ = some (.bool c0) := (blk_cell bkc2 0).trans rfl
  have q1 : w2.cell? ⟨w.heap.size, 1, none⟩ = some (.int .i64 c1) := (blk_cell bkc2 1).trans rfl
  have q2 : w2.cell? ⟨w.heap.size, 2, none⟩ = some (.string c2) := (blk_cell bkc2 2).trans rfl
  have hgz2 : gz ≠ w.heap.size := by omega
  have hgp2 : gp ≠ w.heap.size := by omega
  have BKZ := Aside0.mk bkz2
  have BKP := Aside0.mk bkp2
  have BKC := Aside0.mk bkc2
  clear bkz2 bkp2 bkc2
  by_cases hc : c0 = true
  · subst hc
    go_wp2_with fail
    go_end0
    refine ⟨rfl, ?_, (HK2.out.set_ 0 _).set_ 1 _, below_set (below_set HB2.out hBg) hBg⟩
    simp only [noteR, if_true, zc]
    simpa using blk_set (blk_set BKZ.out 0 (.int .i64 (z0 + 1))) 1 (.int .i64 (z1 + 1))
  have hc : c0 = false := by cases c0 with | true => exact absurd rfl hc | false => rfl
  subst hc
  cases bs with
  | false =>
    have hz01 : z0 ≤ z1 := by have := of_decide_eq_false HBS.out; omega
    go_upto_region 6 with (fail)
    go_region
    go_wp2_with fail
    go_end0
    refine ⟨rfl, ?_, ?_, below_drew (below_set (below_set (below_set (below_set (below_set (below_set (below_set HB2.out hBg) hBg) hBg) hBg) hBg) hBg) hBg)⟩
    · simp only [noteR]
      rw [if_neg (by decide), if_pos hz01]
      refine Eq.trans (set_seven' w2 gz _ _ _ _ _ _ _ _ _ _ _ _ _ _ _ _ BKZ.out) ?_
      rfl
    · exact keep_drew (((((((HK2.out.set_ 0 _).set_ 2 _).set_ 3 _).set_ 4 _).set_ 5 _).set_ 6 _).set_ 7 _)
  | true =>
    have hz01 : ¬ z0 ≤ z1 := by have := of_decide_eq_true HBS.out; omega
    obtain ⟨o1, ho1⟩ : ∃ o_ : Int, o_ = ordC false c1 c2 l0 l1 l2 := ⟨_, rfl⟩
    obtain ⟨o2, ho2⟩ : ∃ o_ : Int, o_ = ordC false c1 c2 h0 h1 h2 := ⟨_, rfl⟩
    have HO1 := Aside0.mk ho1
    have HO2 := Aside0.mk ho2
    clear ho1 ho2
    go_upto_region 7 with (fail)
    have BKZ7 := Aside0.mk (set_one w2 gz 0 _ #[.int .i64 (z0 + 1), .int .i64 z1, .bool l0, .int .i64 l1, .string l2, .bool h0, .int .i64 h1, .string h2] _ (.int .i64 (z0 + 1)) BKZ.out rfl)
    have BKP7 := Aside0.mk (blk_far BKP.out (p := ⟨gz, 0, none⟩) hne (.int .i64 (z0 + 1)))
    have BKC7 := Aside0.mk (blk_far BKC.out (p := ⟨gz, 0, none⟩) (Ne.symm hgz2) (.int .i64 (z0 + 1)))
    have HB7 := Aside0.mk (below_set (j := 0) (v := .int .i64 (z0 + 1)) HB2.out hBg)
    have HK7 := Aside0.mk (HK2.out.set_ 0 (.int .i64 (z0 + 1)))
    clear p0 a0 a1 a2 a3 a4 a5 a6 a7 f0 f1 f2 f3 f4 f5 f6 f7 q0 q1 q2 BKZ BKP BKC HK2 HB2 HW
    generalize w2.setCell ⟨gz, 0, none⟩ (.int .i64 (z0 + 1)) = w7 at BKZ7 BKP7 BKC7 HK7 HB7 ⊢
    have p0 : w7.cell? ⟨gp, 0, none⟩ = some (.pointer (some ⟨gz, 0, none⟩)) := (blk_cell BKP7.out 0).trans rfl
    have a0 : w7.cell? ⟨gz, 0, none⟩ = some (.int .i64 (z0 + 1)) := (blk_cell BKZ7.out 0).trans rfl
    have a1 : w7.cell? ⟨gz, 1, none⟩ = some (.int .i64 z1) := (blk_cell BKZ7.out 1).trans rfl
    have a2 : w7.cell? ⟨gz, 2, none⟩ = some (.bool l0) := (blk_cell BKZ7.out 2).trans rfl
    have a3 : w7.cell? ⟨gz, 3, none⟩ = some (.int .i64 l1) := (blk_cell BKZ7.out 3).trans rfl
    have a4 : w7.cell? ⟨gz, 4, none⟩ = some (.string l2) := (blk_cell BKZ7.out 4).trans rfl
    have a5 : w7.cell? ⟨gz, 5, none⟩ = some (.bool h0) := (blk_cell BKZ7.out 5).trans rfl
    have a6 : w7.cell? ⟨gz, 6, none⟩ = some (.int .i64 h1) := (blk_cell BKZ7.out 6).trans rfl
    have a7 : w7.cell? ⟨gz, 7, none⟩ = some (.string h2) := (blk_cell BKZ7.out 7).trans rfl
    have q0 : w7.cell? ⟨w.heap.size, 0, none⟩ = some (.bool false) := (blk_cell BKC7.out 0).trans rfl
    have q1 : w7.cell? ⟨w.heap.size, 1, none⟩ = some (.int .i64 c1) := (blk_cell BKC7.out 1).trans rfl
    have q2 : w7.cell? ⟨w.heap.size, 2, none⟩ = some (.string c2) := (blk_cell BKC7.out 2).trans rfl
    have EO1 := Lib.hid (order_is false c1 c2 l0 l1 l2 5 (by decide))
    rw [← HO1.out] at EO1
    go_still_tail 5, (by kernel_rfl)
    change wpList _ _ _ _ _ w7.drew
    have BKZ8 := Aside0.mk (show w7.drew.heap[gz]? = _ from BKZ7.out)
    have BKP8 := Aside0.mk (show w7.drew.heap[gp]? = _ from BKP7.out)
    have BKC8 := Aside0.mk (show w7.drew.heap[w.heap.size]? = _ from BKC7.out)
    have HK8 := Aside0.mk (keep_drew HK7.out)
    have HB8 := Aside0.mk (below_drew HB7.out)
    clear BKZ7 BKP7 BKC7 HK7 HB7 p0 a0 a1 a2 a3 a4 a5 a6 a7 q0 q1 q2
    generalize w7.drew = w8 at BKZ8 BKP8 BKC8 HK8 HB8 ⊢
    go_wp2_with fail
    refine (cell_Order.calls 5 false c1 c2 l0 l1 l2 o1 _ EO1.out).mono ?_
    rintro e w9 ⟨rfl, b_⟩
    have BKZ9 := Aside0.mk (blk_below BKZ8.out b_)
    have BKP9 := Aside0.mk (blk_below BKP8.out b_)
    have BKC9 := Aside0.mk (blk_below BKC8.out b_)
    have HK9 := Aside0.mk (HK8.out.trans (KeepBut.of_below b_ gz none) (.inl rfl))
    have HB9 := Aside0.mk (below_step HB8.out b_)
    clear BKZ8 BKP8 BKC8 HK8 HB8 b_
    have p0 : w9.cell? ⟨gp, 0, none⟩ = some (.pointer (some ⟨gz, 0, none⟩)) := (blk_cell BKP9.out 0).trans rfl
    have a0 : w9.cell? ⟨gz, 0, none⟩ = some (.int .i64 (z0 + 1)) := (blk_cell BKZ9.out 0).trans rfl
    have f0 := blk_frozen BKZ9.out 0
    have a1 : w9.cell? ⟨gz, 1, none⟩ = some (.int .i64 z1) := (blk_cell BKZ9.out 1).trans rfl
    have f1 := blk_frozen BKZ9.out 1
    have a2 : w9.cell? ⟨gz, 2, none⟩ = some (.bool l0) := (blk_cell BKZ9.out 2).trans rfl
    have f2 := blk_frozen BKZ9.out 2
    have a3 : w9.cell? ⟨gz, 3, none⟩ = some (.int .i64 l1) := (blk_cell BKZ9.out 3).trans rfl
    have f3 := blk_frozen BKZ9.out 3
    have a4 : w9.cell? ⟨gz, 4, none⟩ = some (.string l2) := (blk_cell BKZ9.out 4).trans rfl
    have f4 := blk_frozen BKZ9.out 4
    have a5 : w9.cell? ⟨gz, 5, none⟩ = some (.bool h0) := (blk_cell BKZ9.out 5).trans rfl
    have f5 := blk_frozen BKZ9.out 5
    have a6 : w9.cell? ⟨gz, 6, none⟩ = some (.int .i64 h1) := (blk_cell BKZ9.out 6).trans rfl
    have f6 := blk_frozen BKZ9.out 6
    have a7 : w9.cell? ⟨gz, 7, none⟩ = some (.string h2) := (blk_cell BKZ9.out 7).trans rfl
    have f7 := blk_frozen BKZ9.out 7
    have q0 : w9.cell? ⟨w.heap.size, 0, none⟩ = some (.bool false) := (blk_cell BKC9.out 0).trans rfl
    have q1 : w9.cell? ⟨w.heap.size, 1, none⟩ = some (.int .i64 c1) := (blk_cell BKC9.out 1).trans rfl
    have q2 : w9.cell? ⟨w.heap.size, 2, none⟩ = some (.string c2) := (blk_cell BKC9.out 2).trans rfl
    by_cases hlt : o1 < 0
    · have hb1' : decide (o1 < 0) = true := decide_eq_true hlt
      go_wp2_with fail
      go_end0
      refine ⟨rfl, ?_, ?_, below_set (below_set (below_set HB9.out hBg) hBg) hBg⟩
      · simp only [noteR]
        rw [if_neg (by decide), if_neg (show ¬ z0 ≤ z1 by omega), ← HO1.out, if_pos hlt]
        refine Eq.trans (set_four w9 gz 0 _ _ _ _ _ _ _ _ (.int .i64 0) _ _ _ _ BKZ9.out) ?_
        rfl
      · exact ((HK9.out.set_ 2 _).set_ 3 _).set_ 4 _
    · have hb1' : decide (o1 < 0) = false := decide_eq_false hlt
      have EO2 := Lib.hid (order_is false c1 c2 h0 h1 h2 5 (by decide))
      rw [← HO2.out] at EO2
      clear f0 f1 f2 f3 f4 f5 f6 f7
      go_upto_region 9 with (fail)
      go_still_tail 5, (by kernel_rfl)
      change wpList _ _ _ _ _ w9.drew
      have BKZ10 := Aside0.mk (show w9.drew.heap[gz]? = _ from BKZ9.out)
      have BKP10 := Aside0.mk (show w9.drew.heap[gp]? = _ from BKP9.out)
      have BKC10 := Aside0.mk (show w9.drew.heap[w.heap.size]? = _ from BKC9.out)
      have HK10 := Aside0.mk (keep_drew HK9.out)
      have HB10 := Aside0.mk (below_drew HB9.out)
      clear BKZ9 BKP9 BKC9 HK9 HB9 p0 a0 a1 a2 a3 a4 a5 a6 a7 q0 q1 q2
      generalize w9.drew = w10 at BKZ10 BKP10 BKC10 HK10 HB10 ⊢
      go_wp2_with fail
      refine (cell_Order.calls 5 false c1 c2 h0 h1 h2 o2 _ EO2.out).mono ?_
      rintro e w11 ⟨rfl, b_⟩
      have BKZ11 := Aside0.mk (blk_below BKZ10.out b_)
      have BKP11 := Aside0.mk (blk_below BKP10.out b_)
      have BKC11 := Aside0.mk (blk_below BKC10.out b_)
      have HK11 := Aside0.mk (HK10.out.trans (KeepBut.of_below b_ gz none) (.inl rfl))
      have HB11 := Aside0.mk (below_step HB10.out b_)
      clear BKZ10 BKP10 BKC10 HK10 HB10 b_
      have p0 : w11.cell? ⟨gp, 0, none⟩ = some (.pointer (some ⟨gz, 0, none⟩)) := (blk_cell BKP11.out 0).trans rfl
      have a0 : w11.cell? ⟨gz, 0, none⟩ = some (.int .i64 (z0 + 1)) := (blk_cell BKZ11.out 0).trans rfl
      have f0 := blk_frozen BKZ11.out 0
      have a1 : w11.cell? ⟨gz, 1, none⟩ = some (.int .i64 z1) := (blk_cell BKZ11.out 1).trans rfl
      have f1 := blk_frozen BKZ11.out 1
      have a2 : w11.cell? ⟨gz, 2, none⟩ = some (.bool l0) := (blk_cell BKZ11.out 2).trans rfl
      have f2 := blk_frozen BKZ11.out 2
      have a3 : w11.cell? ⟨gz, 3, none⟩ = some (.int .i64 l1) := (blk_cell BKZ11.out 3).trans rfl
      have f3 := blk_frozen BKZ11.out 3
      have a4 : w11.cell? ⟨gz, 4, none⟩ = some (.string l2) := (blk_cell BKZ11.out 4).trans rfl
      have f4 := blk_frozen BKZ11.out 4
      have a5 : w11.cell? ⟨gz, 5, none⟩ = some (.bool h0) := (blk_cell BKZ11.out 5).trans rfl
      have f5 := blk_frozen BKZ11.out 5
      have a6 : w11.cell? ⟨gz, 6, none⟩ = some (.int .i64 h1) := (blk_cell BKZ11.out 6).trans rfl
      have f6 := blk_frozen BKZ11.out 6
      have a7 : w11.cell? ⟨gz, 7, none⟩ = some (.string h2) := (blk_cell BKZ11.out 7).trans rfl
      have f7 := blk_frozen BKZ11.out 7
      have q0 : w11.cell? ⟨w.heap.size, 0, none⟩ = some (.bool false) := (blk_cell BKC11.out 0).trans rfl
      have q1 : w11.cell? ⟨w.heap.size, 1, none⟩ = some (.int .i64 c1) := (blk_cell BKC11.out 1).trans rfl
      have q2 : w11.cell? ⟨w.heap.size, 2, none⟩ = some (.string c2) := (blk_cell BKC11.out 2).trans rfl
      by_cases hgt : 0 < o2
      · have hb2' : decide (o2 > 0) = true := decide_eq_true hgt
        have hb3' : decide (0 < o2) = true := decide_eq_true hgt
        go_wp2_with fail
        go_end0
        refine ⟨rfl, ?_, ?_, below_set (below_set (below_set HB11.out hBg) hBg) hBg⟩
        · simp only [noteR]
          rw [if_neg (by decide), if_neg (show ¬ z0 ≤ z1 by omega), ← HO1.out, if_neg (show ¬ o1 < 0 by omega), ← HO2.out, if_pos hgt]
          refine Eq.trans (set_high w11 gz 0 _ _ _ _ _ _ _ _ _ _ _ _ BKZ11.out) ?_
          rfl
        · exact ((HK11.out.set_ 5 _).set_ 6 _).set_ 7 _
      · have hb2' : decide (o2 > 0) = false := decide_eq_false (by omega)
        have hb3' : decide (0 < o2) = false := decide_eq_false hgt
        go_wp2_with fail
        go_end0
        refine ⟨rfl, ?_, HK11.out, HB11.out⟩
        simp only [noteR]
        rw [if_neg (by decide), if_neg (show ¬ z0 ≤ z1 by omega), ← HO1.out, if_neg (show ¬ o1 < 0 by omega), ← HO2.out, if_neg (show ¬ 0 < o2 by omega)]
        exact BKZ11.out
end Go.Proofs.Ytkdlfejokahohaa.X
