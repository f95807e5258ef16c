/- The contracts of zone.noted and zone.Of: cells' zone. -/
import Derived.Test.YtkdlfejokahohaaZoneNote
import Derived.Laws.Rows
namespace Go.Proofs.Ytkdlfejokahohaa.X
open Go.RowKit Go.Proofs.Ytkdlfejokahohaa.CellPlain Go.Proofs.YtkdlfejokahohaaW.PrintWords Go.Proofs.YtkdlfejokahohaaW.PrintLast Go.Proofs.YtkdlfejokahohaaW.PrintMore
set_option linter.unusedVariables false
set_option linter.unusedSimpArgs false
def zc0 : Int × Int × S23 × S23 := (0, 0, ⟨false, 0, ByteArray.empty⟩, ⟨false, 0, ByteArray.empty⟩)
set_option maxHeartbeats 8000000 in
set_option maxRecDepth 100000 in
theorem zone_noted.calls (w : World) :
    Calls Try.prog 85 #[] w fun e w' => e = .returned (.tuple #[.pointer (some ⟨w.heap.size, 0, none⟩), .func (Fn.func 101) #[] #[.pointer (some ⟨w.heap.size + 1, 0, none⟩)]]) ∧ w'.heap[w.heap.size]? = some (.cells (zc zc0) 25 (0, 0)) ∧ w'.heap[w.heap.size + 1]? = some (.cells #[.pointer (some ⟨w.heap.size, 0, none⟩)] 103 (0, 0)) ∧ Below w.heap.size w w' := by
  have hu1 := Try.underlying23
  have hu2 := Try.underlying25
  go_enter Try.func85, Try.ntmps85
  go_wp2_with fail
  go_ret2
  refine ⟨rfl, ?_, ?_, ?_⟩
  · exact Mem.alloc_old (Mem.alloc_new w _)
  · have h := Mem.alloc_new (w.alloc (.cells (zc zc0) 25)) (.cells #[.pointer (some ⟨w.heap.size, 0, none⟩)] 103)
    rw [Mem.alloc_size] at h
    exact h
  · exact below_alloc (below_alloc (Below.refl _ _) _) _
/-- The zone of cells, one behind the other. -/
def noteAll (z : Int × Int × S23 × S23) : List S23 → Int × Int × S23 × S23
  | [] => z
  | c :: l => noteAll (noteR z.1 z.2.1 z.2.2.1 z.2.2.2 c) l
theorem noteR_le (z0 z1 : Int) (lo hi c : S23) : (noteR z0 z1 lo hi c).1 = z0 + 1 ∧ ((noteR z0 z1 lo hi c).2.1 = z1 ∨ (noteR z0 z1 lo hi c).2.1 = z1 + 1) := by
  unfold noteR
  repeat' split
  all_goals simp
theorem set_eight (w : World) (g : Nat) (a0 a1 a2 a3 a4 a5 a6 a7 v0 v1 v2 v3 v4 v5 v6 v7 : Value) (t : TypeId) (h : w.heap[g]? = some (.cells #[a0, a1, a2, a3, a4, a5, a6, a7] t (0, 0))) :
    ((((((((w.setCell ⟨g, 0, none⟩ v0).setCell ⟨g, 1, none⟩ v1).setCell ⟨g, 2, none⟩ v2).setCell ⟨g, 3, none⟩ v3).setCell ⟨g, 4, none⟩ v4).setCell ⟨g, 5, none⟩ v5).setCell ⟨g, 6, none⟩ v6).setCell ⟨g, 7, none⟩ v7).heap[g]? = some (.cells #[v0, v1, v2, v3, v4, v5, v6, v7] t (0, 0)) := by
  refine set_one _ g 7 #[v0, v1, v2, v3, v4, v5, v6, a7] _ t v7 ?_ rfl
  refine set_one _ g 6 #[v0, v1, v2, v3, v4, v5, a6, a7] _ t v6 ?_ rfl
  refine set_one _ g 5 #[v0, v1, v2, v3, v4, a5, a6, a7] _ t v5 ?_ rfl
  refine set_one _ g 4 #[v0, v1, v2, v3, a4, a5, a6, a7] _ t v4 ?_ rfl
  refine set_one _ g 3 #[v0, v1, v2, a3, a4, a5, a6, a7] _ t v3 ?_ rfl
  refine set_one _ g 2 #[v0, v1, a2, a3, a4, a5, a6, a7] _ t v2 ?_ rfl
  refine set_one _ g 1 #[v0, a1, a2, a3, a4, a5, a6, a7] _ t v1 ?_ rfl
  exact set_one _ g 0 #[a0, a1, a2, a3, a4, a5, a6, a7] _ t v0 h rfl
set_option maxHeartbeats 8000000 in
set_option maxRecDepth 100000 in
theorem zone_Of.note (A0 : Option Addr) (c0 n : Nat) (l0 : List S23) (w : World) (hr0 : Kd.C k23 w A0 l0.length l0) (hc0 : l0.length ≤ c0) (hmax : l0.length < 1000000) :
    Calls Try.prog 57 #[.slice A0 l0.length c0] w fun e w' => e = .returned (.agg (zc (noteAll zc0 l0))) ∧ Below w.heap.size w w' := by
  have hu1 := Try.underlying23
  have hu2 := Try.underlying25
  have HR0 := Aside0.mk hr0
  clear hr0
  go_enter Try.func57, Try.ntmps57
  go_wp2_with fail
  refine (zone_noted.calls _).mono ?_
  rintro e w1 ⟨rfl, hz, hp, b1⟩
  have hsz : (w.alloc (.cells (zc zc0) 25)).heap.size = w.heap.size + 1 := Mem.alloc_size _ _
  have B0 := below_alloc (Below.refl w.heap.size w) (.cells (zc zc0) 25)
  have BZ := Aside0.mk (show w1.heap[w.heap.size + 1]? = some (.cells (zc zc0) 25 (0, 0)) by rw [← hsz]; exact hz)
  have BP := Aside0.mk (show w1.heap[w.heap.size + 1 + 1]? = some (.cells #[.pointer (some ⟨w.heap.size + 1, 0, none⟩)] 103 (0, 0)) by rw [← hsz]; exact hp)
  have BR := Aside0.mk (show w1.heap[w.heap.size]? = some (.cells (zc zc0) 25 (0, 0)) from blk_below (Mem.alloc_new w _) b1)
  have HB1 := Aside0.mk (below_step B0 b1)
  clear hz hp b1 B0 hsz
  go_wp2_with fail
  go_loopg [13] l0.length (fun kq v13 w' => ∃ (i : Nat) (z : Int × Int × S23 × S23), v13 = .int .i64 (i : Int) ∧ kq + i = l0.length ∧ z.1 = (i : Int) ∧ (0 ≤ z.2.1 ∧ z.2.1 ≤ (i : Int)) ∧ Aside0 (noteAll z (l0.drop i) = noteAll zc0 l0) ∧ Aside0 (w'.heap[w.heap.size + 1]? = some (.cells (zc z) 25 (0, 0))) ∧ Aside0 (w'.heap[w.heap.size + 1 + 1]? = some (.cells #[.pointer (some ⟨w.heap.size + 1, 0, none⟩)] 103 (0, 0))) ∧ Aside0 (w'.heap[w.heap.size]? = some (.cells (zc zc0) 25 (0, 0))) ∧ Aside0 (Below w.heap.size w w'))
  case atStart => exact ⟨0, zc0, rfl, rfl, rfl, ⟨by decide, by decide⟩, ⟨rfl⟩, BZ, BP, BR, HB1⟩
  case round =>
    clear BZ BP BR HB1
    obtain ⟨i, z, rfl, hi, hz0, hz1, HE, BZ, BP, BR, HB⟩ := hrel
    cases gk with
    | zero =>
      obtain rfl : i = l0.length := by omega
      have hb : decide ((l0.length : Int) < (l0.length : Int)) = false := decide_eq_false (by omega)
      have hb2 : decide (l0.length < l0.length) = false := decide_eq_false (by omega)
      have hE2 := HE.out
      rw [List.drop_length, noteAll] at hE2
      have HE3 := Aside0.mk hE2
      clear HE hE2
      obtain ⟨z0, z1, lo, hi2⟩ := z
      obtain ⟨d0, d1, d2⟩ := lo
      obtain ⟨e0, e1, e2⟩ := hi2
      have a0 : wr.cell? ⟨w.heap.size + 1, 0, none⟩ = some (.int .i64 z0) := (blk_cell BZ.out 0).trans rfl
      have a1 : wr.cell? ⟨w.heap.size + 1, 1, none⟩ = some (.int .i64 z1) := (blk_cell BZ.out 1).trans rfl
      have a2 : wr.cell? ⟨w.heap.size + 1, 2, none⟩ = some (.bool d0) := (blk_cell BZ.out 2).trans rfl
      have a3 : wr.cell? ⟨w.heap.size + 1, 3, none⟩ = some (.int .i64 d1) := (blk_cell BZ.out 3).trans rfl
      have a4 : wr.cell? ⟨w.heap.size + 1, 4, none⟩ = some (.string d2) := (blk_cell BZ.out 4).trans rfl
      have a5 : wr.cell? ⟨w.heap.size + 1, 5, none⟩ = some (.bool e0) := (blk_cell BZ.out 5).trans rfl
      have a6 : wr.cell? ⟨w.heap.size + 1, 6, none⟩ = some (.int .i64 e1) := (blk_cell BZ.out 6).trans rfl
      have a7 : wr.cell? ⟨w.heap.size + 1, 7, none⟩ = some (.string e2) := (blk_cell BZ.out 7).trans rfl
      have r0 : wr.cell? ⟨w.heap.size, 0, none⟩ = some (.int .i64 0) := (blk_cell BR.out 0).trans rfl
      have r1 : wr.cell? ⟨w.heap.size, 1, none⟩ = some (.int .i64 0) := (blk_cell BR.out 1).trans rfl
      have r2 : wr.cell? ⟨w.heap.size, 2, none⟩ = some (.bool false) := (blk_cell BR.out 2).trans rfl
      have r3 : wr.cell? ⟨w.heap.size, 3, none⟩ = some (.int .i64 0) := (blk_cell BR.out 3).trans rfl
      have r4 : wr.cell? ⟨w.heap.size, 4, none⟩ = some (.string ByteArray.empty) := (blk_cell BR.out 4).trans rfl
      have r5 : wr.cell? ⟨w.heap.size, 5, none⟩ = some (.bool false) := (blk_cell BR.out 5).trans rfl
      have r6 : wr.cell? ⟨w.heap.size, 6, none⟩ = some (.int .i64 0) := (blk_cell BR.out 6).trans rfl
      have r7 : wr.cell? ⟨w.heap.size, 7, none⟩ = some (.string ByteArray.empty) := (blk_cell BR.out 7).trans rfl
      have f0 := blk_frozen BR.out 0
      have f1 := blk_frozen BR.out 1
      have f2 := blk_frozen BR.out 2
      have f3 := blk_frozen BR.out 3
      have f4 := blk_frozen BR.out 4
      have f5 := blk_frozen BR.out 5
      have f6 := blk_frozen BR.out 6
      have f7 := blk_frozen BR.out 7
      go_wp2_with fail
      have hB9 := below_set (j := 7) (v := .string e2) (below_set (j := 6) (v := .int .i64 e1) (below_set (j := 5) (v := .bool e0) (below_set (j := 4) (v := .string d2) (below_set (j := 3) (v := .int .i64 d1) (below_set (j := 2) (v := .bool d0) (below_set (j := 1) (v := .int .i64 z1) (below_set (j := 0) (v := .int .i64 (l0.length : Int)) HB.out (Nat.le_refl w.heap.size)) (Nat.le_refl w.heap.size)) (Nat.le_refl w.heap.size)) (Nat.le_refl w.heap.size)) (Nat.le_refl w.heap.size)) (Nat.le_refl w.heap.size)) (Nat.le_refl w.heap.size)) (Nat.le_refl w.heap.size)
      have BW := set_eight wr w.heap.size _ _ _ _ _ _ _ _ (.int .i64 (l0.length : Int)) (.int .i64 z1) (.bool d0) (.int .i64 d1) (.string d2) (.bool e0) (.int .i64 e1) (.string e2) _ BR.out
      clear a0 a1 a2 a3 a4 a5 a6 a7 r0 r1 r2 r3 r4 r5 r6 r7 f0 f1 f2 f3 f4 f5 f6 f7 BR BZ BP HB
      generalize World.setCell _ _ _ = W8 at hB9 BW ⊢
      refine bodyPost_ret (results_cell_row rfl _ _ w.heap.size 25 _ (0, 0) _ rfl BW hu2 rfl (by kernel_rfl)) rfl ⟨?_, hB9⟩
      rw [← HE3.out, show z0 = (l0.length : Int) from hz0]
      rfl
    | succ k2 =>
      have hlt : i < l0.length := by omega
      have hb : decide ((i : Int) < (l0.length : Int)) = true := decide_eq_true (by omega)
      have hb2 : decide (i < l0.length) = true := decide_eq_true hlt
      obtain ⟨ad, e1, hx0, hx1, hx2⟩ := at_T23 (Kd.C_below HR0.out HB.out) (i : Int) (by omega) (by omega)
      cases e1
      have hrd : rd_T23 l0 (i : Int) = l0.getD i z23 := by rw [rd_T23, Int.toNat_natCast]
      rw [hrd, Int.toNat_natCast] at hx0 hx1 hx2
      have hE2 := HE.out
      rw [show l0.drop i = l0.getD i z23 :: l0.drop (i + 1) by rw [List.drop_eq_getElem_cons hlt]; simp [List.getD, hlt], noteAll] at hE2
      generalize l0.getD i z23 = x at hx0 hx1 hx2 hE2
      have HE2 := Aside0.mk hE2
      clear hrd hE2 HE
      obtain ⟨z0, z1, lo, hi2⟩ := z
      go_wp2_with fail
      have hk := noteR_le z0 z1 lo hi2 x
      refine (zone_note.calls (w.heap.size + 1 + 1) (w.heap.size + 1) z0 z1 lo hi2 x _ (blk_alloc BP.out _) (blk_alloc BZ.out _) (by omega) w (below_alloc HB.out _) (by omega) ⟨by omega, by omega⟩ ⟨by omega, by omega⟩).mono ?_
      rintro e w3 ⟨rfl, hz3, hk3, hb3⟩
      have BP3 := Aside0.mk ((hk3.2 _ (blk_lt (blk_alloc BP.out _)) (by omega) (by simp)).trans (blk_alloc BP.out _))
      have BR3 := Aside0.mk ((hk3.2 _ (blk_lt (blk_alloc BR.out _)) (by omega) (by simp)).trans (blk_alloc BR.out _))
      have HB3 := Aside0.mk hb3
      have BZ3 := Aside0.mk hz3
      clear hz3 hk3 hb3 BP BR HB BZ hx0 hx1 hx2
      go_wp2_with fail
      go_roundg k2
      case measure => omega
      case rel => exact ⟨i + 1, noteR z0 z1 lo hi2 x, by go_num, by omega, by rw [hk.1]; omega, ⟨by rcases hk.2 with h | h <;> rw [h] <;> omega, by rcases hk.2 with h | h <;> rw [h] <;> omega⟩, HE2, BZ3, BP3, BR3, HB3⟩
def zone_Of.f (l0 : List S23) : Option (Int × Int × Bool × Int × ByteArray × Bool × Int × ByteArray) := if l0.length < 1000000 then some ((noteAll zc0 l0).1, (noteAll zc0 l0).2.1, (noteAll zc0 l0).2.2.1.f0, (noteAll zc0 l0).2.2.1.f1, (noteAll zc0 l0).2.2.1.f2, (noteAll zc0 l0).2.2.2.f0, (noteAll zc0 l0).2.2.2.f1, (noteAll zc0 l0).2.2.2.f2) else none
theorem zone_Of.calls (A0 : Option Addr) (c0 : Nat) (l0 : List S23) (r1 r2 : Int) (r3 : Bool) (r4 : Int) (r5 : ByteArray) (r6 : Bool) (r7 : Int) (r8 : ByteArray) (w : World) (hr0 : Kd.C k23 w A0 l0.length l0) (hc0 : l0.length ≤ c0) (h : zone_Of.f l0 = some (r1, r2, r3, r4, r5, r6, r7, r8)) :
    Calls Try.prog 57 #[.slice A0 l0.length c0] w fun e w' => e = .returned (.agg #[.int .i64 r1, .int .i64 r2, .bool r3, .int .i64 r4, .string r5, .bool r6, .int .i64 r7, .string r8]) ∧ Below w.heap.size w w' := by
  unfold zone_Of.f at h
  by_cases hl : l0.length < 1000000
  · rw [if_pos hl] at h
    simp only [Option.some.injEq, Prod.mk.injEq] at h
    obtain ⟨rfl, rfl, rfl, rfl, rfl, rfl, rfl, rfl⟩ := h
    exact zone_Of.note A0 c0 0 l0 w hr0 hc0 hl
  · rw [if_neg hl] at h; cases h
end Go.Proofs.Ytkdlfejokahohaa.X
