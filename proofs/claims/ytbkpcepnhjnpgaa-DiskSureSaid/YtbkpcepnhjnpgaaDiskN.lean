/- The contract of disk.now: how a sector is. -/
import Derived.Test.YtbkpcepnhjnpgaaDiskB
import Derived.Test.YtbkpcepnhjnpgaaDev
import Derived.Maps.OwnOps
namespace Go.Proofs.Ytbkpcepnhjnpgaa.X
open Go.RowKit Go.Maps Go.Proofs.YtbkpcepnhjnpgaaW.PrintWords Go.Proofs.YtbkpcepnhjnpgaaW.PrintLast Go.Proofs.YtbkpcepnhjnpgaaW.PrintMore
set_option linter.unusedVariables false
set_option linter.unusedSimpArgs false
theorem dk_key : Keyed Try.prog 3 := int_keyed Try.underlying3
theorem dkey_of (i : Nat) (h : i < 1024) : keyOf Try.prog 3 (.int .i64 (i : Int)) = some (dkey i) := keyOf_int_mk Try.underlying3 (by
  have h1 : IntKind.min .i64 = -9223372036854775808 := by decide
  have h2 : IntKind.max .i64 = 9223372036854775807 := by decide
  show (decide (IntKind.min .i64 ≤ (i : Int)) && decide ((i : Int) ≤ IntKind.max .i64)) = true
  rw [h1, h2, Bool.and_eq_true, decide_eq_true_eq, decide_eq_true_eq]
  omega)
def zbytes : List Int := List.replicate 64 0
def zsec : Array Value := secC zbytes
theorem zsec_zero (w : World) : (zeroValue 124).run Try.prog w = .ok (.agg zsec) w := by kernel_rfl
theorem zsec_size : zsec.size = 64 := by decide
theorem own_kept {P : Nat → Prop} {a b : World} {k : TypeId} {R : Value → Option (DataW Value × List MemPlace)} {g n : Nat} {D : DataW Value} (h : a.ownsMap Try.prog k R g n D) (hf : Fr P a b) (hp : P g) : b.ownsMap Try.prog k R g n D := by
  obtain ⟨es, clock, h1, h2⟩ := h
  exact ⟨es, clock, hf.kept h1 hp, h2⟩
theorem sec_agg (w : World) : (isAgg 124).run Try.prog w = .ok true w := by kernel_rfl
theorem sec_sizeOf (w : World) : (sizeOf 124).run Try.prog w = .ok 64 w := by kernel_rfl
theorem sec_size : (Try.prog.info? 124).map (·.size) = some 64 := by kernel_rfl
theorem run_load_sec (w : World) (g of : Nat) (arr : Array Value) (e : TypeId) (fr : Nat × Nat) (xs : List Int) (hh : w.heap[g]? = some (.cells arr e fr)) (hl : xs.length = 64) (hx : ∀ j, j < 64 → arr[of + j]? = some (.int .u8 (xs.getD j 0))) :
    (Instr.loadAt 124 (.pointer (some ⟨g, of, none⟩))).run Try.prog w = .ok (.agg (secC xs)) w := by
  have hc := run_loadCells_list (P := Try.prog) w ⟨g, of, none⟩ (xs.map (Value.int .u8)) (fun j v hv => by
    have hj : j < 64 := by
      have := (List.getElem?_eq_some_iff.1 hv).1
      rw [List.length_map] at this; omega
    have ea : (⟨g, of, none⟩ : Addr).add j = ⟨g, of + j, none⟩ := by unfold Addr.add; split <;> simp_all
    rw [ea, cell_of_row w g (of + j) arr e fr hh, hx j hj, ← hv, List.getElem?_map, List.getD_eq_getElem?_getD]
    rw [List.getElem?_eq_getElem (by omega)]; rfl)
  rw [List.length_map, hl] at hc
  simp only [Instr.loadAt, Instr.sureAddr, loadVar, Sem.run_bind, Sem.run_pure, Result.andThen_ok, sec_agg, sec_sizeOf, if_true, hc]
  rfl
theorem u8_size : (Try.prog.info? 5).map (·.size) = some 1 := by kernel_rfl
theorem secC_seg (xs : List Int) : (Value.agg (secC xs)).cells.toList = xs.map (Value.int .u8) := by simp [Value.cells, secC]
theorem seg_one (xs : List Int) : ∀ q ∈ xs.map (Value.int .u8), q.oneCell' = true := by
  intro q hq
  obtain ⟨x, _, rfl⟩ := List.mem_map.mp hq
  rfl
theorem whole_row {arr arr' : Array Value} {xs : List Int} (hl : xs.length = 64) (h0 : arr.size = 64) (h : arr'.toList = arr.toList.take 0 ++ xs.map (Value.int .u8) ++ arr.toList.drop (0 + (xs.map (Value.int .u8)).length)) : ∀ j, j < 64 → arr'[0 + j]? = some (.int .u8 (xs.getD j 0)) := by
  intro j hj
  rw [Nat.zero_add, ← Array.getElem?_toList, h, List.take_zero, List.nil_append, List.length_map, hl, List.drop_of_length_le (by simp [h0]), List.append_nil, List.getElem?_map, List.getD_eq_getElem?_getD, List.getElem?_eq_getElem (by omega)]
  rfl
theorem whole_row2 {arr arr' : Array Value} {xs : List Int} (hl : xs.length = 64) (h0 : arr.size = 64) (h : arr'.toList = arr.toList.take 0 ++ xs.map (Value.int .u8) ++ arr.toList.drop (0 + (xs.map (Value.int .u8)).length)) : arr' = secC xs := by
  apply Array.ext'
  rw [h, List.take_zero, List.nil_append, List.length_map, hl, List.drop_of_length_le (by simp [h0]), List.append_nil]
  simp [secC]
theorem sec_get (xs : List Int) (h : xs.length = 64) : ∀ j, j < 64 → (secC xs)[0 + j]? = some (.int .u8 (xs.getD j 0)) := by
  intro j hj
  rw [Nat.zero_add, ← Array.getElem?_toList]
  simp only [secC]
  rw [List.getElem?_map, List.getD_eq_getElem?_getD, List.getElem?_eq_getElem (by omega)]
  rfl
theorem zb_len : zbytes.length = 64 := rfl
theorem sec_read {v : Value} {c : Array Value} {ps : List MemPlace} (h : secR v = some (.held (.agg c), ps)) : v = .agg c := by
  obtain ⟨cs, rfl, _, hz⟩ := secR_inv h
  injection hz with hz _
  injection hz with hz
  exact hz.symm
set_option maxRecDepth 100000 in
theorem disk_now.calls (b : Nat) (d : DS) (i : Nat) (w : World) (h : IsD w b d) (hi : i < d.n) :
    Calls Try.prog 78 #[.pointer (some ⟨b, 0, none⟩), .int .i64 (i : Int)] w fun e w' => e = .returned (.agg (secC (d.now i))) ∧ Fr (fun _ => True) w w' := by
  obtain ⟨hb, ⟨arr, hs, hsz, hse, hsl⟩, ⟨D, hown, hwt, hks⟩, hn⟩ := h
  have h2 : w.cell? ⟨b, 2, none⟩ = some (.map (some d.bm)) := (blk_cell hb 2).trans rfl
  have hu := Try.underlying81
  have hk := dkey_of i (by omega)
  have HB := Aside0.mk hb
  have HS := Aside0.mk hs
  have HSE := Aside0.mk (hse i hi)
  have HSL := Aside0.mk (hsl i hi)
  have HO := Aside0.mk hown
  have HWT := Aside0.mk (hwt i hi)
  have HK := Aside0.mk hk
  clear hb hs hsz hse hsl hown hwt hks hn hk
  go_enter Try.func78, Try.ntmps78
  cases hwi : d.wait i with
  | none =>
    rw [hwi] at HWT
    have HH := Aside0.mk (show has D (dkey i) = false from HWT.out)
    have HN := Aside0.mk (show d.now i = d.sure i by unfold DS.now; rw [hwi]; rfl)
    clear HWT hwi
    go_wp2_with (first
      | (refine gate_ (.alloc 124) rfl ?_; refine wp_alloc_ rfl _ rfl (.agg zsec) (zsec_zero _) ?_; intro w2 hz2 hf2 hs2; have HF2 := Aside0.mk (HF1.out.trans hf2); have HZ2 := Aside0.mk hz2; have HZ1' := Aside0.mk (hf2.kept HZ1.out trivial); have HNE := Aside0.mk (show w.heap.size ≠ w1.heap.size by have h8 := (Array.getElem?_eq_some_iff.1 HZ1.out).1; omega); clear h2 hz2 hf2 hs2)
      | (refine gate_ (.alloc 124) rfl ?_; refine wp_alloc_ rfl _ rfl (.agg zsec) (zsec_zero _) ?_; intro w1 hz1 hf1 hs1; have HF1 := Aside0.mk hf1; have HZ1 := Aside0.mk hz1; have h2 : w1.cell? ⟨b, 2, none⟩ = some (.map (some d.bm)) := (blk_cell (hf1.kept HB.out trivial) 2).trans rfl; clear hz1 hf1 hs1)
      | (at_lookup; refine wpList_lookup_own_ok _ rfl _ _ 79 rfl 3 124 dk_key Try.underlying79 _ (zsec_zero _) (.held (.agg zsec)) [] (secR_mk _ zsec_size) d.bm d.cnt D rfl (own_kept HO.out HF1.out trivial) _ _ rfl HK.out ?_; intro v ps hv; rw [atKey_of_not_has HH.out] at hv; rw [HH.out]; obtain rfl := sec_read hv; clear hv)
      | (refine gate_ (.store 124 (.tmp 5) (.tmp 14)) rfl ?_; refine wp_store_ rfl rfl _ _ _ rfl (.agg (secC zbytes)) ((zbytes).map (.int .u8)) rfl rfl (secC_seg _) HZ2.out (by rw [List.length_map, zb_len]; exact sec_size) (by rw [List.length_map, zb_len]; exact Nat.le_of_eq zsec_size.symm) (seg_one _) ?_; intro w3 arr3 e1 e2 e3 e4 e5; obtain rfl := whole_row2 (zb_len) zsec_size e3; have HF3 := Aside0.mk (HF2.out.step e4 (fun k hk _ => by have h9 := (Array.getElem?_eq_some_iff.1 HZ1.out).1; omega)); have HX3 := Aside0.mk e1; have HZ3 := Aside0.mk (e4.kept HZ1'.out HNE.out); have h1 : w3.cell? ⟨b, 1, none⟩ = some (.slice (some ⟨d.bs, 0, none⟩) d.n d.n) := (blk_cell (HF3.out.kept HB.out trivial) 1).trans rfl; clear e1 e2 e3 e4 e5)
      | (refine gate_ (.load 124 (.tmp 23)) rfl ?_; refine wp_load_ rfl _ _ rfl _ _ rfl (run_load_sec w3 d.bs (i * 64) arr _ _ (d.sure i) (HF3.out.kept HS.out trivial) HSL.out HSE.out) ?_)
      | (refine gate_ (.store 124 (.tmp 4) (.tmp 24)) rfl ?_; refine wp_store_ rfl rfl _ _ _ rfl (.agg (secC (d.sure i))) (((d.sure i)).map (.int .u8)) rfl rfl (secC_seg _) HZ3.out (by rw [List.length_map, HSL.out]; exact sec_size) (by rw [List.length_map, HSL.out]; exact Nat.le_of_eq zsec_size.symm) (seg_one _) ?_; intro w4 arr4 e1 e2 e3 e4 e5; obtain rfl := whole_row2 (HSL.out) zsec_size e3; have HF4 := Aside0.mk (HF3.out.step e4 (fun k hk _ => Nat.ne_of_lt hk)); have HX4 := Aside0.mk e1; clear e1 e2 e3 e4 e5))
    refine bodyPost_ret (results_cell_row rfl _ _ w.heap.size 124 (secC (d.sure i)) (0, 0) _ rfl HX4.out Try.underlying124 rfl (by rw [secC_size, HSL.out]; exact sec_size)) rfl ?_
    exact ⟨by rw [HN.out], HF4.out⟩
  | some xs =>
    rw [hwi] at HWT
    have HH := Aside0.mk (show has D (dkey i) = true from HWT.out.1)
    have HAT := Aside0.mk HWT.out.2.1
    have HXL := Aside0.mk HWT.out.2.2
    have HN := Aside0.mk (show d.now i = xs by unfold DS.now; rw [hwi]; rfl)
    clear HWT hwi
    go_wp2_with (first
      | (refine gate_ (.alloc 124) rfl ?_; refine wp_alloc_ rfl _ rfl (.agg zsec) (zsec_zero _) ?_; intro w2 hz2 hf2 hs2; have HF2 := Aside0.mk (HF1.out.trans hf2); have HZ2 := Aside0.mk hz2; have HZ1' := Aside0.mk (hf2.kept HZ1.out trivial); have HNE := Aside0.mk (show w.heap.size ≠ w1.heap.size by have h8 := (Array.getElem?_eq_some_iff.1 HZ1.out).1; omega); clear h2 hz2 hf2 hs2)
      | (refine gate_ (.alloc 124) rfl ?_; refine wp_alloc_ rfl _ rfl (.agg zsec) (zsec_zero _) ?_; intro w1 hz1 hf1 hs1; have HF1 := Aside0.mk hf1; have HZ1 := Aside0.mk hz1; have h2 : w1.cell? ⟨b, 2, none⟩ = some (.map (some d.bm)) := (blk_cell (hf1.kept HB.out trivial) 2).trans rfl; clear hz1 hf1 hs1)
      | (at_lookup; refine wpList_lookup_own_ok _ rfl _ _ 79 rfl 3 124 dk_key Try.underlying79 _ (zsec_zero _) (.held (.agg zsec)) [] (secR_mk _ zsec_size) d.bm d.cnt D rfl (own_kept HO.out HF1.out trivial) _ _ rfl HK.out ?_; intro v ps hv; rw [HAT.out] at hv; rw [HH.out]; obtain rfl := sec_read hv; clear hv)
      | (refine gate_ (.store 124 (.tmp 5) (.tmp 14)) rfl ?_; refine wp_store_ rfl rfl _ _ _ rfl (.agg (secC xs)) ((xs).map (.int .u8)) rfl rfl (secC_seg _) HZ2.out (by rw [List.length_map, HXL.out]; exact sec_size) (by rw [List.length_map, HXL.out]; exact Nat.le_of_eq zsec_size.symm) (seg_one _) ?_; intro w3 arr3 e1 e2 e3 e4 e5; obtain rfl := whole_row2 (HXL.out) zsec_size e3; have HF3 := Aside0.mk (HF2.out.step e4 (fun k hk _ => by have h9 := (Array.getElem?_eq_some_iff.1 HZ1.out).1; omega)); have HX3 := Aside0.mk e1; have HZ3 := Aside0.mk (e4.kept HZ1'.out HNE.out); have h1 : w3.cell? ⟨b, 1, none⟩ = some (.slice (some ⟨d.bs, 0, none⟩) d.n d.n) := (blk_cell (HF3.out.kept HB.out trivial) 1).trans rfl; clear e1 e2 e3 e4 e5)
      | (refine gate_ (.load 124 (.tmp 5)) rfl ?_; refine wp_load_ rfl _ _ rfl _ _ rfl (run_load_sec w3 w1.heap.size 0 _ _ _ xs HX3.out HXL.out (sec_get xs HXL.out)) ?_)
      | (refine gate_ (.store 124 (.tmp 4) (.tmp 17)) rfl ?_; refine wp_store_ rfl rfl _ _ _ rfl (.agg (secC xs)) ((xs).map (.int .u8)) rfl rfl (secC_seg _) HZ3.out (by rw [List.length_map, HXL.out]; exact sec_size) (by rw [List.length_map, HXL.out]; exact Nat.le_of_eq zsec_size.symm) (seg_one _) ?_; intro w4 arr4 e1 e2 e3 e4 e5; obtain rfl := whole_row2 (HXL.out) zsec_size e3; have HF4 := Aside0.mk (HF3.out.step e4 (fun k hk _ => Nat.ne_of_lt hk)); have HX4 := Aside0.mk e1; clear e1 e2 e3 e4 e5))
    refine bodyPost_ret (results_cell_row rfl _ _ w.heap.size 124 (secC xs) (0, 0) _ rfl HX4.out Try.underlying124 rfl (by rw [secC_size, HXL.out]; exact sec_size)) rfl ?_
    exact ⟨by rw [HN.out], HF4.out⟩
end Go.Proofs.Ytbkpcepnhjnpgaa.X
