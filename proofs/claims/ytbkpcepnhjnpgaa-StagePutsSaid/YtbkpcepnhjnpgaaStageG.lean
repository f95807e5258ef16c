/- The contract of stage.Get: what was staged. -/
import Derived.Test.YtbkpcepnhjnpgaaStageP
import Derived.Test.YtbkpcepnhjnpgaaDiskR
namespace Go.Proofs.Ytbkpcepnhjnpgaa.X
open Go.RowKit Go.Maps Go.Proofs.YtbkpcepnhjnpgaaW.PrintWords Go.Proofs.YtbkpcepnhjnpgaaW.PrintLast Go.Proofs.YtbkpcepnhjnpgaaW.PrintMore
set_option linter.unusedVariables false
set_option linter.unusedSimpArgs false
set_option maxRecDepth 100000 in
theorem stage_Get.bad (p : Value) (i : Int) (w : World) (h : Calls Try.prog 62 #[p] w fun e w' => e = .returned (.bool false) ∧ w' = w) : Calls Try.prog 21 #[p, .int .i64 i] w fun e w' => e = .returned (.tuple #[.string ⟨#[]⟩, .slice none 0 0, .int .i64 9]) ∧ w' = w := by
  have H := Aside0.mk h
  clear h
  go_enter Try.func21, Try.ntmps21
  go_wp2_with fail
  refine H.out.mono ?_
  rintro e w' ⟨rfl, rfl⟩
  go_wp2_with fail
  go_ret3
  exact ⟨rfl, rfl⟩
set_option maxRecDepth 100000 in
theorem stage_Get.out (b : Nat) (t : TS) (i : Int) (w : World) (h : IsT w b t) (hi : i < 0 ∨ (t.its.length : Int) ≤ i) : Calls Try.prog 21 #[.pointer (some ⟨b, 0, none⟩), .int .i64 i] w fun e w' => e = .returned (.tuple #[.string ⟨#[]⟩, .slice none 0 0, .int .i64 5]) ∧ w' = w := by
  obtain ⟨A, c, hb, hr⟩ := h
  have HB := Aside0.mk hb
  generalize t.its.length = m at hb hr hi HB ⊢
  have h4 : w.cell? ⟨b, 4, none⟩ = some (.slice A m c) := (blk_cell hb 4).trans rfl
  have hu := Try.underlying47
  obtain ⟨t1, c1⟩ : ∃ t : Bool, decide (i < 0) = t := ⟨_, rfl⟩
  obtain ⟨t2, c2⟩ : ∃ t : Bool, decide (i ≥ (m : Int)) = t := ⟨_, rfl⟩
  have HT : Aside0 ((t1 || t2) = true) := ⟨by rw [← c1, ← c2]; simpa using hi⟩
  clear hb hr hi
  cases t1 <;> cases t2
  case false.false => exact absurd HT.out (by decide)
  all_goals (
    go_enter Try.func21, Try.ntmps21
    go_wp2_with fail
    refine (stage_is.calls b t _ w HB.out).mono ?_
    rintro e w' ⟨rfl, rfl⟩
    go_wp2_with fail
    go_ret3
    exact ⟨rfl, rfl⟩)
def itC (x : It) : Array Value := #[.string x.f0, .int .i64 x.f1, .int .i64 x.f2, .int .u32 x.f3]
theorem item_cells {w : World} {B : Nat} {ok : Nat → Prop} {A : Option Addr} {n c i : Nat} {xs : List It} (h : Kd.R kIt 111 w B ok (.slice A n c) xs) (hi : i < xs.length) :
    ∃ g, A = some ⟨g, 0, none⟩ ∧ ∀ j, j < 4 → w.cell? ⟨g, i * 4 + j, none⟩ = (itC xs[i])[j]? := by
  obtain ⟨hn, hc, hC⟩ := Kd.R_reads' h
  obtain ⟨inner, hown⟩ := Kd.R_own h
  obtain ⟨ad, cs, eA, hl, hK, hcell⟩ := Kd.C_get hC ⟨⟨#[]⟩, 0, 0, 0⟩ (i : Int) (by omega) (by omega)
  rw [Int.toNat_natCast] at hK hcell
  have ex : xs.getD i ⟨⟨#[]⟩, 0, 0, 0⟩ = xs[i] := by rw [List.getD_eq_getElem?_getD, List.getElem?_eq_getElem hi]; rfl
  rw [ex] at hK
  obtain ⟨c0, c1, rfl, h0, c2, c3, rfl, h2, c4, c5, rfl, h4, h5⟩ := hK
  rcases hown.2 with ⟨e, _⟩ | ⟨g, cap, cur, e, _⟩
  · injection e with e _ _; rw [eA] at e; cases e
  · injection e with e _ _
    rw [eA] at e
    injection e with e
    subst e
    refine ⟨g, eA, fun j hj => ?_⟩
    have h9 : c0 ++ (c2 ++ (c4 ++ c5)) = [.string xs[i].f0, .int .i64 xs[i].f1, .int .i64 xs[i].f2, .int .u32 xs[i].f3] := by
      rw [show c0 = [.string xs[i].f0] from h0, show c2 = [.int .i64 xs[i].f1] from h2, show c4 = [.int .i64 xs[i].f2] from h4, show c5 = [.int .u32 xs[i].f3] from h5]; rfl
    rw [h9] at hcell
    match j, hj with
    | 0, _ => have := hcell 0 _ rfl; rw [add_plain] at this; exact this
    | 1, _ => have := hcell 1 _ rfl; rw [add_plain] at this; exact this
    | 2, _ => have := hcell 2 _ rfl; rw [add_plain] at this; exact this
    | 3, _ => have := hcell 3 _ rfl; rw [add_plain] at this; exact this
theorem it_agg (w : World) : (isAgg 111).run Try.prog w = .ok true w := by kernel_rfl
theorem it_sizeOf (w : World) : (sizeOf 111).run Try.prog w = .ok 4 w := by kernel_rfl
theorem it_size : (Try.prog.info? 111).map (·.size) = some 4 := by kernel_rfl
theorem run_load_item (w : World) (g o : Nat) (x : It) (h : ∀ j, j < 4 → w.cell? ⟨g, o + j, none⟩ = (itC x)[j]?) :
    (Instr.loadAt 111 (.pointer (some ⟨g, o, none⟩))).run Try.prog w = .ok (.agg (itC x)) w := by
  have hc := run_loadCells_list (P := Try.prog) w ⟨g, o, none⟩ (itC x).toList (fun j v hv => by
    have hj : j < 4 := (List.getElem?_eq_some_iff.1 hv).1
    rw [Mem.add_plain2, h j hj, ← hv, Array.getElem?_toList])
  simp only [Instr.loadAt, Instr.sureAddr, loadVar, Sem.run_bind, Sem.run_pure, Result.andThen_ok, it_agg, it_sizeOf, if_true]
  have e4 : (itC x).toList.length = 4 := rfl
  rw [e4] at hc
  rw [hc]
  rfl
theorem it_one (x : It) : ∀ q ∈ (itC x).toList, q.oneCell' = true := by
  intro q hq
  simp only [itC, List.mem_cons, List.not_mem_nil, or_false] at hq
  rcases hq with rfl | rfl | rfl | rfl <;> rfl
def zIt : It := ⟨⟨#[]⟩, 0, 0, 0⟩
theorem it_fit (x : It) : 0 + (itC x).toList.length ≤ ((Value.agg (itC zIt)).cells).size := Nat.le_refl 4
theorem it_zero (w : World) : (zeroValue 111).run Try.prog w = .ok (.agg (itC zIt)) w := by kernel_rfl
theorem it_row {arr : Array Value} {x : It} (h : arr.toList = (Value.agg (itC zIt)).cells.toList.take 0 ++ (itC x).toList ++ (Value.agg (itC zIt)).cells.toList.drop (0 + (itC x).toList.length)) : arr = itC x :=
  Array.ext' (h.trans (List.append_nil _))
theorem wrap_sum (a b c : Nat) (h : a + b + c ≤ 100000) : IntKind.i64.wrap (IntKind.i64.wrap ((a : Int) + (b : Int)) + (c : Int)) = ((a + b + c : Nat) : Int) := by
  have h1 : IntKind.i64.wrap ((a : Int) + (b : Int)) = ((a + b : Nat) : Int) := by rw [IntKind.wrap_i64]; omega
  rw [h1, IntKind.wrap_i64]
  omega
theorem C_of_sec {w : World} {g : Nat} {xs : List Int} {e : TypeId} (hb : w.heap[g]? = some (.cells (secC xs) e (0, 0))) (hl : xs.length = 64) : Kd.C (Kd.int .u8) w (some ⟨g, 0, none⟩) 64 xs := by
  have h := Mem.C_ints (k := .u8) hb (xs := xs) (fun i hi => by
    have h := sec_get xs hl i (by omega)
    rwa [Nat.zero_add] at h) (by omega)
  rwa [hl] at h
theorem run_cut_hm (W : World) (A : Option Addr) (n c m : Nat) (h : m ≤ c) :
    (Instr.slice 35 (.slice A n c) none (some (.int .i64 (m : Int))) (some (.int .i64 (m : Int)))).run Try.prog W = .ok (.slice A m m) W := by
  have ht := Try.underlying35
  have hel : Try.prog.elem 35 = 5 := by simp [Program.elem, ht]
  have hu : Try.prog.underlying 35 = some (.slice (Try.prog.elem 35)) := by rw [hel]; exact ht
  obtain ⟨i0, hi, hzz⟩ := Option.map_eq_some_iff.1 u8_info
  simp only [Prod.mk.injEq] at hzz
  rw [run_slice_hm (P := Try.prog) (w := W) 35 A n c hu .i64 .i64 (m : Int) (m : Int) (by omega) (by omega) (by omega), hel]
  simp [sizeOf, typeInfo, hi, hzz.2.1, sliced, Result.andThen, Addr.add]
/-- The bytes of k sectors from one on. -/
def secs (d : DS) (base k : Nat) : List Int := (List.range k).flatMap fun j => d.now (base + j)
theorem secs_succ (d : DS) (base k : Nat) : secs d base (k + 1) = secs d base k ++ d.now (base + k) := by
  unfold secs; rw [List.range_succ, List.flatMap_append]; simp
theorem secs_len (d : DS) (base : Nat) (h : ∀ j, j < d.n → (d.now j).length = 64) : ∀ k, base + k ≤ d.n → (secs d base k).length = k * 64
  | 0, _ => rfl
  | k + 1, hk => by rw [secs_succ, List.length_append, secs_len d base h k (by omega), h _ (by omega)]; omega
set_option maxHeartbeats 16000000 in
set_option maxRecDepth 100000 in
theorem stage_Get.calls (K0 : Nat) (b : Nat) (t : TS) (d : DS) (i at_ sz : Nat) (s : Int) (w : World) (hT : IsT w b t) (hD : IsD w t.bd d) (hL : Live w d.bw) (hi : i < t.its.length) (h1 : t.its[i].f1 = (at_ : Int)) (h2 : t.its[i].f2 = (sz : Int)) (hz : 1 ≤ sz) (hl : sz ≤ 60000) (hfit : t.frm + at_ + nsec sz ≤ d.n) (hdl : ∀ j, j < d.n → (d.now j).length = 64)
    (hcrc : crc_Of.f K0 [(secs d (t.frm + at_) (nsec sz)).take sz] = some s) :
    Calls Try.prog 21 #[.pointer (some ⟨b, 0, none⟩), .int .i64 (i : Int)] w fun e w' => ((s = t.its[i].f3 ∧ ∃ A, e = .returned (.tuple #[.string t.its[i].f0, .slice A sz sz, .int .i64 0]) ∧ Kd.C (Kd.int .u8) w' A sz ((secs d (t.frm + at_) (nsec sz)).take sz)) ∨ (s ≠ t.its[i].f3 ∧ e = .returned (.tuple #[.string ⟨#[]⟩, .slice none 0 0, .int .i64 13]))) ∧ Fr (fun _ => True) w w' := by
  obtain ⟨A, c, hb, hr⟩ := hT
  obtain ⟨g, rfl, hcell⟩ := item_cells hr hi
  have hld := run_load_item w g (i * 4) _ hcell
  obtain ⟨x, hx⟩ : ∃ x, t.its[i] = x := ⟨_, rfl⟩
  rw [hx] at hld h1 h2 ⊢
  have HB := Aside0.mk hb
  have HLD := Aside0.mk hld
  have HX1 := Aside0.mk h1
  have HX2 := Aside0.mk h2
  have HD := Aside0.mk hD
  have HL := Aside0.mk hL
  have HSZ := Aside0.mk (And.intro hz hl)
  have HFIT := Aside0.mk hfit
  have HDL := Aside0.mk hdl
  have HCRC := Aside0.mk hcrc
  have HNL := Aside0.mk (show nsec sz ≤ 1024 by have := hD.2.2.2; omega)
  have HS := Aside0.mk (stage_sectors.same sz (by omega))
  obtain ⟨N, hN⟩ : ∃ N, nsec sz = N := ⟨_, rfl⟩
  have HNE := Aside0.mk hN
  rw [hN] at HS HFIT HCRC HNL ⊢
  have HNZ := Aside0.mk (show sz ≤ N * 64 by rw [← hN]; exact nsec_le _)
  clear hcell hx hr
  generalize t.its.length = m at hb hi HB ⊢
  have c1 : decide ((i : Int) < 0) = false := decide_eq_false (by omega)
  have c2 : decide ((i : Int) ≥ (m : Int)) = false := decide_eq_false (by omega)
  have c2b : decide (i ≥ m) = false := decide_eq_false (by omega)
  have c2c : decide (m ≤ i) = false := decide_eq_false (by omega)
  have hi0 : (0 : Int) ≤ (i : Int) := Int.natCast_nonneg _
  have hi1 : (i : Int) < (m : Int) := by omega
  have h4 : w.cell? ⟨b, 4, none⟩ = some (.slice (some ⟨g, 0, none⟩) m c) := (blk_cell hb 4).trans rfl
  have hu := Try.underlying47
  have hu2 := Try.underlying111
  clear hb hD hL hz hl hfit hdl hcrc hN hld h1 h2
  go_enter Try.func21, Try.ntmps21
  go_wp2_with fail
  refine (stage_is.calls b t _ w HB.out).mono ?_
  rintro e w' ⟨rfl, rfl⟩
  go_wp2_with (first
    | (refine gate_ (.load 111 (.tmp 34)) rfl ?_; refine wp_load_ rfl _ _ rfl _ _ rfl HLD.out ?_)
    | (refine gate_ (.alloc 111) rfl ?_; refine wp_alloc_ rfl _ rfl (.agg (itC zIt)) (it_zero _) ?_; intro w1 hz1 hf1 hs1; have HF1 := Aside0.mk hf1; have HZ1 := Aside0.mk hz1; clear h4 hz1 hf1 hs1)
    | (refine gate_ (.store 111 (.tmp 7) (.tmp 35)) rfl ?_; refine wp_store_ rfl rfl _ _ _ rfl (.agg (itC x)) (itC x).toList rfl rfl rfl HZ1.out it_size (it_fit x) (it_one x) ?_; intro w2 arr2 e1 e2 e3 e4 e5; obtain rfl := it_row e3; have HX3 := Aside0.mk e1; have h22 : w2.cell? ⟨w'.heap.size, 2, none⟩ = some (.int .i64 (sz : Int)) := (blk_cell e1 2).trans (congrArg (fun z => some (Value.int .i64 z)) HX2.out); have HF2 := Aside0.mk (HF1.out.step e4 (fun k hk _ => Nat.ne_of_lt hk)); clear e1 e2 e3 e4 e5))
  refine (HS.out _).mono ?_
  rintro e w3 ⟨rfl, rfl⟩
  have HB2 := Aside0.mk (HF2.out.kept HB.out trivial)
  have HD2 := Aside0.mk (HD.out.kept HF2.out trivial trivial trivial)
  have HL2 := Aside0.mk (HL.out.kept HF2.out trivial)
  clear h22
  go_wp2_with fail
  go_loopg [39, 8] (N + 1) (fun kq v39 v8 wr => ∃ (k : Nat), v39 = .int .i64 (k : Int) ∧ Aside0 (kq + k = N + 1) ∧ Aside0 (k ≤ N) ∧ Aside0 (Kd.R (Kd.int .u8) 5 wr w3.heap.size (fun _ => True) v8 (secs d (t.frm + at_) k)) ∧ Aside0 (Fr (fun _ => True) w3 wr))
  case atStart => exact ⟨0, rfl, ⟨by omega⟩, ⟨by omega⟩, ⟨Kd.R_nil _ _ _ _ _⟩, ⟨Fr.refl _ _⟩⟩
  case round =>
    obtain ⟨k, rfl, HK, HKI, HR, HFR⟩ := hrel
    cases gk with
    | zero => have h1 := HK.out; have h2 := HKI.out; omega
    | succ k2 =>
    have HBR := Aside0.mk (HFR.out.kept HB2.out trivial)
    have HXR := Aside0.mk (HFR.out.kept HX3.out trivial)
    by_cases hk : k < N
    · have c1 : decide ((k : Int) < (N : Int)) = true := decide_eq_true (by omega)
      have c1b : decide (k < N) = true := decide_eq_true hk
      have HKL := Aside0.mk hk
      obtain ⟨q, hq⟩ : ∃ q : Int, IntKind.i64.wrap (IntKind.i64.wrap ((t.frm : Int) + (at_ : Int)) + (k : Int)) = q := ⟨_, rfl⟩
      have HQE := Aside0.mk (show q = ((t.frm + at_ + k : Nat) : Int) by
        rw [← hq]; exact wrap_sum _ _ _ (by have := HFIT.out; have := HD.out.2.2.2; have := HKL.out; omega))
      have HW := Aside0.mk (show wrap64 ((k : Int) + 1) = ((k + 1 : Nat) : Int) by have := HNL.out; unfold wrap64; omega)
      clear hk
      go_wp2_with fail
      have hvo := @valOf_ok
      have HSX := Aside0.mk (show wr.drew.heap[b]? = _ ∧ wr.drew.heap[w'.heap.size]? = _ from ⟨HBR.out, HXR.out⟩)
      refine wp_region_mix 18 [(true, 0), (true, 1), (true, 2), (true, 3), (true, 4), (true, 5), (true, 6), (true, 7), (true, 8), (true, 9), (true, 10), (true, 11), (true, 12), (false, 13), (true, 14), (true, 15), (true, 16), (true, 17)] [18] (fun w9 => w9.heap[b]? = some (tBlk t (.slice (some ⟨g, 0, none⟩) m c)) ∧ w9.heap[w'.heap.size]? = some (.cells (itC x) 111 (0, 0))) (by kernel_rfl) (by kernel_rfl) (fun _ _ d _ _ h => by cases d <;> exact h) HSX.out ?_
      have HEX : ∃ w8, (fun w9 : World => w9.heap[b]? = some (tBlk t (.slice (some ⟨g, 0, none⟩) m c)) ∧ w9.heap[w'.heap.size]? = some (.cells (itC x) 111 (0, 0))) w8 := ⟨wr.drew, HSX.out⟩
      simp only [List.map_cons, List.map_nil, List.getD_cons_zero, List.getD_cons_succ]
      repeat (apply mix_held HEX; (case h => intro w9 hS J hJ; have h0 : w9.cell? ⟨b, 0, none⟩ = some (.pointer (some ⟨t.bd, 0, none⟩)) := (blk_cell hS.1 0).trans rfl; have h1 : w9.cell? ⟨b, 1, none⟩ = some (.int .i64 (t.frm : Int)) := (blk_cell hS.1 1).trans rfl; have h21 : w9.cell? ⟨w'.heap.size, 1, none⟩ = some (.int .i64 (at_ : Int)) := (blk_cell hS.2 1).trans (congrArg (fun z => some (Value.int .i64 z)) HX1.out); clear hS; go_simp; exact hJ))
      have HDR := Aside0.mk (show IsD wr.drew t.bd d from (HD2.out.kept HFR.out trivial trivial trivial).kept (Fr.refl (fun _ => True) wr).drew trivial trivial trivial)
      have HLR := Aside0.mk (show Live wr.drew d.bw from (HL2.out.kept HFR.out trivial).kept (Fr.refl (fun _ => True) wr).drew trivial)
      have HFD := Aside0.mk (HFR.out.drew)
      have HRD := Aside0.mk (R_fr HR.out (Fr.refl (fun _ => True) wr).drew (fun _ _ _ => trivial))
      clear HBR HXR HR HFR
      generalize wr.drew = w4 at HSX HDR HLR HFD HRD ⊢
      refine mix_step (fun K hK => ?_)
      have HK' := Aside0.mk hK
      clear hK hq
      obtain ⟨s4, hs1, hs2, hs3⟩ := HLR.out
      have HS1 := Aside0.mk hs1
      have HS2 := Aside0.mk hs2
      clear hs1 hs2 hs3
      go_wp2_with fail
      rw [HQE.out]
      refine (disk_Read.calls t.bd d s4 (t.frm + at_ + k) w4 HDR.out (by have := HFIT.out; have := HKL.out; omega) HS1.out HS2.out (HDL.out _ (by have := HFIT.out; have := HKL.out; omega))).mono ?_
      rintro e w5 ⟨g5, rfl, hg5, hh5, hf5⟩
      have HH5 := Aside0.mk hh5
      have HF5 := Aside0.mk (HFD.out.trans hf5)
      have HSX5 := Aside0.mk (show w5.heap[b]? = some (tBlk t (.slice (some ⟨g, 0, none⟩) m c)) ∧ w5.heap[w'.heap.size]? = some (.cells (itC x) 111 (0, 0)) from ⟨hf5.kept HSX.out.1 trivial, hf5.kept HSX.out.2 trivial⟩)
      have HR5 := Aside0.mk (R_fr HRD.out hf5 (fun _ _ _ => trivial))
      clear hg5 hh5 hf5 HRD HFD HDR HLR
      go_wp2_with fail
      refine HK'.out _ _ HSX5.out ?_
      clear HK' K
      repeat (apply mix_held HEX; (case h => intro w9 hS J hJ; clear hS; go_simp; exact hJ))
      refine mix_nil ?_
      refine post_step (fun K hK => ?_)
      have HK' := Aside0.mk hK
      clear hK
      go_wp2_with fail
      refine HK'.out _ _ (fun h => absurd h (by decide)) ?_
      clear HK' K HEX hvo
      refine post_nil ?_
      have HC5 := Aside0.mk (C_of_sec HH5.out (HDL.out _ (by have := HFIT.out; have := HKL.out; omega)))
      have HLS := Aside0.mk (secs_len d (t.frm + at_) HDL.out k (by have := HFIT.out; have := HKL.out; omega))
      go_wp2_with (first
        | ((with_reducible refine gate_builtin (b := .append) (xs := #[.tmp 62, .tmp 63]) rfl ?_); refine Kd.R_append_rows (Kd.int .u8) (w0 := w3) w3.heap.size rfl (.tmp 62) (.tmp 63) 35 5 (.int .u8 0) 1 rfl Try.underlying35 u8_info rfl (by decide) (by omega) u8 (secs d (t.frm + at_) k) (d.now (t.frm + at_ + k)) _ _ _ (fun _ => True) (fun _ => False) rfl rfl HR5.out HC5.out (fun _ _ h => h) (fun _ h => h.elim) (fun _ _ => trivial) (HF5.out.below (fun _ _ => trivial) (Nat.le_refl _)) HF5.out.size (by have := HLS.out; have := HNL.out; have := HKL.out; omega) ?_; intro v6 w6 ho hb6 hg6 hat6; rw [← secs_succ] at ho; have HO6 := Aside0.mk ho; have HF6 := Aside0.mk (show Fr (fun _ => True) w3 w6 from Fr.of_below hb6 (fun k hk _ => hk)); clear ho hb6 hg6 hat6))
      try rw [HW.out]
      go_roundg k2
      case measure => exact Nat.lt_succ_self _
      case rel => exact ⟨k + 1, rfl, ⟨by have := HK.out; omega⟩, ⟨by have := HKL.out; omega⟩, HO6, HF6⟩
    · have c1 : decide ((k : Int) < (N : Int)) = false := decide_eq_false (by omega)
      have c1b : decide (k < N) = false := decide_eq_false hk
      have hke : k = N := by have := HKI.out; omega
      subst hke
      have h22 : wr.cell? ⟨w'.heap.size, 2, none⟩ = some (.int .i64 (sz : Int)) := (blk_cell HXR.out 2).trans (congrArg (fun z => some (Value.int .i64 z)) HX2.out)
      obtain ⟨Ao, co, rfl, hco, hC⟩ := Kd.R_reads HR.out
      have HLS := Aside0.mk (secs_len d (t.frm + at_) HDL.out k (by have := HFIT.out; omega))
      have HCO := Aside0.mk hco
      have HCC := Aside0.mk hC
      have hcut := fun W => run_cut_hm W Ao (k * 64) co sz (by have := HNZ.out; have := HCO.out; have := HLS.out; omega)
      clear hk hco hC
      rw [HLS.out]
      obtain ⟨data, hdata⟩ : ∃ data, (secs d (t.frm + at_) k).take sz = data := ⟨_, rfl⟩
      have HDAT := Aside0.mk hdata
      have hdl : data.length = sz := by rw [← hdata, List.length_take, HLS.out]; have := HNZ.out; omega
      have HDLN := Aside0.mk hdl
      have HCD := Aside0.mk (show Kd.C (Kd.int .u8) wr Ao sz data from by
        have h := Kd.C_take HCC.out (m := sz) (by rw [HLS.out]; exact HNZ.out)
        rw [hdata, hdl] at h; exact h)
      rw [hdata] at HCRC
      clear hdata hdl
      go_wp2_with fail
      have hvo := @valOf_ok
      have HSX := Aside0.mk (show wr.drew.heap[w'.heap.size]? = _ from HXR.out)
      refine wp_region_plan 5 [0, 3, 4] [1, 2, 5] (fun w9 => w9.heap[w'.heap.size]? = some (.cells (itC x) 111 (0, 0))) (by kernel_rfl) (by kernel_rfl) (fun _ _ d _ _ h => by cases d <;> exact h) HSX.out ?_
      have HEX : ∃ w8, (fun w9 : World => w9.heap[w'.heap.size]? = some (.cells (itC x) 111 (0, 0))) w8 := ⟨wr.drew, HSX.out⟩
      simp only [List.map_cons, List.map_nil, List.getD_cons_zero, List.getD_cons_succ]
      repeat (apply held_step HEX; (case h => intro w9 hS J hJ; have h23 : w9.cell? ⟨w'.heap.size, 3, none⟩ = some (.int .u32 x.f3) := (blk_cell hS 3).trans rfl; clear hS; go_simp; exact hJ))
      refine held_nil ?_
      have HFD := Aside0.mk (HFR.out.drew)
      have HCD4 := Aside0.mk (C_fr HCD.out (Fr.refl (fun _ => True) wr).drew (fun _ _ => trivial))
      clear HEX h22 HXR HBR HR HFR
      generalize wr.drew = w4 at HSX HFD HCD4 ⊢
      refine post_step (fun K hK => ?_)
      have HK' := Aside0.mk hK
      clear hK
      go_wp2_with fail
      refine HK'.out _ _ (fun _ => Mem.alloc_old HSX.out) ?_
      clear HK' K
      refine post_step (fun K hK => ?_)
      have HK' := Aside0.mk hK
      clear hK
      go_wp2_with fail
      refine (crc_Of.calls K0 (some ⟨w4.heap.size, 0, none⟩) 1 [data] s _ (Mem.C_one (Mem.alloc_new _ _) (by rw [HDLN.out]; rfl) (by rw [HDLN.out]; exact Nat.le_refl _) (by rw [HDLN.out]; exact Kd.C_alloc HCD4.out _)) (Nat.le_refl _) HCRC.out).mono ?_
      rintro e w6 ⟨rfl, hdr⟩
      have hf6 := (fr_alloc w4 (.cells #[.slice Ao sz sz] 35) (fun _ => True)).trans (Fr.drawn hdr)
      have HSX6 := Aside0.mk (hf6.kept HSX.out trivial)
      have HF6 := Aside0.mk (HFD.out.trans hf6)
      have HCD6 := Aside0.mk (C_fr HCD4.out hf6 (fun _ _ => trivial))
      clear hdr hf6 HFD HCD4
      go_wp2_with fail
      refine HK'.out _ _ (fun _ => HSX6.out) ?_
      clear HK' K
      refine post_step (fun K hK => ?_)
      have HK' := Aside0.mk hK
      clear hK
      go_wp2_with fail
      refine HK'.out _ _ (fun h => absurd h (by decide)) ?_
      clear HK' K hvo
      refine post_nil ?_
      obtain ⟨tb, htb⟩ : ∃ tb, (s != x.f3) = tb := ⟨_, rfl⟩
      have HTB := Aside0.mk htb
      have h20 : w6.cell? ⟨w'.heap.size, 0, none⟩ = some (.string x.f0) := (blk_cell HSX6.out 0).trans rfl
      cases tb with
      | true =>
        go_wp2_with fail
        go_ret3
        exact ⟨.inr ⟨by have h := HTB.out; simpa using h, rfl⟩, (HF2.out.trans HF6.out)⟩
      | false =>
        go_wp2_with fail
        go_ret3
        exact ⟨.inl ⟨by have h := HTB.out; simpa using h, Ao, rfl, by rw [HDAT.out]; exact HCD6.out⟩, (HF2.out.trans HF6.out)⟩
end Go.Proofs.Ytbkpcepnhjnpgaa.X
