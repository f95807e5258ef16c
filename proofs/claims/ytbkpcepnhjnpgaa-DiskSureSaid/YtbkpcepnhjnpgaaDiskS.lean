/- The contract of disk.Sync. -/
import Derived.Test.YtbkpcepnhjnpgaaDiskN
import Derived.StillTailTactics
import Derived.Maps.RangeWalk
namespace Go.Proofs.Ytbkpcepnhjnpgaa.X
open Go.RowKit Go.Maps Go.Proofs.YtbkpcepnhjnpgaaW.PrintWords Go.Proofs.YtbkpcepnhjnpgaaW.PrintLast Go.Proofs.YtbkpcepnhjnpgaaW.PrintMore
set_option linter.unusedVariables false
set_option linter.unusedSimpArgs false
/-- A sector with bytes laid from p on. -/
def laidAt (s : List Int) (p : Nat) (xs : List Int) : List Int := s.take p ++ xs ++ s.drop (p + xs.length)
theorem laidAt_len (s : List Int) (p : Nat) (xs : List Int) (h : p + xs.length ≤ s.length) : (laidAt s p xs).length = s.length := by
  unfold laidAt; simp; omega
theorem laidAt_all (s xs : List Int) (h : xs.length = s.length) : laidAt s 0 xs = xs := by
  unfold laidAt
  rw [List.drop_of_length_le (by omega)]; simp
def setS (f : Nat → List Int) (i : Nat) (xs : List Int) : Nat → List Int := fun k => if k = i then xs else f k
theorem Sure.laid {w w' : World} {bs n i p : Nat} {f : Nat → List Int} {xs : List Int} {arr arr' : Array Value} (hh : w.heap[bs]? = some (.cells arr 124 (0, 0))) (hsz : arr.size = 64 * n) (hse : ∀ i, i < n → ∀ j, j < 64 → arr[i * 64 + j]? = some (.int .u8 ((f i).getD j 0))) (hsl : ∀ i, i < n → (f i).length = 64) (hi : i < n) (hp : p + xs.length ≤ 64)
    (h1 : w'.heap[bs]? = some (.cells arr' 124 (0, 0))) (h2 : arr'.size = arr.size) (h3 : arr'.toList = arr.toList.take (i * 64 + p) ++ xs.map (Value.int .u8) ++ arr.toList.drop (i * 64 + p + (xs.map (Value.int .u8)).length)) : Sure w' bs n (setS f i (laidAt (f i) p xs)) := by
  refine ⟨arr', h1, by rw [h2, hsz], fun k hk j hj => ?_, fun k hk => ?_⟩
  · have hoff : i * 64 + 64 ≤ arr.size := by rw [hsz]; omega
    have hko : k * 64 + 64 ≤ arr.size := by rw [hsz]; omega
    have hold := hse k hk j hj
    rw [← Array.getElem?_toList] at hold ⊢
    rw [h3, List.length_map]
    have htl : (arr.toList.take (i * 64 + p)).length = i * 64 + p := by rw [List.length_take, Array.length_toList]; omega
    unfold setS
    by_cases hki : k = i
    · subst hki
      rw [if_pos rfl]
      unfold laidAt
      have hfl := hsl k hk
      have htl2 : ((f k).take p).length = p := by rw [List.length_take]; omega
      by_cases ha : j < p
      · rw [List.append_assoc, List.getElem?_append_left (by rw [htl]; omega), List.getElem?_take, if_pos (by omega), hold]
        rw [List.append_assoc, List.getD_eq_getElem?_getD, List.getD_eq_getElem?_getD, List.getElem?_append_left (by rw [htl2]; exact ha), List.getElem?_take, if_pos ha]
      · by_cases hb : j < p + xs.length
        · rw [List.append_assoc, List.getElem?_append_right (by rw [htl]; omega), htl, List.getElem?_append_left (by rw [List.length_map]; omega), List.getElem?_map]
          rw [List.append_assoc, List.getD_eq_getElem?_getD, List.getElem?_append_right (by rw [htl2]; omega), htl2, List.getElem?_append_left (by omega)]
          rw [show k * 64 + j - (k * 64 + p) = j - p by omega, List.getElem?_eq_getElem (by omega)]
          rfl
        · rw [List.getElem?_append_right (by rw [List.length_append, htl, List.length_map]; omega), List.length_append, htl, List.length_map, List.getElem?_drop]
          rw [show k * 64 + p + xs.length + (k * 64 + j - (k * 64 + p + xs.length)) = k * 64 + j by omega, hold]
          rw [List.getD_eq_getElem?_getD, List.getD_eq_getElem?_getD, List.getElem?_append_right (by rw [List.length_append, htl2]; omega), List.length_append, htl2, List.getElem?_drop]
          rw [show p + xs.length + (j - (p + xs.length)) = j by omega]
    · rw [if_neg hki]
      by_cases ha : k < i
      · have : k * 64 + j < i * 64 + p := by omega
        rw [List.append_assoc, List.getElem?_append_left (by rw [htl]; omega), List.getElem?_take, if_pos (by omega), hold]
      · have hlt : i * 64 + p + xs.length ≤ k * 64 + j := by omega
        rw [List.getElem?_append_right (by rw [List.length_append, htl, List.length_map]; omega), List.length_append, htl, List.length_map, List.getElem?_drop]
        rw [show i * 64 + p + xs.length + (k * 64 + j - (i * 64 + p + xs.length)) = k * 64 + j by omega, hold]
  · unfold setS
    by_cases hki : k = i
    · subst hki
      rw [if_pos rfl, laidAt_len _ _ _ (by rw [hsl k hk]; exact hp)]
      exact hsl k hk
    · rw [if_neg hki]; exact hsl k hk
section
variable {P : Program} {ops : Array Oper} {rest : List Oper} {o : Oper} {a : Act} {Q : Exit → Act → World → Prop} {W : World}
/-- 'clear(m)'. -/
theorem own_clear {w : World} {k e : TypeId} {R : Value → Option (DataW Value × List MemPlace)} {b n : Nat} {D : DataW Value} {t ty : TypeId} (h : w.ownsMap P k R b n D) (ht : P.underlying t = some (.map k e)) :
    ∃ w', (Builtin.clear_ #[t] ty #[.map (some b)]).run P w = .ok (.tuple #[]) w' ∧ w'.ownsMap P k R b 0 (.map []) ∧ w.grownBy w' (some b) ∧ w'.heap.size = w.heap.size := by
  obtain ⟨es, clock, hb, F, hs, rfl⟩ := h
  refine ⟨ChangeMaps.setBlock w b (.map #[] clock), ?_, ⟨#[], clock, ChangeMaps.heap_setBlock_same hb _, ?_, Nat.le_refl _, rfl⟩, ?_, ?_⟩
  · simp [Builtin.clear_, run_underlying ht, MapKept.run_getObj_map hb, MapKept.run_setObj_map _ hb, Result.andThen, ChangeMaps.setBlock]
  · exact ⟨by simp, MapKept.stamped_empty _, by simp⟩
  · exact ⟨rfl, rfl, rfl, by simp [ChangeMaps.setBlock], fun i _ hi => ChangeMaps.heap_setBlock_other hb _ (fun e => hi (by rw [e]))⟩
  · simp [ChangeMaps.setBlock]
theorem wp_clear_ (hgd : o.guard = none) (m : Operand) (t : TypeId) (ho : o.op = Op.call { callee := Callee.builtin Builtin.clear, args := #[m], argTypes := #[t] }) (k e : TypeId) (ht : P.underlying t = some (.map k e)) (R : Value → Option (DataW Value × List MemPlace)) (b n : Nat) (D : DataW Value)
    (hm : a.eval m = .map (some b)) (hown : W.ownsMap P k R b n D)
    (h : ∀ w1, w1.ownsMap P k R b 0 (.map []) → W.grownBy w1 (some b) → w1.heap.size = W.heap.size → wpList P ops Q rest (a.put o.dst (.tuple #[])) w1) : wpList P ops Q (o :: rest) a W := by
  refine wpList_plain hgd fun K' hK' => ?_
  obtain ⟨w', hrun, r1, r2, r3⟩ := own_clear (ty := o.type) hown ht
  unfold Oper.wp
  simp [execOp, ho, resolve, invoke, builtin, hm, hrun, Result.andThen]
  exact hK' _ _ (h w' r1 r2 r3)
end
/-- A key that is to come is there. -/
theorem ranges_has {w : World} {P : Program} {k : TypeId} {R : Value → Option (DataW Value × List MemPlace)} {b r n : Nat} {D : DataW Value} {left : Lit → Bool} {cnt : Nat} (h : w.ranges P k R b r n D left cnt) (K : Keyed P k) {kl : Lit} (hl : left kl = true) : has D kl = true := by
  obtain ⟨es, clock, since, seen, c0, hb, F, hs, rfl, hr, hold, hc, hl1, hl2, _⟩ := h
  obtain ⟨x, hx, rfl⟩ := hl2 kl hl
  obtain ⟨y, hy⟩ := F.reads x hx
  exact List.any_eq_true.2 ⟨WideElems.rg P k R x, mem_sorted.2 (List.mem_map.2 ⟨x, hx, rfl⟩), WideAt.sameKey_self (by rw [WideElems.rg_of hy]; exact K.key (WideElems.rd_key hy))⟩
theorem IsD.apart {w : World} {b : Nat} {d : DS} {s : WS} (h : IsD w b d) (hw : IsW w d.bw s) : b ≠ d.bw ∧ d.bm ≠ d.bw ∧ d.bs ≠ d.bw ∧ b ≠ d.bm ∧ d.bs ≠ d.bm ∧ b ≠ d.bs := by
  obtain ⟨hb, ⟨arr, hs, _⟩, ⟨D, ⟨es, clock, hm, _⟩, _⟩, _⟩ := h
  unfold IsW at hw
  refine ⟨fun e => ?_, fun e => ?_, fun e => ?_, fun e => ?_, fun e => ?_, fun e => ?_⟩
  · rw [e, hw] at hb; injection hb with hb; injection hb with _ hb; cases hb
  · rw [e, hw] at hm; cases hm
  · rw [e, hw] at hs; injection hs with hs; injection hs with _ hs; cases hs
  · rw [e, hm] at hb; cases hb
  · rw [e, hm] at hs; cases hs
  · rw [e, hs] at hb; injection hb with hb; injection hb with _ hb; cases hb
/-- How a sector is while what waits is laid. -/
def midS (d : DS) (left : Lit → Bool) : Nat → List Int := fun i => if left (dkey i) then d.sure i else d.now i
theorem midS_start {d : DS} {D : DataW Value} (h : ∀ i, i < d.n → WaitAt D i (d.wait i)) (i : Nat) (hi : i < d.n) : midS d (has D) i = d.sure i := by
  unfold midS
  have h1 := h i hi
  cases e : d.wait i with
  | none => rw [e] at h1; unfold DS.now; rw [e]; split <;> rfl
  | some xs => rw [e] at h1; rw [if_pos h1.1]
theorem Sure.congr {w : World} {bs n : Nat} {f g : Nat → List Int} (h : Sure w bs n f) (e : ∀ i, i < n → f i = g i) : Sure w bs n g := by
  obtain ⟨arr, h1, h2, h3, h4⟩ := h
  exact ⟨arr, h1, h2, fun i hi j hj => by rw [← e i hi]; exact h3 i hi j hj, fun i hi => by rw [← e i hi]; exact h4 i hi⟩
theorem midS_step {d : DS} {left : Lit → Bool} {i : Nat} {xs : List Int} (hx : d.wait i = some xs) (hl : left (dkey i) = true) (k : Nat) : setS (midS d left) i xs k = midS d (fun z => left z && !z.sameKey (dkey i)) k := by
  unfold setS midS
  have hs : (dkey k).sameKey (dkey i) = decide (k = i) := by
    by_cases e : k = i
    · subst e; rw [WideAt.sameKey_self (by unfold dkey; trivial)]; simp
    · rw [Maps.sameKey_ne (fun e2 => e (by unfold dkey at e2; injection e2 with _ e2; omega))]; simp [e]
  simp only [hs]
  by_cases e : k = i
  · subst e; simp [DS.now, hx]
  · simp [e]
def syncD (d : DS) : DS := { d with sure := d.now, wait := fun _ => none, cnt := 0 }
theorem ranges_sure {w : World} {P : Program} {k : TypeId} {R : Value → Option (DataW Value × List MemPlace)} {b r n bs m : Nat} {D : DataW Value} {left : Lit → Bool} {cnt : Nat} {f : Nat → List Int} (h : w.ranges P k R b r n D left cnt) (hs : Sure w bs m f) : bs ≠ r := by
  obtain ⟨es, clock, since, seen, c0, hb, F, hs2, rfl, hr, _⟩ := h
  obtain ⟨arr, h1, _⟩ := hs
  intro e
  rw [e, hr] at h1
  cases h1
theorem ranges_fr {w w' : World} {P : Program} {k : TypeId} {R : Value → Option (DataW Value × List MemPlace)} {b r n : Nat} {D : DataW Value} {left : Lit → Bool} {cnt : Nat} {Q : Nat → Prop} (h : w.ranges P k R b r n D left cnt) (hf : Fr Q w w') (hb : Q b) (hr : Q r) : w'.ranges P k R b r n D left cnt := by
  obtain ⟨es, clock, since, seen, c0, h1, F, hs, hD, h2, rest⟩ := h
  exact ⟨es, clock, since, seen, c0, hf.kept h1 hb, F, hs, hD, hf.kept h2 hr, rest⟩
theorem next_sec {d : DS} {D : DataW Value} {x : Int} {c : Array Value} {kl : Lit} {a : DataW Value} {ps : List MemPlace} (hwt : ∀ i, i < d.n → WaitAt D i (d.wait i)) (hks : ∀ kl, has D kl = true → ∃ i, i < d.n ∧ kl = dkey i) (hkey : keyOf Try.prog 3 (.int .i64 x) = some kl) (hl : has D kl = true) (hR : secR (.agg c) = some (a, ps)) (hat : ∀ zd, D.atKey kl zd = a) :
    ∃ (i : Nat) (xs : List Int), i < d.n ∧ x = (i : Int) ∧ kl = dkey i ∧ d.wait i = some xs ∧ xs.length = 64 ∧ c = secC xs := by
  obtain ⟨y, e1, rfl, _⟩ := Maps.keyOf_int_inv Try.underlying3 hkey
  injection e1 with _ e1
  subst e1
  obtain ⟨i, hi, hk⟩ := hks _ hl
  have hx : x = (i : Int) := by unfold dkey at hk; injection hk
  have h1 := hwt i hi
  cases e : d.wait i with
  | none => rw [e] at h1; rw [hk] at hl; have h2 : has D (dkey i) = false := h1; rw [h2] at hl; cases hl
  | some xs =>
    rw [e] at h1
    have h2 := hat a
    rw [hk, h1.2.1 a] at h2
    obtain ⟨cs, e2, _, e3⟩ := secR_inv hR
    injection e2 with e2
    subst e2
    injection e3 with e3 _
    rw [e3] at h2
    injection h2 with h2
    injection h2 with h2
    exact ⟨i, xs, hi, hx, hk, e, h1.2.2, h2.symm⟩
set_option maxRecDepth 100000 in
theorem disk_Sync.calls (b : Nat) (d : DS) (s : WS) (w : World) (h : IsD w b d) (hw : IsW w d.bw s) (hd : s.dead = false) :
    Calls Try.prog 37 #[.pointer (some ⟨b, 0, none⟩)] w fun e w' => e = .returned (.int .i64 0) ∧ IsD w' b (syncD d) ∧ IsW w' d.bw (stepW s) ∧ Fr (fun k => k ≠ d.bw ∧ k ≠ d.bm ∧ k ≠ d.bs) w w' := by
  have HNE := Aside0.mk (h.apart hw)
  have H := Aside0.mk h
  have HW := Aside0.mk hw
  have HD := Aside0.mk hd
  have h0 : w.cell? ⟨b, 0, none⟩ = some (.pointer (some ⟨d.bw, 0, none⟩)) := (blk_cell h.1 0).trans rfl
  have hu := Try.underlying81
  have hu2 := Try.underlying124
  clear h hw hd
  go_enter Try.func37, Try.ntmps37
  go_wp2_with fail
  refine (disk_is.calls b _ _ _ w H.out.1).mono ?_
  rintro e w' ⟨rfl, rfl⟩
  go_wp2_with fail
  refine (world_Step.calls d.bw s _ HW.out HD.out).mono ?_
  rintro e w1 ⟨rfl, hw1, hf1, hs1⟩
  have h2 : w1.cell? ⟨b, 2, none⟩ = some (.map (some d.bm)) := (blk_cell (hf1.kept H.out.1 HNE.out.1) 2).trans rfl
  obtain ⟨hb, hsu, ⟨D, hown, hwt, hks⟩, hnn⟩ := H.out
  have HW1 := Aside0.mk hw1
  have HF1 := Aside0.mk hf1
  have HS1 := Aside0.mk hs1
  have HO1 := Aside0.mk (own_kept hown hf1 HNE.out.2.1)
  have HSU := Aside0.mk ((hsu.kept hf1 HNE.out.2.2.1).congr (fun i hi => (midS_start hwt i hi).symm))
  have HWT := Aside0.mk hwt
  have HKS := Aside0.mk hks
  have HNN := Aside0.mk hnn
  clear hw1 hf1 hs1 h0 hb hsu hown hwt hks hnn
  go_wp2_with (first | (at_range; refine wpList_range_own _ rfl _ 79 rfl 3 124 dk_key Try.underlying79 _ d.bm d.cnt D rfl HO1.out ?_; intro w2 hrg2 hg2 hs2; have HRG2 := Aside0.mk hrg2; have HG2 := Aside0.mk (Fr.of_grown hg2); clear hrg2 hg2 hs2))
  go_frame
  go_loopg [] (size D + 1) (fun kq wr => ∃ left cnt, Aside0 (cnt < kq) ∧ Aside0 (wr.ranges Try.prog 3 secR d.bm w1.heap.size d.cnt D left cnt) ∧ Aside0 (Sure wr d.bs d.n (midS d left)) ∧ Aside0 (Fr (fun k => k ≠ d.bs ∧ k ≠ w1.heap.size) w1 wr))
  case atStart => exact ⟨has D, size D, ⟨Nat.lt_succ_self _⟩, HRG2, ⟨HSU.out.kept HG2.out (by simp)⟩, ⟨HG2.out.mono (by simp)⟩⟩
  case round =>
    obtain ⟨left, cnt, HK, HRG, HSR, HFR⟩ := hrel
    have h2r : wr.cell? ⟨b, 2, none⟩ = some (.map (some d.bm)) := (blk_cell (HFR.out.kept (HF1.out.kept H.out.1 HNE.out.1) ⟨HNE.out.2.2.2.2.2, Nat.ne_of_lt (Nat.lt_of_lt_of_le H.out.lt HF1.out.size)⟩) 2).trans rfl
    have HBR : Aside0 (wr.heap[b]? = _) := ⟨HFR.out.kept (HF1.out.kept H.out.1 HNE.out.1) ⟨HNE.out.2.2.2.2.2, Nat.ne_of_lt (Nat.lt_of_lt_of_le H.out.lt HF1.out.size)⟩⟩
    have HWR : Aside0 (IsW wr d.bw (stepW s)) := ⟨HW1.out.kept HFR.out ⟨fun e => HNE.out.2.2.1 e.symm, Nat.ne_of_lt HW1.out.lt⟩⟩
    clear h2
    go_wp2_with (first | (at_next; refine wpList_next_ranges _ rfl _ rfl 3 dk_key secR (Value.int .i64) Value.agg (fun key kl hkey => by obtain ⟨x, rfl, _⟩ := Maps.keyOf_int_inv Try.underlying3 hkey; exact ⟨x, rfl⟩) (fun v y hv => by obtain ⟨cs, rfl, _⟩ := secR_inv hv; exact ⟨cs, rfl⟩) d.bm w1.heap.size d.cnt D left cnt rfl HRG.out ?_ ?_))
    · intro hc0 hl0
      have HL0 := Aside0.mk hl0
      clear hc0 hl0
      go_wp2_with (first
        | ((with_reducible refine gate_builtin (b := .clear) (xs := #[.tmp 37]) rfl ?_); refine wp_clear_ rfl _ 79 rfl 3 124 Try.underlying79 secR d.bm d.cnt D rfl HRG.out.owns ?_; intro w5 hown5 hg5 hs5; have HO5 := Aside0.mk hown5; have HG5 := Aside0.mk (Fr.of_grown hg5); clear hown5 hg5 hs5))
      go_ret
      refine ⟨rfl, ⟨HG5.out.kept HBR.out (by have := HNE.out.2.2.2.1; simpa using this), ?_, ⟨_, HO5.out, fun i _ => rfl, fun kl hk => by cases hk⟩, HNN.out⟩, HWR.out.kept HG5.out (by have := HNE.out.2.1; simpa using this.symm), ?_⟩
      · refine (HSR.out.kept HG5.out (by have := HNE.out.2.2.2.2.1; simpa using this)).congr (fun i hi => ?_)
        unfold midS
        rw [HL0.out]; rfl
      · exact ((HF1.out.mono (fun k _ h => h.1)).step HFR.out (fun k hk h => ⟨h.2.2, by have := HF1.out.size; omega⟩)).step HG5.out (fun k hk h => by simpa using h.2.1)
    · intro x c kl y ps w3 cnt3 hkey hlk hR hat hrg3 hlt hg3 hs3 hen
      obtain ⟨i, xs, hi, rfl, rfl, hwi, hxl, rfl⟩ := next_sec HWT.out HKS.out hkey (ranges_has HRG.out dk_key hlk) hR hat
      have HI := Aside0.mk hi
      have HWI := Aside0.mk hwi
      have HLK := Aside0.mk hlk
      have HXL := Aside0.mk hxl
      have HRG3 := Aside0.mk hrg3
      have HLT := Aside0.mk hlt
      have hfg := Fr.of_grown hg3
      have HF3 := Aside0.mk (HFR.out.step hfg (fun k hk h => by simpa using h.2))
      have HG3 := Aside0.mk hfg
      have HS3 := Aside0.mk (HSR.out.kept hfg (by have := ranges_sure HRG.out HSR.out; simpa using this))
      have HB3 := Aside0.mk (hfg.kept HBR.out (by have := H.out.lt; have := HF1.out.size; simp; omega))
      clear hi hwi hlk hxl hrg3 hlt hfg hg3 hs3 hkey hR hat h2r
      have h1 : w3.cell? ⟨b, 1, none⟩ = some (.slice (some ⟨d.bs, 0, none⟩) d.n d.n) := (blk_cell HB3.out 1).trans rfl
      go_wp2_with (first
        | (refine gate_ (.alloc 124) rfl ?_; refine wp_alloc_ rfl _ rfl (.agg zsec) (zsec_zero _) ?_; intro w4 hz4 hf4 hs4; have HF4 := Aside0.mk hf4; have HZ4 := Aside0.mk hz4; clear hen hz4 hf4 hs4)
        | (refine gate_ (.store 124 (.tmp 5) (.tmp 26)) rfl ?_; refine wp_store_ rfl rfl _ _ _ rfl (.agg (secC xs)) ((xs).map (.int .u8)) rfl rfl (secC_seg _) HZ4.out (by rw [List.length_map, HXL.out]; exact sec_size) (by rw [List.length_map, HXL.out]; exact Nat.le_of_eq zsec_size.symm) (seg_one _) ?_; intro w5 arr5 e1 e2 e3 e4 e5; obtain rfl := whole_row2 (HXL.out) zsec_size e3; have HX5 := Aside0.mk e1; have HF5 := Aside0.mk (HF4.out.step e4 (fun k hk _ => Nat.ne_of_lt hk)); have h15 : w5.cell? ⟨b, 1, none⟩ = some (.slice (some ⟨d.bs, 0, none⟩) d.n d.n) := (blk_cell (HF5.out.kept HB3.out trivial) 1).trans rfl; clear h1 e1 e2 e3 e4 e5))
      have hi0 : (0 : Int) ≤ (i : Int) := Int.natCast_nonneg _
      have hi1 : (i : Int) < (d.n : Int) := by have := HI.out; omega
      have hi2 : i < d.n := HI.out
      go_still_tail 7, (by kernel_rfl)
      refine st_load_ (W := w5.drew) rfl _ _ rfl _ _ rfl (run_load_sec w5.drew w3.heap.size 0 _ _ _ xs HX5.out HXL.out (sec_get xs HXL.out)) ?_
      repeat still_step
      refine wpStill_nil ?_
      change wpList _ _ _ _ _ w5.drew
      obtain ⟨arr6, hs6, hsz6, hse6, hsl6⟩ := HS3.out
      have HH6 : Aside0 (w5.drew.heap[d.bs]? = some (.cells arr6 124 (0, 0))) := ⟨HF5.out.kept hs6 trivial⟩
      have HSZ6 := Aside0.mk hsz6
      have HSE6 := Aside0.mk hse6
      have HSL6 := Aside0.mk hsl6
      have hfd : Fr (fun _ => True) w3 w5.drew := HF5.out.drew
      have HFD := Aside0.mk hfd
      clear hs6 hsz6 hse6 hsl6 h15 hi0 hi1 hi2 hfd
      generalize w5.drew = w6 at HH6 HFD ⊢
      refine wp_store_ rfl rfl _ _ _ rfl (.agg (secC xs)) ((xs).map (.int .u8)) rfl rfl (secC_seg _) HH6.out (by rw [List.length_map, HXL.out]; exact sec_size) (by have := HI.out; rw [List.length_map, HXL.out, HSZ6.out]; omega) (seg_one _) ?_
      intro w7 arr7 e1 e2 e3 e4 e5
      have hs7 := Sure.laid (p := 0) (i := i) (xs := xs) (w' := w7) HH6.out HSZ6.out HSE6.out HSL6.out HI.out (by rw [HXL.out]; exact Nat.le_refl _) e1 e2 e3
      rw [laidAt_all _ _ (by rw [HXL.out, HSL6.out i HI.out])] at hs7
      have HS7 := Aside0.mk (hs7.congr (fun k _ => midS_step HWI.out HLK.out k))
      have HR7 := Aside0.mk (ranges_fr (ranges_fr HRG3.out HFD.out trivial trivial) e4 (by have := HNE.out.2.2.2.2.1; exact this.symm) (by have := ranges_sure HRG.out HSR.out; exact this.symm))
      have HF7 := Aside0.mk ((HF3.out.step HFD.out (fun _ _ _ => trivial)).step e4 (fun k hk h => h.1))
      clear e1 e2 e3 e4 e5 hs7
      go_wp2_with fail
      cases gk with
      | zero => exact absurd HK.out (Nat.not_lt_zero _)
      | succ k2 =>
      go_roundg k2
      case measure => exact Nat.lt_succ_self _
      case rel => exact ⟨_, cnt3, ⟨by have h1 := HK.out; have h2 := HLT.out; omega⟩, HR7, HS7, HF7⟩
end Go.Proofs.Ytbkpcepnhjnpgaa.X
