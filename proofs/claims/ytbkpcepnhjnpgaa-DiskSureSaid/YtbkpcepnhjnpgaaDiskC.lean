/- The contract of disk.Crash. -/
import Derived.Test.YtbkpcepnhjnpgaaDiskP
import Derived.Test.YtbkpcepnhjnpgaaStageW
namespace Go.Proofs.Ytbkpcepnhjnpgaa.X
open Go.RowKit Go.Maps Go.Proofs.YtbkpcepnhjnpgaaW.PrintWords Go.Proofs.YtbkpcepnhjnpgaaW.PrintLast Go.Proofs.YtbkpcepnhjnpgaaW.PrintMore
set_option linter.unusedVariables false
set_option linter.unusedSimpArgs false
/-- What stays of a sector. -/
def howS (how : Int) (was is : List Int) : List Int := if how = 1 then is else if how = 2 then laidAt was 0 (is.take 32) else if how = 3 then laidAt was 32 (is.drop 32) else was
def crashN (d : DS) (keep : List Int) : Nat → (Nat → List Int)
  | 0 => d.sure
  | k + 1 => setS (crashN d keep k) ((pendN d).getD k 0) (howS (keep.getD k 0) (crashN d keep k ((pendN d).getD k 0)) ((d.wait ((pendN d).getD k 0)).getD []))
def crashD (d : DS) (keep : List Int) : DS := { d with sure := crashN d keep (pendN d).length, wait := fun _ => none, cnt := 0 }
section
variable {P : Program} {ops : Array Oper} {rest : List Oper} {o : Oper} {a : Act} {Q : Exit → Act → World → Prop} {W : World}
/-- 'm[k]'. -/
theorem wp_look_ (hgd : o.guard = none) (m x : Operand) (t : TypeId) (ho : o.op = Op.lookup t m x false) (k e : TypeId) (K : Keyed P k) (ht : P.underlying t = some (.map k e)) (R : Value → Option (DataW Value × List MemPlace)) {z : Value} (hz : (zeroValue e).run P W = .ok z W) (zd : DataW Value) (zp : List MemPlace) (hzd : R z = some (zd, zp)) (b n : Nat) (D : DataW Value)
    (hm : a.eval m = .map (some b)) (hown : W.ownsMap P k R b n D) (key : Value) (kl : Lit) (hx : a.eval x = key) (hkey : keyOf P k key = some kl)
    (h : ∀ v ps, R v = some (D.atKey kl zd, ps) → wpList P ops Q rest (a.put o.dst v) W) : wpList P ops Q (o :: rest) a W := by
  refine wpList_plain hgd fun K' hK' => ?_
  obtain ⟨v, ps, hrun, hv⟩ := hown.lookup K ht hz hzd hkey
  unfold Oper.wp
  simp [execOp, ho, hm, hx, hrun, Result.andThen]
  exact hK' _ _ (h v ps hv)
end
set_option maxRecDepth 100000 in
theorem disk_Crash.bad (p : Value) (w : World) (h : Calls Try.prog 76 #[p] w fun e w' => e = .returned (.bool false) ∧ w' = w) : Calls Try.prog 38 #[p, .slice none 0 0] w fun e w' => e = .returned (.tuple #[]) ∧ w' = w := by
  have H := Aside0.mk h
  clear h
  go_enter Try.func38, Try.ntmps38
  go_wp2_with fail
  refine (disk_Pending.bad _ _ H.out).mono ?_
  rintro e w1 ⟨rfl, rfl⟩
  go_wp2_with fail
  go_loopg [11] 1 (fun kq v11 wr => v11 = .int .i64 0 ∧ wr = w1)
  case atStart => exact ⟨rfl, rfl⟩
  case round =>
    obtain ⟨rfl, rfl⟩ := hrel
    go_wp2_with fail
    refine H.out.mono ?_
    rintro e w2 ⟨rfl, rfl⟩
    go_wp2_with fail
    first | go_end0 | ((try simp only [Exit.inBlock, Exit.then]); refine bodyPost_ret (results_none rfl _ _ _) rfl ?_)
    exact ⟨rfl, rfl⟩
theorem cell_fr0 {w w' : World} {P : Nat → Prop} {p : Addr} {v : Value} (hf : Fr P w w') (h : w.cell? p = some v) (hp : P p.block) : w'.cell? p = some v := by
  rw [← h]
  exact World.cell?_of_block (w := w) (hf.block _ (World.block_lt_of_cell? _ _ h) hp)
theorem C_fr3 {k : IntKind} {P : Nat → Prop} {a b : World} {A : Option Addr} {n : Nat} {xs : List Int} (h : (Kd.int k).C a A n xs) (hf : Fr P a b) (hp : 0 < n → ∀ ad, A = some ad → P ad.block) : (Kd.int k).C b A n xs := by
  by_cases hn : 0 < n
  · exact C_fr h hf (hp hn)
  · obtain ⟨h1, h2, h3⟩ := h
    exact ⟨h1, h2, fun h => absurd h (by omega)⟩
theorem C_lo {w : World} {g : Nat} {xs : List Int} {e : TypeId} (hb : w.heap[g]? = some (.cells (secC xs) e (0, 0))) (hl : xs.length = 64) : Kd.C (Kd.int .u8) w (some ⟨g, 0, none⟩) 32 (xs.take 32) := by
  have h1 : (xs.take 32).length = 32 := by rw [List.length_take]; omega
  have h := Mem.C_ints (k := .u8) hb (xs := xs.take 32) (fun i hi => by
    have h := sec_get xs hl i (by omega)
    rw [Nat.zero_add] at h
    rw [h, List.getD_eq_getElem?_getD, List.getD_eq_getElem?_getD, List.getElem?_take, if_pos (by omega)]) (by omega)
  rwa [h1] at h
theorem C_hi {w : World} {g : Nat} {xs : List Int} {e : TypeId} (hb : w.heap[g]? = some (.cells (secC xs) e (0, 0))) (hl : xs.length = 64) : Kd.C (Kd.int .u8) w (some ⟨g, 32, none⟩) 32 (xs.drop 32) := by
  have h1 : (xs.drop 32).length = 32 := by rw [List.length_drop]; omega
  refine ⟨h1, by omega, fun _ => ⟨_, rfl, fun j p hj => ⟨[.int .u8 p], rfl, rfl, fun q u hu => ?_⟩⟩⟩
  have hjl := (List.getElem?_eq_some_iff.1 hj).1
  match q, hu with
  | 0, hu =>
    rw [Mem.add_plain2, cell_of_row w g _ _ e _ hb]
    have e1 : 32 + (j * (Kd.int .u8).sz + 0) = 0 + (32 + j) := by show 32 + (j * 1 + 0) = _; omega
    rw [e1, sec_get xs hl (32 + j) (by omega), List.getD_eq_getElem?_getD]
    rw [List.getElem?_drop] at hj
    rw [hj]
    simpa using hu
  | q + 1, hu => simp at hu
theorem Sure.copied {w w' : World} {bs n i p : Nat} {f : Nat → List Int} {ys : List Int} {arr arr' : Array Value} (hh : w.heap[bs]? = some (.cells arr 124 (0, 0))) (hsz : arr.size = 64 * n) (hse : ∀ i, i < n → ∀ j, j < 64 → arr[i * 64 + j]? = some (.int .u8 ((f i).getD j 0))) (hsl : ∀ i, i < n → (f i).length = 64) (hi : i < n) (hl : ys.length = 32) (hp : p + 32 ≤ 64)
    (h1 : w'.heap[bs]? = some (.cells arr' 124 (0, 0))) (h2 : arr'.size = arr.size) (h3 : arr'.toList = arr.toList.take (i * 64 + p) ++ (ys.take (min 32 32)).map (Value.int .u8) ++ arr.toList.drop (i * 64 + p + min 32 32)) : Sure w' bs n (setS f i (laidAt (f i) p ys)) := by
  refine Sure.laid hh hsz hse hsl hi (by omega) h1 h2 ?_
  have e : ys.take 32 = ys := List.take_of_length_le (by omega)
  rw [h3, Nat.min_self, e, List.length_map, hl]
/-- The state of a crash on its way. -/
structure Cr (w : World) (b : Nat) (d : DS) (keep : List Int) (k : Nat) : Prop where
  blk : w.heap[b]? = some (.cells #[.pointer (some ⟨d.bw, 0, none⟩), .slice (some ⟨d.bs, 0, none⟩) d.n d.n, .map (some d.bm)] 81 (0, 0))
  sure : Sure w d.bs d.n (crashN d keep k)
  waits : Waits w d.bm d.n d.cnt d.wait
theorem Cr.kept {P : Nat → Prop} {w w' : World} {b : Nat} {d : DS} {keep : List Int} {k : Nat} (h : Cr w b d keep k) (hf : Fr P w w') (hb : P b) (hs : P d.bs) (hm : P d.bm) : Cr w' b d keep k :=
  ⟨hf.kept h.blk hb, h.sure.kept hf hs, h.waits.kept hf hm⟩
theorem Cr.apart {w : World} {b : Nat} {d : DS} {keep : List Int} {k : Nat} (h : Cr w b d keep k) : b ≠ d.bs ∧ b ≠ d.bm ∧ d.bs ≠ d.bm := by
  obtain ⟨hb, ⟨arr, hs, _⟩, ⟨D, ⟨es, clock, hm, _⟩, _⟩⟩ := h
  refine ⟨fun e => ?_, fun e => ?_, fun e => ?_⟩
  · rw [e, hs] at hb; injection hb with hb; injection hb with _ hb; cases hb
  · rw [e, hm] at hb; cases hb
  · rw [e, hm] at hs; cases hs
set_option maxHeartbeats 16000000 in
set_option maxRecDepth 100000 in
theorem disk_Crash.calls (b : Nat) (d : DS) (A0 : Option Addr) (c0 : Nat) (keep : List Int) (w : World) (h : IsD w b d) (hn : d.cnt < 1000000) (hk : Kd.C (Kd.int .i64) w A0 keep.length keep) (hkc : keep.length ≤ c0) (hbs : 0 < keep.length → ∀ ad, A0 = some ad → ad.block ≠ d.bs) :
    Calls Try.prog 38 #[.pointer (some ⟨b, 0, none⟩), .slice A0 keep.length c0] w fun e w' => e = .returned (.tuple #[]) ∧ IsD w' b (crashD d keep) ∧ Fr (fun k => k ≠ d.bm ∧ k ≠ d.bs) w w' := by
  have H := Aside0.mk h
  have HN := Aside0.mk hn
  have HK := Aside0.mk hk
  have HBS := Aside0.mk hbs
  have hu := Try.underlying81
  have hu2 := Try.underlying124
  obtain ⟨kl, hkl⟩ : ∃ kl, keep.length = kl := ⟨_, rfl⟩
  have HKL := Aside0.mk hkl
  rw [hkl] at HK ⊢
  clear h hn hk hkc hbs hkl
  go_enter Try.func38, Try.ntmps38
  go_wp2_with fail
  refine (disk_Pending.calls b d w H.out HN.out).mono ?_
  rintro e w1 ⟨v1, rfl, hr1, hf1⟩
  obtain ⟨Ap, cp, rfl, hcp, hC1⟩ := Kd.R_reads hr1
  have HR1 := Aside0.mk hr1
  have HF1 := Aside0.mk hf1
  obtain ⟨m, hm⟩ : ∃ m, (pendI d).length = m := ⟨_, rfl⟩
  have HM := Aside0.mk hm
  have HML := Aside0.mk (show m ≤ 1024 by rw [← hm]; exact Nat.le_trans (pendI_le d) H.out.2.2.2)
  rw [hm] at HR1 ⊢
  clear hr1 hf1 hcp hC1 hm
  go_wp2_with fail
  go_loopg [11] (m + 1) (fun kq v11 wr => ∃ (k : Nat), v11 = .int .i64 (k : Int) ∧ Aside0 (kq + k = m + 1) ∧ Aside0 (k ≤ m) ∧ Aside0 (Cr wr b d keep k) ∧ Aside0 (Fr (fun k => k ≠ d.bs) w1 wr))
  case atStart =>
    have h1 := H.out.kept HF1.out trivial trivial trivial
    exact ⟨0, rfl, ⟨by omega⟩, ⟨by omega⟩, ⟨⟨h1.1, h1.2.1, h1.2.2.1⟩⟩, ⟨Fr.refl _ _⟩⟩
  case round =>
    obtain ⟨k, rfl, HKQ, HI, HCR, HFR⟩ := hrel
    cases gk with
    | zero => have h1 := HKQ.out; have h2 := HI.out; omega
    | succ k2 =>
    by_cases hi : k < m
    · have c1 : decide ((k : Int) < (m : Int)) = true := decide_eq_true (by omega)
      have c1b : decide (k < m) = true := decide_eq_true hi
      have hi0 : (0 : Int) ≤ (k : Int) := Int.natCast_nonneg _
      have hi1 : (k : Int) < (m : Int) := by omega
      have hpl : (pendI d).length = m := HM.out
      obtain ⟨adp, eA, hp0⟩ := Kd.at_int (Kd.R_reads' (R_typ HR1.out HFR.out (fun q cells z hz hc => by
        rcases List.mem_cons.1 hz with rfl | hz
        · intro e
          obtain ⟨arr, hs, _⟩ := (H.out.kept HF1.out trivial trivial trivial).2.1
          rw [e, hs] at hc; injection hc with hc; injection hc with _ hc; cases hc
        · cases hz))).2.2 (k : Int) hi0 (by rw [hpl]; exact hi1)
      rw [Int.toNat_natCast] at hp0
      obtain ⟨p, hpe⟩ : ∃ p, (pendN d).getD k 0 = p := ⟨_, rfl⟩
      have hpn : (pendN d).length = m := by rw [← hpl]; unfold pendI; rw [List.length_map]
      have hpm : p ∈ pendN d := by rw [← hpe, List.getD_eq_getElem?_getD, List.getElem?_eq_getElem (by omega)]; exact List.getElem_mem _
      have hrd : rd (pendI d) (k : Int) = (p : Int) := by
        unfold rd pendI
        rw [Int.toNat_natCast, ← hpe, List.getD_eq_getElem?_getD, List.getD_eq_getElem?_getD, List.getElem?_map, List.getElem?_eq_getElem (by omega)]; rfl
      rw [hrd] at hp0
      subst eA
      have hp := hp0
      obtain ⟨hplt, xs, hwx⟩ := pendN_lt d p hpm
      have h2 : wr.cell? ⟨b, 2, none⟩ = some (.map (some d.bm)) := (blk_cell HCR.out.blk 2).trans rfl
      obtain ⟨D, hown, hwt, hks⟩ := HCR.out.waits
      have hwat := hwt p hplt
      rw [hwx] at hwat
      have HOW := Aside0.mk hown
      have HAT := Aside0.mk hwat.2.1
      have HXL := Aside0.mk hwat.2.2
      have HPL := Aside0.mk hplt
      have HWX := Aside0.mk hwx
      have HPE := Aside0.mk hpe
      have HKY := Aside0.mk (dkey_of p (by have := H.out.2.2.2; omega))
      have HILT := Aside0.mk hi
      have HW := Aside0.mk (show wrap64 ((k : Int) + 1) = ((k + 1 : Nat) : Int) by have := HML.out; unfold wrap64; omega)
      have HKR := Aside0.mk (C_fr3 (C_fr HK.out HF1.out (fun _ _ => trivial)) HFR.out (fun h => HBS.out (by rw [HKL.out]; exact h)))
      have HAP := Aside0.mk HCR.out.apart
      have HSTEP := Aside0.mk (show ∀ w9 ys, howS (keep.getD k 0) (crashN d keep k p) xs = ys → Sure w9 d.bs d.n (setS (crashN d keep k) p ys) → Sure w9 d.bs d.n (crashN d keep (k + 1)) from fun w9 ys e hs => by
        show Sure w9 d.bs d.n (setS _ _ _)
        rw [HPE.out, HWX.out]
        rw [← e] at hs
        exact hs)
      have HNO := Aside0.mk (show ∀ w9, Sure w9 d.bs d.n (crashN d keep k) → Sure w9 d.bs d.n (setS (crashN d keep k) p (crashN d keep k p)) from fun w9 hs => hs.congr (fun j hj => by unfold setS; split <;> simp_all))
      clear hpl hp0 hpe hpn hpm hrd hplt hwx hown hwt hks hwat hi
      by_cases hkb : k < kl
      · have c2 : decide ((k : Int) < (kl : Int)) = true := decide_eq_true (by omega)
        have c2b : decide (k < kl) = true := decide_eq_true hkb
        have hk1 : (k : Int) < (kl : Int) := by omega
        obtain ⟨adk, eK, hq0⟩ := Kd.at_int HKR.out (k : Int) hi0 (by omega)
        rw [Int.toNat_natCast, show rd keep (k : Int) = keep.getD k 0 from rfl] at hq0
        subst eK
        obtain ⟨hw, hhw⟩ : ∃ hw, keep.getD k 0 = hw := ⟨_, rfl⟩
        rw [hhw] at hq0 HSTEP
        have HQ0 := Aside0.mk hq0
        clear hkb hq0 hhw
        obtain ⟨e1, he1⟩ : ∃ e1 : Bool, (hw == 1) = e1 := ⟨_, rfl⟩
        obtain ⟨e2, he2⟩ : ∃ e2 : Bool, (hw == 2) = e2 := ⟨_, rfl⟩
        obtain ⟨e3, he3⟩ : ∃ e3 : Bool, (hw == 3) = e3 := ⟨_, rfl⟩
        have HE := Aside0.mk (And.intro he1 (And.intro he2 he3))
        cases e1 with
        | true =>
          go_wp2_with (first
          | (at_lookup; refine wp_look_ rfl _ _ 79 rfl 3 124 dk_key Try.underlying79 secR (zsec_zero _) (.held (.agg zsec)) [] (secR_mk _ zsec_size) d.bm d.cnt D rfl HOW.out _ _ rfl HKY.out ?_; intro v ps hv; rw [HAT.out] at hv; obtain rfl := sec_read hv; clear hv)
          | (refine gate_ (.alloc 124) rfl ?_; refine wp_alloc_ rfl _ rfl (.agg zsec) (zsec_zero _) ?_; intro w4 hz4 hf4 hs4; have HF4 := Aside0.mk hf4; have HZ4 := Aside0.mk hz4; clear h2 hp hz4 hf4 hs4)
          | (refine gate_ (.store 124 (.tmp 6) (.tmp 21)) rfl ?_; refine wp_store_ rfl rfl _ _ _ rfl (.agg (secC xs)) ((xs).map (.int .u8)) rfl rfl (secC_seg _) HZ4.out (by rw [List.length_map, HXL.out]; exact sec_size) (by rw [List.length_map, HXL.out]; exact Nat.le_of_eq zsec_size.symm) (seg_one _) ?_; intro w5 arr5 e1 e2 e3 e4 e5; obtain rfl := whole_row2 (HXL.out) zsec_size e3; have HX5 := Aside0.mk e1; have HF5 := Aside0.mk (HF4.out.step e4 (fun k hk _ => Nat.ne_of_lt hk)); have h15 : w5.cell? ⟨b, 1, none⟩ = some (.slice (some ⟨d.bs, 0, none⟩) d.n d.n) := (blk_cell (HF5.out.kept HCR.out.blk trivial) 1).trans rfl; clear e1 e2 e3 e4 e5; have hq := cell_fr0 HF5.out HQ0.out trivial))
          have hj0 : (0 : Int) ≤ (p : Int) := Int.natCast_nonneg _
          have hj1 : (p : Int) < (d.n : Int) := by have := HPL.out; omega
          have hj2 : p < d.n := HPL.out
          go_still_tail 7, (by kernel_rfl)
          refine st_load_ (W := w5.drew) rfl _ _ rfl _ _ rfl (run_load_sec w5.drew wr.heap.size 0 _ _ _ xs HX5.out HXL.out (sec_get xs HXL.out)) ?_
          repeat still_step
          try refine wpStill_nil ?_
          change wpList _ _ _ _ _ w5.drew
          obtain ⟨arr6, hs6, hsz6, hse6, hsl6⟩ := HCR.out.sure
          have HH6 : Aside0 (w5.drew.heap[d.bs]? = some (.cells arr6 124 (0, 0))) := ⟨HF5.out.kept hs6 trivial⟩
          have HX6 : Aside0 (w5.drew.heap[wr.heap.size]? = some (.cells (secC xs) 124 (0, 0))) := ⟨HX5.out⟩
          have HSZ6 := Aside0.mk hsz6
          have HSE6 := Aside0.mk hse6
          have HSL6 := Aside0.mk hsl6
          have hfd : Fr (fun _ => True) wr w5.drew := HF5.out.drew
          have HFD := Aside0.mk hfd
          clear hs6 hsz6 hse6 hsl6 h15 hj0 hj1 hj2 hfd hq
          generalize w5.drew = w6 at HH6 HX6 HFD ⊢
          refine wp_store_ rfl rfl _ _ _ rfl (.agg (secC xs)) ((xs).map (.int .u8)) rfl rfl (secC_seg _) HH6.out (by rw [List.length_map, HXL.out]; exact sec_size) (by have := HPL.out; rw [List.length_map, HXL.out, HSZ6.out]; omega) (seg_one _) ?_
          intro w7 arr7 e1 e2 e3 e4 e5
          have hs7 := Sure.laid (p := 0) (i := p) (xs := xs) (w' := w7) HH6.out HSZ6.out HSE6.out HSL6.out HPL.out (by rw [HXL.out]; exact Nat.le_refl _) e1 e2 e3
          rw [laidAt_all _ _ (by rw [HXL.out, HSL6.out p HPL.out])] at hs7
          replace hs7 := HSTEP.out w7 xs (by unfold howS; rw [if_pos (by have h := HE.out.1; simpa using h)]) hs7
          have HC7 := Aside0.mk (show Cr w7 b d keep (k + 1) from ⟨e4.kept (HFD.out.kept HCR.out.blk trivial) HAP.out.1, hs7, (HCR.out.waits.kept HFD.out trivial).kept e4 (fun e => HAP.out.2.2 e.symm)⟩)
          have HF7 := Aside0.mk ((HFR.out.step HFD.out (fun _ _ _ => trivial)).step e4 (fun _ _ h => h))
          clear e1 e2 e3 e4 e5 hs7
          go_wp2_with fail
          try rw [HW.out]
          go_roundg k2
          case measure => exact Nat.lt_succ_self _
          case rel => exact ⟨k + 1, rfl, ⟨by have := HKQ.out; omega⟩, ⟨by have := HILT.out; omega⟩, HC7, HF7⟩
        | false =>
          cases e2 with
          | true =>
            go_wp2_with (first
            | (at_lookup; refine wp_look_ rfl _ _ 79 rfl 3 124 dk_key Try.underlying79 secR (zsec_zero _) (.held (.agg zsec)) [] (secR_mk _ zsec_size) d.bm d.cnt D rfl HOW.out _ _ rfl HKY.out ?_; intro v ps hv; rw [HAT.out] at hv; obtain rfl := sec_read hv; clear hv)
            | (refine gate_ (.alloc 124) rfl ?_; refine wp_alloc_ rfl _ rfl (.agg zsec) (zsec_zero _) ?_; intro w4 hz4 hf4 hs4; have HF4 := Aside0.mk hf4; have HZ4 := Aside0.mk hz4; clear h2 hp hz4 hf4 hs4)
            | (refine gate_ (.store 124 (.tmp 6) (.tmp 21)) rfl ?_; refine wp_store_ rfl rfl _ _ _ rfl (.agg (secC xs)) ((xs).map (.int .u8)) rfl rfl (secC_seg _) HZ4.out (by rw [List.length_map, HXL.out]; exact sec_size) (by rw [List.length_map, HXL.out]; exact Nat.le_of_eq zsec_size.symm) (seg_one _) ?_; intro w5 arr5 e1 e2 e3 e4 e5; obtain rfl := whole_row2 (HXL.out) zsec_size e3; have HX5 := Aside0.mk e1; have HF5 := Aside0.mk (HF4.out.step e4 (fun k hk _ => Nat.ne_of_lt hk)); have h15 : w5.cell? ⟨b, 1, none⟩ = some (.slice (some ⟨d.bs, 0, none⟩) d.n d.n) := (blk_cell (HF5.out.kept HCR.out.blk trivial) 1).trans rfl; clear e1 e2 e3 e4 e5; have hq := cell_fr0 HF5.out HQ0.out trivial))
            have hj0 : (0 : Int) ≤ (p : Int) := Int.natCast_nonneg _
            have hj1 : (p : Int) < (d.n : Int) := by have := HPL.out; omega
            have hj2 : p < d.n := HPL.out
            go_still_tail 8, (by kernel_rfl)
            try refine wpStill_nil ?_
            change wpList _ _ _ _ _ w5.drew
            obtain ⟨arr6, hs6, hsz6, hse6, hsl6⟩ := HCR.out.sure
            have HH6 : Aside0 (w5.drew.heap[d.bs]? = some (.cells arr6 124 (0, 0))) := ⟨HF5.out.kept hs6 trivial⟩
            have HX6 : Aside0 (w5.drew.heap[wr.heap.size]? = some (.cells (secC xs) 124 (0, 0))) := ⟨HX5.out⟩
            have HSZ6 := Aside0.mk hsz6
            have HSE6 := Aside0.mk hse6
            have HSL6 := Aside0.mk hsl6
            have hfd : Fr (fun _ => True) wr w5.drew := HF5.out.drew
            have HFD := Aside0.mk hfd
            clear hs6 hsz6 hse6 hsl6 h15 hj0 hj1 hj2 hfd hq
            generalize w5.drew = w6 at HH6 HX6 HFD ⊢
            refine wp_copy_ rfl 35 _ _ rfl 5 Try.underlying35 u8_size (some ⟨wr.heap.size, 0, none⟩) (xs.take 32) rfl rfl (C_lo HX6.out HXL.out) HH6.out (by have := HPL.out; rw [HSZ6.out]; omega) ?_
            intro w7 arr7 e1 e2 e3 e4 e5
            have hs7 := Sure.copied (p := 0) (i := p) (ys := xs.take 32) (w' := w7) HH6.out HSZ6.out HSE6.out HSL6.out HPL.out (by rw [List.length_take, HXL.out]; rfl) (by omega) e1 e2 e3
            replace hs7 := HSTEP.out w7 _ (by unfold howS; rw [if_neg (by have h := HE.out.1; simpa using h), if_pos (by have h := HE.out.2.1; simpa using h)]) hs7
            have HC7 := Aside0.mk (show Cr w7 b d keep (k + 1) from ⟨e4.kept (HFD.out.kept HCR.out.blk trivial) HAP.out.1, hs7, (HCR.out.waits.kept HFD.out trivial).kept e4 (fun e => HAP.out.2.2 e.symm)⟩)
            have HF7 := Aside0.mk ((HFR.out.step HFD.out (fun _ _ _ => trivial)).step e4 (fun _ _ h => h))
            clear e1 e2 e3 e4 e5 hs7
            go_wp2_with fail
            try rw [HW.out]
            go_roundg k2
            case measure => exact Nat.lt_succ_self _
            case rel => exact ⟨k + 1, rfl, ⟨by have := HKQ.out; omega⟩, ⟨by have := HILT.out; omega⟩, HC7, HF7⟩
          | false =>
            cases e3 with
            | true =>
              go_wp2_with (first
              | (at_lookup; refine wp_look_ rfl _ _ 79 rfl 3 124 dk_key Try.underlying79 secR (zsec_zero _) (.held (.agg zsec)) [] (secR_mk _ zsec_size) d.bm d.cnt D rfl HOW.out _ _ rfl HKY.out ?_; intro v ps hv; rw [HAT.out] at hv; obtain rfl := sec_read hv; clear hv)
              | (refine gate_ (.alloc 124) rfl ?_; refine wp_alloc_ rfl _ rfl (.agg zsec) (zsec_zero _) ?_; intro w4 hz4 hf4 hs4; have HF4 := Aside0.mk hf4; have HZ4 := Aside0.mk hz4; clear h2 hp hz4 hf4 hs4)
              | (refine gate_ (.store 124 (.tmp 6) (.tmp 21)) rfl ?_; refine wp_store_ rfl rfl _ _ _ rfl (.agg (secC xs)) ((xs).map (.int .u8)) rfl rfl (secC_seg _) HZ4.out (by rw [List.length_map, HXL.out]; exact sec_size) (by rw [List.length_map, HXL.out]; exact Nat.le_of_eq zsec_size.symm) (seg_one _) ?_; intro w5 arr5 e1 e2 e3 e4 e5; obtain rfl := whole_row2 (HXL.out) zsec_size e3; have HX5 := Aside0.mk e1; have HF5 := Aside0.mk (HF4.out.step e4 (fun k hk _ => Nat.ne_of_lt hk)); have h15 : w5.cell? ⟨b, 1, none⟩ = some (.slice (some ⟨d.bs, 0, none⟩) d.n d.n) := (blk_cell (HF5.out.kept HCR.out.blk trivial) 1).trans rfl; clear e1 e2 e3 e4 e5; have hq := cell_fr0 HF5.out HQ0.out trivial))
              have hj0 : (0 : Int) ≤ (p : Int) := Int.natCast_nonneg _
              have hj1 : (p : Int) < (d.n : Int) := by have := HPL.out; omega
              have hj2 : p < d.n := HPL.out
              go_still_tail 8, (by kernel_rfl)
              try refine wpStill_nil ?_
              change wpList _ _ _ _ _ w5.drew
              obtain ⟨arr6, hs6, hsz6, hse6, hsl6⟩ := HCR.out.sure
              have HH6 : Aside0 (w5.drew.heap[d.bs]? = some (.cells arr6 124 (0, 0))) := ⟨HF5.out.kept hs6 trivial⟩
              have HX6 : Aside0 (w5.drew.heap[wr.heap.size]? = some (.cells (secC xs) 124 (0, 0))) := ⟨HX5.out⟩
              have HSZ6 := Aside0.mk hsz6
              have HSE6 := Aside0.mk hse6
              have HSL6 := Aside0.mk hsl6
              have hfd : Fr (fun _ => True) wr w5.drew := HF5.out.drew
              have HFD := Aside0.mk hfd
              clear hs6 hsz6 hse6 hsl6 h15 hj0 hj1 hj2 hfd hq
              generalize w5.drew = w6 at HH6 HX6 HFD ⊢
              refine wp_copy_ rfl 35 _ _ rfl 5 Try.underlying35 u8_size (some ⟨wr.heap.size, 32, none⟩) (xs.drop 32) rfl rfl (C_hi HX6.out HXL.out) HH6.out (by have := HPL.out; rw [HSZ6.out]; omega) ?_
              intro w7 arr7 e1 e2 e3 e4 e5
              have hs7 := Sure.copied (p := 32) (i := p) (ys := xs.drop 32) (w' := w7) HH6.out HSZ6.out HSE6.out HSL6.out HPL.out (by rw [List.length_drop, HXL.out]) (by omega) e1 e2 e3
              replace hs7 := HSTEP.out w7 _ (by unfold howS; rw [if_neg (by have h := HE.out.1; simpa using h), if_neg (by have h := HE.out.2.1; simpa using h), if_pos (by have h := HE.out.2.2; simpa using h)]) hs7
              have HC7 := Aside0.mk (show Cr w7 b d keep (k + 1) from ⟨e4.kept (HFD.out.kept HCR.out.blk trivial) HAP.out.1, hs7, (HCR.out.waits.kept HFD.out trivial).kept e4 (fun e => HAP.out.2.2 e.symm)⟩)
              have HF7 := Aside0.mk ((HFR.out.step HFD.out (fun _ _ _ => trivial)).step e4 (fun _ _ h => h))
              clear e1 e2 e3 e4 e5 hs7
              go_wp2_with fail
              try rw [HW.out]
              go_roundg k2
              case measure => exact Nat.lt_succ_self _
              case rel => exact ⟨k + 1, rfl, ⟨by have := HKQ.out; omega⟩, ⟨by have := HILT.out; omega⟩, HC7, HF7⟩
            | false =>
              go_wp2_with (first
              | (at_lookup; refine wp_look_ rfl _ _ 79 rfl 3 124 dk_key Try.underlying79 secR (zsec_zero _) (.held (.agg zsec)) [] (secR_mk _ zsec_size) d.bm d.cnt D rfl HOW.out _ _ rfl HKY.out ?_; intro v ps hv; rw [HAT.out] at hv; obtain rfl := sec_read hv; clear hv)
              | (refine gate_ (.alloc 124) rfl ?_; refine wp_alloc_ rfl _ rfl (.agg zsec) (zsec_zero _) ?_; intro w4 hz4 hf4 hs4; have HF4 := Aside0.mk hf4; have HZ4 := Aside0.mk hz4; clear h2 hp hz4 hf4 hs4)
              | (refine gate_ (.store 124 (.tmp 6) (.tmp 21)) rfl ?_; refine wp_store_ rfl rfl _ _ _ rfl (.agg (secC xs)) ((xs).map (.int .u8)) rfl rfl (secC_seg _) HZ4.out (by rw [List.length_map, HXL.out]; exact sec_size) (by rw [List.length_map, HXL.out]; exact Nat.le_of_eq zsec_size.symm) (seg_one _) ?_; intro w5 arr5 e1 e2 e3 e4 e5; obtain rfl := whole_row2 (HXL.out) zsec_size e3; have HX5 := Aside0.mk e1; have HF5 := Aside0.mk (HF4.out.step e4 (fun k hk _ => Nat.ne_of_lt hk)); have h15 : w5.cell? ⟨b, 1, none⟩ = some (.slice (some ⟨d.bs, 0, none⟩) d.n d.n) := (blk_cell (HF5.out.kept HCR.out.blk trivial) 1).trans rfl; clear e1 e2 e3 e4 e5; have hq := cell_fr0 HF5.out HQ0.out trivial))
              have HFA := Aside0.mk (HFR.out.step HF5.out (fun _ _ _ => trivial))
              have hc7 : Cr w5 b d keep (k + 1) := ⟨HF5.out.kept HCR.out.blk trivial, HSTEP.out w5 _ (by unfold howS; rw [if_neg (by have h := HE.out.1; simpa using h), if_neg (by have h := HE.out.2.1; simpa using h), if_neg (by have h := HE.out.2.2; simpa using h)]) (HNO.out w5 (HCR.out.sure.kept HF5.out trivial)), HCR.out.waits.kept HF5.out trivial⟩
              have HC7 := Aside0.mk hc7
              clear hc7
              try rw [HW.out]
              go_roundg k2
              case measure => exact Nat.lt_succ_self _
              case rel => exact ⟨k + 1, rfl, ⟨by have := HKQ.out; omega⟩, ⟨by have := HILT.out; omega⟩, HC7, HFA⟩
      · have c2 : decide ((k : Int) < (kl : Int)) = false := decide_eq_false (by omega)
        have c2b : decide (k < kl) = false := decide_eq_false hkb
        have HKZ := Aside0.mk (show keep.getD k 0 = 0 by have := HKL.out; rw [List.getD_eq_getElem?_getD, List.getElem?_eq_none (by omega)]; rfl)
        clear hkb
        go_wp2_with (first
          | (at_lookup; refine wp_look_ rfl _ _ 79 rfl 3 124 dk_key Try.underlying79 secR (zsec_zero _) (.held (.agg zsec)) [] (secR_mk _ zsec_size) d.bm d.cnt D rfl HOW.out _ _ rfl HKY.out ?_; intro v ps hv; rw [HAT.out] at hv; obtain rfl := sec_read hv; clear hv)
          | (refine gate_ (.alloc 124) rfl ?_; refine wp_alloc_ rfl _ rfl (.agg zsec) (zsec_zero _) ?_; intro w4 hz4 hf4 hs4; have HF4 := Aside0.mk hf4; have HZ4 := Aside0.mk hz4; clear h2 hp hz4 hf4 hs4)
          | (refine gate_ (.store 124 (.tmp 6) (.tmp 21)) rfl ?_; refine wp_store_ rfl rfl _ _ _ rfl (.agg (secC xs)) ((xs).map (.int .u8)) rfl rfl (secC_seg _) HZ4.out (by rw [List.length_map, HXL.out]; exact sec_size) (by rw [List.length_map, HXL.out]; exact Nat.le_of_eq zsec_size.symm) (seg_one _) ?_; intro w5 arr5 e1 e2 e3 e4 e5; obtain rfl := whole_row2 (HXL.out) zsec_size e3; have HX5 := Aside0.mk e1; have HF5 := Aside0.mk (HF4.out.step e4 (fun k hk _ => Nat.ne_of_lt hk)); have h15 : w5.cell? ⟨b, 1, none⟩ = some (.slice (some ⟨d.bs, 0, none⟩) d.n d.n) := (blk_cell (HF5.out.kept HCR.out.blk trivial) 1).trans rfl; clear e1 e2 e3 e4 e5))
        have HFA := Aside0.mk (HFR.out.step HF5.out (fun _ _ _ => trivial))
        have hc7 : Cr w5 b d keep (k + 1) := ⟨HF5.out.kept HCR.out.blk trivial, HSTEP.out w5 _ (by rw [HKZ.out]; rfl) (HNO.out w5 (HCR.out.sure.kept HF5.out trivial)), HCR.out.waits.kept HF5.out trivial⟩
        have HC7 := Aside0.mk hc7
        clear hc7
        try rw [HW.out]
        go_roundg k2
        case measure => exact Nat.lt_succ_self _
        case rel => exact ⟨k + 1, rfl, ⟨by have := HKQ.out; omega⟩, ⟨by have := HILT.out; omega⟩, HC7, HFA⟩
    · have c1 : decide ((k : Int) < (m : Int)) = false := decide_eq_false (by omega)
      have c1b : decide (k < m) = false := decide_eq_false hi
      have hke : k = (pendN d).length := by have h1 := HI.out; have h2 := HM.out; unfold pendI at h2; rw [List.length_map] at h2; omega
      have HKE := Aside0.mk hke
      have h2 : wr.cell? ⟨b, 2, none⟩ = some (.map (some d.bm)) := (blk_cell HCR.out.blk 2).trans rfl
      obtain ⟨D, hown, hwt, hks⟩ := HCR.out.waits
      have HOW := Aside0.mk hown
      have HAP := Aside0.mk HCR.out.apart
      clear hown hwt hks hi hke
      go_wp2_with fail
      refine (disk_is.calls b _ _ _ wr HCR.out.blk).mono ?_
      rintro e w3 ⟨rfl, rfl⟩
      go_wp2_with (first
        | ((with_reducible refine gate_builtin (b := .clear) (xs := #[.tmp 68]) rfl ?_); refine wp_clear_ rfl _ 79 rfl 3 124 Try.underlying79 secR d.bm d.cnt D rfl HOW.out ?_; intro w5 hown5 hg5 hs5; have HO5 := Aside0.mk hown5; have HG5 := Aside0.mk (Fr.of_grown hg5); clear hown5 hg5 hs5))
      first | go_end0 | ((try simp only [Exit.inBlock, Exit.then]); refine bodyPost_ret (results_none rfl _ _ _) rfl ?_)
      refine ⟨rfl, ⟨HG5.out.kept HCR.out.blk (by have := HAP.out.2.1; simpa using this), ?_, ⟨_, HO5.out, fun i _ => rfl, fun kl hk => by cases hk⟩, H.out.2.2.2⟩, ?_⟩
      · have h1 := HCR.out.sure.kept HG5.out (by have := HAP.out.2.2; simpa using this)
        rw [HKE.out] at h1
        exact h1
      · exact ((HF1.out.mono (fun _ _ _ => trivial)).step HFR.out (fun q _ h => h.2)).step HG5.out (fun q _ h => by simpa using h.1)
end Go.Proofs.Ytbkpcepnhjnpgaa.X
