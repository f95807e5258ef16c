/- The contract of stage.Put: an object is staged. -/
import Derived.Test.YtbkpcepnhjnpgaaStageW
import Derived.Test.YtbkpcepnhjnpgaaWName
import Derived.Test.YtbkpcepnhjnpgaaPlan
import Derived.Test.YtbkpcepnhjnpgaaX2
namespace Go.Proofs.Ytbkpcepnhjnpgaa.X
open Go.RowKit Go.Maps Go.Proofs.YtbkpcepnhjnpgaaW.PrintWords Go.Proofs.YtbkpcepnhjnpgaaW.PrintLast Go.Proofs.YtbkpcepnhjnpgaaW.PrintMore
set_option linter.unusedVariables false
set_option linter.unusedSimpArgs false
set_option maxRecDepth 100000 in
theorem stage_sectors.same (m : Nat) (h : m ≤ 1000000) (w : World) : Calls Try.prog 63 #[.int .i64 (m : Int)] w fun e w' => e = .returned (.int .i64 ((nsec m : Nat) : Int)) ∧ w' = w := by
  have h1 := sectors_f m h
  unfold stage_sectors.f at h1
  have H := Aside0.mk (Option.some.inj h1)
  clear h1 h
  go_enter Try.func63, Try.ntmps63
  go_wp2_with fail
  go_ret
  exact ⟨by rw [← H.out]; rfl, rfl⟩
/-- What a Put of a stage leaves as it was. -/
def Off (w : World) (b : Nat) (t : TS) (d : DS) (k : Nat) : Prop := k ≠ b ∧ k ≠ d.bw ∧ k ≠ d.bm ∧ k ≠ d.bs ∧ (k < t.B ∨ ∀ cells, w.heap[k]? ≠ some (.cells cells 111 (0, 0)))
def putT (t : TS) (nm : ByteArray) (xs : List Int) (sum : Int) : TS := { t with used := t.used + nsec xs.length, its := t.its ++ [⟨nm, t.used, xs.length, sum⟩] }
set_option maxRecDepth 100000 in
theorem stage_Put.bad (p : Value) (nm : ByteArray) (v : Value) (w : World) (h : Calls Try.prog 62 #[p] w fun e w' => e = .returned (.bool false) ∧ w' = w) : Calls Try.prog 18 #[p, .string nm, v] w fun e w' => e = .returned (.int .i64 9) ∧ w' = w := by
  have H := Aside0.mk h
  clear h
  go_enter Try.func18, Try.ntmps18
  go_wp2_with fail
  refine H.out.mono ?_
  rintro e w' ⟨rfl, rfl⟩
  go_wp2_with fail
  go_ret
  exact ⟨rfl, rfl⟩
set_option maxRecDepth 100000 in
theorem stage_Put.arg (b : Nat) (t : TS) (nm : ByteArray) (A0 : Option Addr) (m c0 : Nat) (w : World) (hT : IsT w b t) (hnm : nm.size ≤ 9223372036854775807) (h : wname nm = false ∨ m = 0) :
    Calls Try.prog 18 #[.pointer (some ⟨b, 0, none⟩), .string nm, .slice A0 m c0] w fun e w' => e = .returned (.int .i64 1) ∧ Fr (fun _ => True) w w' := by
  obtain ⟨A, c, hb, hr⟩ := hT
  have HB := Aside0.mk hb
  have HM := Aside0.mk hnm
  have HN := world_Name.calls nm
  obtain ⟨r, hrr⟩ : ∃ r, wname nm = r := ⟨_, rfl⟩
  rw [hrr] at HN h
  have HN := Aside0.mk HN
  clear hb hr hnm hrr
  cases r with
  | false =>
    clear h
    go_enter Try.func18, Try.ntmps18
    go_wp2_with fail
    refine (stage_is.calls b t _ w HB.out).mono ?_
    rintro e w' ⟨rfl, rfl⟩
    go_wp2_with fail
    refine (HN.out _ HM.out).mono ?_
    rintro e w1 ⟨rfl, hf⟩
    have HF := Aside0.mk hf
    clear hf
    go_wp2_with fail
    go_ret
    exact ⟨rfl, HF.out⟩
  | true =>
    obtain rfl : m = 0 := h.resolve_left (by simp)
    clear h
    go_enter Try.func18, Try.ntmps18
    go_wp2_with fail
    refine (stage_is.calls b t _ w HB.out).mono ?_
    rintro e w' ⟨rfl, rfl⟩
    go_wp2_with fail
    refine (HN.out _ HM.out).mono ?_
    rintro e w1 ⟨rfl, hf⟩
    have HF := Aside0.mk hf
    clear hf
    go_wp2_with fail
    go_ret
    exact ⟨rfl, HF.out⟩
set_option maxHeartbeats 8000000 in
set_option maxRecDepth 100000 in
theorem stage_Put.full (b : Nat) (t : TS) (nm : ByteArray) (A0 : Option Addr) (m c0 : Nat) (w : World) (hT : IsT w b t) (hnm : nm.size ≤ 9223372036854775807) (hn : wname nm = true) (hm : 1 ≤ m) (hl : m ≤ 60000) (hu : t.used ≤ t.n) (ht : t.n ≤ 1024) (hf : t.n < t.used + nsec m) :
    Calls Try.prog 18 #[.pointer (some ⟨b, 0, none⟩), .string nm, .slice A0 m c0] w fun e w' => e = .returned (.int .i64 7) ∧ Fr (fun _ => True) w w' := by
  obtain ⟨A, c, hb, hr⟩ := hT
  have HB := Aside0.mk hb
  have HM := Aside0.mk hnm
  have HN := world_Name.calls nm
  rw [hn] at HN
  have HN := Aside0.mk HN
  have c1 : ((m : Int) == 0) = false := by simp; omega
  have c1b : (m == 0) = false := by simp; omega
  have HL := Aside0.mk hl
  have hw : wrap64 ((t.n : Int) - (t.used : Int)) = (t.n : Int) - (t.used : Int) := by unfold wrap64; omega
  have HC := Aside0.mk (show decide (((nsec m : Nat) : Int) > IntKind.i64.wrap ((t.n : Int) - (t.used : Int))) = true from decide_eq_true (by rw [IntKind.wrap_i64]; omega))
  have hty := Try.underlying47
  clear hb hr hnm hm hl hu ht hf hn hw
  go_enter Try.func18, Try.ntmps18
  go_wp2_with fail
  refine (stage_is.calls b t _ w HB.out).mono ?_
  rintro e w' ⟨rfl, rfl⟩
  go_wp2_with fail
  refine (HN.out _ HM.out).mono ?_
  rintro e w1 ⟨rfl, hf⟩
  have HF := Aside0.mk hf
  have h2 : w1.cell? ⟨b, 2, none⟩ = some (.int .i64 (t.n : Int)) := (blk_cell (hf.kept HB.out trivial) 2).trans rfl
  have h3 : w1.cell? ⟨b, 3, none⟩ = some (.int .i64 (t.used : Int)) := (blk_cell (hf.kept HB.out trivial) 3).trans rfl
  clear hf
  have HS := Aside0.mk (stage_sectors.same m (by have := HL.out; omega))
  obtain ⟨q, hq⟩ : ∃ q : Int, ((nsec m : Nat) : Int) = q := ⟨_, rfl⟩
  rw [hq] at HS HC
  have hc := HC.out
  clear hq
  go_wp2_with fail
  refine wp_region_still_lit (by kernel_rfl) (by kernel_rfl) ?_
  repeat still_step
  still_call (HS.out _)
  repeat still_step
  refine wpStill_nil ?_
  change Exit.then _ _ _ _ w1.drew
  have HFD := Aside0.mk (HF.out.drew)
  clear h2 h3
  generalize w1.drew = w2 at HFD ⊢
  go_wp2_with fail
  go_ret
  exact ⟨rfl, HFD.out⟩
theorem item_apart {w : World} {k bd : Nat} {cells : Array Value} {d : DS} (hc : w.heap[k]? = some (.cells cells 111 (0, 0))) (h : IsD w bd d) (hL : Live w d.bw) : k ≠ d.bw ∧ k ≠ d.bm ∧ k ≠ d.bs := by
  obtain ⟨hb, ⟨arr, hs, _⟩, ⟨D, ⟨es, clock, hm, _⟩, _⟩, _⟩ := h
  obtain ⟨s, hw, _⟩ := hL
  unfold IsW at hw
  refine ⟨fun e => ?_, fun e => ?_, fun e => ?_⟩
  · rw [e, hw] at hc; injection hc with hc; injection hc with _ hc; cases hc
  · rw [e, hm] at hc; cases hc
  · rw [e, hs] at hc; injection hc with hc; injection hc with _ hc; cases hc
theorem item_apart2 {w : World} {k bd : Nat} {cells : Array Value} {d : DS} (hc : w.heap[k]? = some (.cells cells 111 (0, 0))) (h : IsD w bd d) : k ≠ bd := by
  intro e
  have hb := h.1
  rw [e, hb] at hc; injection hc with hc; injection hc with _ hc; cases hc
theorem it_info : (Try.prog.info? 111).map (fun i => (i.zero, i.size, i.bytes)) = some (some (.agg #[.string ⟨#[]⟩, .int .i64 0, .int .i64 0, .int .u32 0]), 4, 40) := by kernel_rfl
theorem it_M (w : World) (base : Nat) (okp : Nat → Prop) (x : It) : kIt.M w base okp x [.string x.f0, .int .i64 x.f1, .int .i64 x.f2, .int .u32 x.f3] :=
  ⟨[.string x.f0], [.int .i64 x.f1, .int .i64 x.f2, .int .u32 x.f3], rfl, rfl, [.int .i64 x.f1], [.int .i64 x.f2, .int .u32 x.f3], rfl, rfl, [.int .i64 x.f2], [.int .u32 x.f3], rfl, rfl, rfl⟩
set_option maxHeartbeats 16000000 in
set_option maxRecDepth 100000 in
theorem stage_Put.calls (K0 : Nat) (b : Nat) (t : TS) (d : DS) (nm : ByteArray) (A0 : Option Addr) (c0 : Nat) (xs : List Int) (sum : Int) (w : World) (hT : IsT w b t) (hD : IsD w t.bd d) (hL : Live w d.bw) (hwt : d.wait = fun _ => none) (hcn : d.cnt = 0)
    (hx : Kd.C (Kd.int .u8) w A0 xs.length xs) (hc : xs.length ≤ c0) (hnm : nm.size ≤ 9223372036854775807) (hn : wname nm = true) (hm : 1 ≤ xs.length) (hl : xs.length ≤ 60000) (hfit : t.used + nsec xs.length ≤ t.n) (hdn : t.frm + t.n ≤ d.n) (hil : t.its.length ≤ 100000) (hcrc : crc_Of.f K0 [xs] = some sum) (htb : t.B ≤ w.heap.size) (hA : ∀ ad, A0 = some ad → ad.block ≠ d.bw ∧ ad.block ≠ d.bm ∧ ad.block ≠ d.bs) :
    Calls Try.prog 18 #[.pointer (some ⟨b, 0, none⟩), .string nm, .slice A0 xs.length c0] w fun e w' => e = .returned (.int .i64 0) ∧ IsT w' b (putT t nm xs sum) ∧ IsD w' t.bd (laidD d (t.frm + t.used) xs) ∧ Live w' d.bw ∧ Fr (Off w b t d) w w' := by
  obtain ⟨A, c, hb, hr⟩ := hT
  have HB := Aside0.mk hb
  have HRR := Aside0.mk hr
  have HM := Aside0.mk hnm
  have HD := Aside0.mk hD
  have HL := Aside0.mk hL
  have HWT := Aside0.mk hwt
  have HCN := Aside0.mk hcn
  have HX := Aside0.mk hx
  have HC := Aside0.mk hc
  have HXL := Aside0.mk hl
  have HIL := Aside0.mk hil
  have HCRC := Aside0.mk hcrc
  have HA := Aside0.mk hA
  have HTB := Aside0.mk htb
  have HBT := Aside0.mk (stage_apart hb hD hL)
  have HFIT := Aside0.mk (show t.frm + t.used + nsec xs.length ≤ d.n by omega)
  have HN := world_Name.calls nm
  rw [hn] at HN
  have HN := Aside0.mk HN
  have hdl := hD.2.2.2
  have hw : wrap64 ((t.n : Int) - (t.used : Int)) = (t.n : Int) - (t.used : Int) := by unfold wrap64; omega
  have HT := Aside0.mk (show decide (((nsec xs.length : Nat) : Int) > IntKind.i64.wrap ((t.n : Int) - (t.used : Int))) = false from decide_eq_false (by rw [IntKind.wrap_i64]; omega))
  have HUW := Aside0.mk (show wrap64 ((t.used : Int) + ((nsec xs.length : Nat) : Int)) = ((t.used + nsec xs.length : Nat) : Int) by unfold wrap64; omega)
  have HS := Aside0.mk (stage_sectors.same xs.length (by omega))
  have hty := Try.underlying47
  obtain ⟨m, hmm⟩ : ∃ m, xs.length = m := ⟨_, rfl⟩
  have HML := Aside0.mk hmm
  rw [hmm] at hm hl
  rw [hmm] at HX HC HS ⊢
  have c1 : ((m : Int) == 0) = false := by simp; omega
  have c1b : (m == 0) = false := by simp; omega
  obtain ⟨q, hq⟩ : ∃ q : Int, ((nsec xs.length : Nat) : Int) = q := ⟨_, rfl⟩
  have HQ := Aside0.mk hq
  rw [hq] at HT HUW
  rw [← hmm, hq, hmm] at HS
  have HM2 := Aside0.mk hl
  clear hb hr hnm hm hl hn hw hD hL hwt hcn hx hc hfit hdn hil hcrc hdl hmm hq hA htb
  go_enter Try.func18, Try.ntmps18
  go_wp2_with fail
  refine (stage_is.calls b t _ w HB.out).mono ?_
  rintro e w' ⟨rfl, rfl⟩
  go_wp2_with fail
  refine (HN.out _ HM.out).mono ?_
  rintro e w1 ⟨rfl, hf⟩
  have HF := Aside0.mk hf
  have h2 : w1.cell? ⟨b, 2, none⟩ = some (.int .i64 (t.n : Int)) := (blk_cell (hf.kept HB.out trivial) 2).trans rfl
  have h3 : w1.cell? ⟨b, 3, none⟩ = some (.int .i64 (t.used : Int)) := (blk_cell (hf.kept HB.out trivial) 3).trans rfl
  have hc := HT.out
  clear hf
  go_wp2_with fail
  refine wp_region_still_lit (by kernel_rfl) (by kernel_rfl) ?_
  repeat still_step
  still_call (HS.out _)
  repeat still_step
  refine wpStill_nil ?_
  change Exit.then _ _ _ _ w1.drew
  have HF2 := Aside0.mk (HF.out.drew)
  clear h2 h3 hc
  generalize w1.drew = w2 at HF2 ⊢
  have HB2 := Aside0.mk (HF2.out.kept HB.out trivial)
  have h3 : w2.cell? ⟨b, 3, none⟩ = some (.int .i64 (t.used : Int)) := (blk_cell HB2.out 3).trans rfl
  go_wp2_with fail
  rw [← HML.out]
  refine (stage_write.calls b t d _ t.used A0 c0 xs w2 HB2.out (HD.out.kept HF2.out trivial trivial trivial) (HL.out.kept HF2.out trivial) HWT.out HCN.out (by rw [HML.out]; exact C_fr HX.out HF2.out (fun _ _ => trivial)) (by rw [HML.out]; exact HC.out) HXL.out HFIT.out).mono ?_
  rw [HML.out]
  rintro e w3 ⟨rfl, hd3, hl3, hf3⟩
  have HFA3 := Aside0.mk (show Fr (Off w' b t d) w' w3 from (HF2.out.mono (fun _ _ _ => trivial)).step hf3 (fun k _ h => ⟨h.2.1, h.2.2.1, h.2.2.2.1⟩))
  have HD3 := Aside0.mk hd3
  have HL3 := Aside0.mk hl3
  have HB3 := Aside0.mk (hf3.kept HB2.out HBT.out)
  have HX3 := Aside0.mk (C_fr (C_fr HX.out HF2.out (fun _ _ => trivial)) hf3 HA.out)
  have HR3 := Aside0.mk (R_typ (R_fr HRR.out HF2.out (fun _ _ _ => trivial)) hf3 (fun k cells q hq hc => by
    rcases List.mem_cons.1 hq with rfl | hq
    · exact item_apart hc (HD.out.kept HF2.out trivial trivial trivial) (HL.out.kept HF2.out trivial)
    · simp [kIt, Kd.iso, Kd.pair, Kd.string, Kd.int, Kd.scalar] at hq))
  clear hd3 hl3 hf3 h3
  go_wp2_with fail
  have HB4 := Aside0.mk (show w3.drew.heap[b]? = _ from HB3.out)
  have hvo := @valOf_ok
  refine wp_region_plan 18 [0, 1, 2, 3, 4, 5, 6, 7, 8, 9, 10, 11, 12] [13, 14, 15, 16, 17, 18, 19, 20] (fun w' => w'.heap[b]? = some (tBlk t (.slice A t.its.length c))) (by kernel_rfl) (by kernel_rfl) (fun _ _ d _ _ h => by cases d <;> exact h) HB4.out ?_
  have HEX : ∃ w', (fun w' : World => w'.heap[b]? = some (tBlk t (.slice A t.its.length c))) w' := ⟨_, HB4.out⟩
  simp only [List.map_cons, List.map_nil, List.getD_cons_zero, List.getD_cons_succ]
  repeat (apply held_step HEX; (case h => intro w' hS J hJ; have h4 : w'.cell? ⟨b, 4, none⟩ = some (.slice A t.its.length c) := (blk_cell hS 4).trans rfl; have h3 : w'.cell? ⟨b, 3, none⟩ = some (.int .i64 (t.used : Int)) := (blk_cell hS 3).trans rfl; clear hS; go_simp; exact hJ))
  refine held_nil ?_
  have HD4 := Aside0.mk (show IsD w3.drew t.bd (laidD d (t.frm + t.used) xs) from HD3.out.kept (Fr.refl (fun _ => True) w3).drew trivial trivial trivial)
  have HL4 := Aside0.mk (show Live w3.drew d.bw from HL3.out.kept (Fr.refl (fun _ => True) w3).drew trivial)
  have HX4 := Aside0.mk (show Kd.C (Kd.int .u8) w3.drew A0 m xs from C_fr HX3.out (Fr.refl (fun _ => True) w3).drew (fun _ _ => trivial))
  have HR4 := Aside0.mk (show Kd.R kIt 111 w3.drew t.B (fun k => k ≠ b) (.slice A t.its.length c) t.its from R_fr HR3.out (Fr.refl (fun _ => True) w3).drew (fun _ _ _ => trivial))
  have HFA4 := Aside0.mk (HFA3.out.drew)
  clear HB3 HX3 HR3 HD3 HL3 HEX HFA3
  generalize w3.drew = w4 at HB4 HD4 HL4 HX4 HR4 HFA4 ⊢
  refine post_step (fun K hK => ?_)
  have HK := Aside0.mk hK
  clear hK
  go_wp2_with fail
  have HB5 := Aside0.mk (show (w4.alloc (.cells #[.slice A0 m c0] 35)).heap[b]? = _ from Mem.alloc_old HB4.out)
  refine HK.out _ _ (fun _ => HB5.out) ?_
  clear HK K
  refine post_step (fun K hK => ?_)
  have HK := Aside0.mk hK
  clear hK
  go_wp2_with fail
  refine (crc_Of.calls K0 (some ⟨w4.heap.size, 0, none⟩) 1 [xs] sum _ (Mem.C_one (Mem.alloc_new _ _) (by rw [HML.out]; rfl) (by rw [HML.out]; exact HC.out) (by rw [HML.out]; exact Kd.C_alloc HX4.out _)) (Nat.le_refl _) HCRC.out).mono ?_
  rintro e w6 ⟨rfl, hdr⟩
  have HFA := Aside0.mk (HFA4.out.step ((fr_alloc w4 (.cells #[.slice A0 m c0] 35) (fun _ => True)).trans (Fr.drawn hdr)) (fun _ _ _ => trivial))
  have hf6 := (fr_alloc w4 (.cells #[.slice A0 m c0] 35) (fun _ => True)).trans (Fr.drawn hdr)
  have HB6 := Aside0.mk (hf6.kept HB4.out trivial)
  have HD6 := Aside0.mk (HD4.out.kept hf6 trivial trivial trivial)
  have HL6 := Aside0.mk (HL4.out.kept hf6 trivial)
  have HR6 := Aside0.mk (R_fr HR4.out hf6 (fun _ _ _ => trivial))
  clear hdr hf6 HB4 HD4 HL4 HX4 HR4 HB5
  go_wp2_with fail
  refine HK.out _ _ (fun _ => HB6.out) ?_
  clear HK K
  refine post_step (fun K hK => ?_)
  have HK := Aside0.mk hK
  clear hK
  go_wp2_with fail
  refine HK.out _ _ (fun _ => HB6.out) ?_
  clear HK K
  refine post_step (fun K hK => ?_)
  have HK := Aside0.mk hK
  clear hK
  go_wp2_with fail
  refine HK.out _ _ (fun _ => Mem.alloc_old HB6.out) ?_
  clear HK K
  refine post_step (fun K hK => ?_)
  have HK := Aside0.mk hK
  clear hK
  refine Kd.R_append kIt (w0 := w6) t.B rfl (.tmp 49) (.tmp 61) 45 111 _ 40 rfl Try.underlying45 it_info rfl (by decide) (by omega) (.slice A t.its.length c) t.its ⟨nm, t.used, m, sum⟩ [.string nm, .int .i64 (t.used : Int), .int .i64 (m : Int), .int .u32 sum] (fun k => k ≠ b) (fun _ => False) rfl rfl (it_M _ _ _ _) (fun _ h => h.elim) (fun k hk => by have h9 := (Array.getElem?_eq_some_iff.1 HB6.out).1; omega) HR6.out (Below.refl _ _) (by have h1 := HFA.out.size; have h2 := HTB.out; omega) (by have := HIL.out; omega) ?_
  intro v1 w7 ho hb7 hg7 hat
  have hfg := Fr.of_grown hg7
  have hty7 : ∀ k, some k = (Value.slice A t.its.length c).ownBlock → k ≠ b ∧ k ≠ t.bd ∧ k ≠ d.bw ∧ k ≠ d.bm ∧ k ≠ d.bs := fun k hk => by
    obtain ⟨inner, hown⟩ := Kd.R_own HR6.out
    obtain ⟨cells, hc9⟩ := own_typed hown k hk.symm
    have h9 := item_apart hc9 HD6.out HL6.out
    exact ⟨HR6.out.1 k hk.symm, item_apart2 hc9 HD6.out, h9⟩
  have HB7 := Aside0.mk (hfg.kept HB6.out (fun e => (hty7 b e).1 rfl))
  have HD7 := Aside0.mk (HD6.out.kept hfg (fun e => (hty7 t.bd e).2.1 rfl) (fun e => (hty7 _ e).2.2.2.2 rfl) (fun e => (hty7 _ e).2.2.2.1 rfl))
  have HL7 := Aside0.mk (HL6.out.kept hfg (fun e => (hty7 _ e).2.2.1 rfl))
  obtain ⟨A1, c1', rfl⟩ := Kd.R_slice ho
  rw [List.length_append, List.length_singleton] at ho
  rw [List.length_append, List.length_singleton]
  have HR7 := Aside0.mk ho
  have HFA7 := Aside0.mk (HFA.out.step hfg (fun k hk h e => by
    obtain ⟨inner, hown⟩ := Kd.R_own HR6.out
    obtain ⟨cells, hc9⟩ := own_typed hown k e.symm
    have h8 := own_base hown k e.symm
    rcases h.2.2.2.2 with h7 | h7
    · omega
    · exact h7 cells ((HFA.out.block k hk h).symm.trans hc9)))
  clear ho hb7 hg7 hat hfg hty7 HB6 HD6 HL6 HR6
  go_wp2_with fail
  refine HK.out _ _ (fun _ => HB7.out) ?_
  clear HK K
  refine post_step (fun K hK => ?_)
  have HK := Aside0.mk hK
  clear hK
  go_wp2_with fail
  refine HK.out _ _ (fun h => absurd h (by decide)) ?_
  clear HK K
  refine post_step (fun K hK => ?_)
  have HK := Aside0.mk hK
  clear hK
  go_wp2_with fail
  refine HK.out _ _ (fun h => absurd h (by decide)) ?_
  clear HK K
  refine post_step (fun K hK => ?_)
  have HK := Aside0.mk hK
  clear hK
  have h4 : w7.cell? ⟨b, 4, none⟩ = some (.slice A t.its.length c) := (blk_cell HB7.out 4).trans rfl
  have f4 := blk_frozen HB7.out 4
  go_wp2_with fail
  refine HK.out _ _ (fun h => absurd h (by decide)) ?_
  clear HK K h4 f4
  refine post_nil ?_
  have HB8 : Aside0 ((w7.setCell ⟨b, 4, none⟩ (.slice A1 (t.its.length + 1) c1')).heap[b]? = some (tBlk t (.slice A1 (t.its.length + 1) c1'))) := ⟨by
    have h9 := blk_set HB7.out 4 (.slice A1 (t.its.length + 1) c1')
    unfold tBlk at h9 ⊢
    simpa using h9⟩
  have hf8 : Fr (fun k => k ≠ b) w7 (w7.setCell ⟨b, 4, none⟩ (.slice A1 (t.its.length + 1) c1')) := (Fr.refl _ _).set (.inl (fun h => h rfl)) _
  have HBD := Aside0.mk (show t.bd ≠ b from fun e => by have h9 := HD7.out.1; rw [e, HB7.out] at h9; unfold tBlk at h9; injection h9 with h9; injection h9 with _ h9; cases h9)
  have HD8 := Aside0.mk (HD7.out.kept hf8 HBD.out (fun e => HBT.out.2.2 e.symm) (fun e => HBT.out.2.1 e.symm))
  have HL8 := Aside0.mk (HL7.out.kept hf8 (fun e => HBT.out.1 e.symm))
  have HR8 := Aside0.mk (R_fr HR7.out hf8 (fun k hk _ => hk))
  have HFA8 := Aside0.mk (HFA7.out.step hf8 (fun k _ h => h.1))
  clear HB7 HD7 HL7 HR7 hf8
  generalize w7.setCell ⟨b, 4, none⟩ (.slice A1 (t.its.length + 1) c1') = w8 at HB8 HD8 HL8 HR8 HFA8 ⊢
  have h3 : w8.cell? ⟨b, 3, none⟩ = some (.int .i64 (t.used : Int)) := (blk_cell HB8.out 3).trans rfl
  clear hvo
  go_wp2_with fail
  go_still_tail 10, (by kernel_rfl)
  still_call (HS.out _)
  repeat still_step
  refine wpStill_nil ?_
  change wpList _ _ _ _ _ w8.drew
  have HB9 := Aside0.mk (show w8.drew.heap[b]? = _ from HB8.out)
  have HD9 := Aside0.mk (show IsD w8.drew t.bd (laidD d (t.frm + t.used) xs) from HD8.out.kept (Fr.refl (fun _ => True) w8).drew trivial trivial trivial)
  have HL9 := Aside0.mk (show Live w8.drew d.bw from HL8.out.kept (Fr.refl (fun _ => True) w8).drew trivial)
  have HR9 := Aside0.mk (R_fr HR8.out (Fr.refl (fun _ => True) w8).drew (fun _ _ _ => trivial))
  have HFA9 := Aside0.mk (HFA8.out.drew)
  clear h3 HB8 HD8 HL8 HR8
  generalize w8.drew = w9 at HB9 HD9 HL9 HR9 HFA9 ⊢
  have h3 : w9.cell? ⟨b, 3, none⟩ = some (.int .i64 (t.used : Int)) := (blk_cell HB9.out 3).trans rfl
  have f3 := blk_frozen HB9.out 3
  go_wp2_with fail
  go_ret
  have hf9 := fun u => (Fr.refl (fun k => k ≠ b) w9).set (p := ⟨b, 3, none⟩) (.inl (fun h => h rfl)) u
  refine ⟨rfl, ⟨A1, c1', ?_, ?_⟩, HD9.out.kept (hf9 _) HBD.out (fun e => HBT.out.2.2 e.symm) (fun e => HBT.out.2.1 e.symm), HL9.out.kept (hf9 _) (fun e => HBT.out.1 e.symm), HFA9.out.step (hf9 _) (fun k _ h => h.1)⟩
  · have h9 := blk_set HB9.out 3 (.int .i64 (wrap64 ((t.used : Int) + q)))
    rw [HUW.out] at h9 ⊢
    have e1 : (putT t nm xs sum).its.length = t.its.length + 1 := by simp [putT]
    rw [e1]
    unfold tBlk
    simpa [putT] using h9
  · have e1 : (putT t nm xs sum).its.length = t.its.length + 1 := by simp [putT]
    rw [e1]
    have e2 : (putT t nm xs sum).its = t.its ++ [⟨nm, t.used, m, sum⟩] := by unfold putT; rw [HML.out]
    rw [e2]
    exact R_fr HR9.out (hf9 _) (fun k hk _ => hk)
end Go.Proofs.Ytbkpcepnhjnpgaa.X
