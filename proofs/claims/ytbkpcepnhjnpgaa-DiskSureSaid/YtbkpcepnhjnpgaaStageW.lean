/- The contract of stage.write: bytes in sectors, made sure. -/
import Derived.Test.YtbkpcepnhjnpgaaStageN
import Derived.Test.YtbkpcepnhjnpgaaDiskW
import Derived.Test.YtbkpcepnhjnpgaaCut3
import Derived.Test.YtbkpcepnhjnpgaaX1
namespace Go.Proofs.Ytbkpcepnhjnpgaa.X
open Go.RowKit Go.Maps Go.Proofs.YtbkpcepnhjnpgaaW.PrintWords Go.Proofs.YtbkpcepnhjnpgaaW.PrintLast Go.Proofs.YtbkpcepnhjnpgaaW.PrintMore
set_option linter.unusedVariables false
set_option linter.unusedSimpArgs false
def nsec (n : Nat) : Nat := (n + 63) / 64
def pad (xs : List Int) : List Int := xs ++ List.replicate (nsec xs.length * 64 - xs.length) 0
def chunk (xs : List Int) (j : Nat) : List Int := ((pad xs).drop (j * 64)).take 64
theorem nsec_le (n : Nat) : n ≤ nsec n * 64 := by unfold nsec; omega
theorem pad_len (xs : List Int) : (pad xs).length = nsec xs.length * 64 := by
  have := nsec_le xs.length
  unfold pad; simp; omega
theorem chunk_len (xs : List Int) (j : Nat) (h : j < nsec xs.length) : (chunk xs j).length = 64 := by
  unfold chunk
  rw [List.length_take, List.length_drop, pad_len]; omega
theorem sectors_f (n : Nat) (h : n ≤ 1000000) : stage_sectors.f (n : Int) = some ((nsec n : Nat) : Int) := by
  unfold stage_sectors.f nsec
  have h1 : wrap64 ((n : Int) + 64) = (n : Int) + 64 := by unfold wrap64; omega
  have h2 : wrap64 ((n : Int) + 64 - 1) = ((n + 63 : Nat) : Int) := by unfold wrap64; omega
  rw [h1, h2]
  have h3 : Int.tdiv ((n + 63 : Nat) : Int) 64 = (((n + 63) / 64 : Nat) : Int) := by
    rw [Int.tdiv_eq_ediv_of_nonneg (Int.natCast_nonneg _)]; omega
  rw [h3]
  congr 1
  unfold wrap64; omega
def putMany (base : Nat) (xs : List Int) (k : Nat) : Nat → Option (List Int) := fun j => if base ≤ j ∧ j < base + k then some (chunk xs (j - base)) else none
theorem putMany_step (base : Nat) (xs : List Int) (k : Nat) : putW (putMany base xs k) (base + k) (chunk xs k) = putMany base xs (k + 1) := by
  funext j
  unfold putW putMany
  by_cases h : j = base + k
  · rw [if_pos h, if_pos (by omega)]
    subst h
    rw [show base + k - base = k by omega]
  · rw [if_neg h]
    by_cases h2 : base ≤ j ∧ j < base + k
    · rw [if_pos h2, if_pos (by omega)]
    · rw [if_neg h2, if_neg (by omega)]
/-- The power is there, and stays. -/
def Live (w : World) (b : Nat) : Prop := ∃ s, IsW w b s ∧ s.dead = false ∧ s.fuse ≤ 0
theorem Live.kept {P : Nat → Prop} {a b : World} {g : Nat} (hi : Live a g) (h : Fr P a b) (hp : P g) : Live b g := by
  obtain ⟨s, h1, h2⟩ := hi
  exact ⟨s, h1.kept h hp, h2⟩
theorem Live.step {w : World} {b : Nat} {s : WS} (h : IsW w b (stepW s)) (hd : s.dead = false) (hf : s.fuse ≤ 0) : Live w b := by
  refine ⟨_, h, ?_, ?_⟩ <;> (unfold stepW; rw [if_neg (by omega)]; assumption)
def dW (d : DS) (base : Nat) (xs : List Int) (k : Nat) : DS := { d with wait := putMany base xs k, cnt := k }
theorem dW_zero {d : DS} (base : Nat) (xs : List Int) (h1 : d.wait = fun _ => none) (h2 : d.cnt = 0) : dW d base xs 0 = d := by
  unfold dW
  have : putMany base xs 0 = d.wait := by
    rw [h1]; funext j; unfold putMany; rw [if_neg (by omega)]
  rw [this]
  cases d; simp at h2; simp [h2]
theorem u8_info : (Try.prog.info? 5).map (fun i => (i.zero, i.size, i.bytes)) = some (some (.int .u8 0), 1, 1) := by kernel_rfl
theorem made_zeros (n : Nat) : (madeCells (Value.int .u8 0).cells (n * 1)).toList = List.replicate n (.int .u8 0) := by
  apply List.ext_getElem?
  intro j
  by_cases h : j < n
  · have h1 := made_get (Value.int .u8 0).cells (n * 1) j (by omega) (by decide)
    rw [Array.getElem?_toList, h1, show (Value.int IntKind.u8 0).cells.size = 1 from rfl, Nat.mod_one, List.getElem?_replicate, if_pos h]
    rfl
  · rw [List.getElem?_eq_none (by rw [Array.length_toList, size_madeCells]; omega), List.getElem?_eq_none (by simp; omega)]
theorem run_cut_sec (W : World) (g N i : Nat) (h : i * 64 + 64 ≤ N) :
    (Instr.slice 35 (.slice (some ⟨g, 0, none⟩) N N) (some (.int .i64 ((i * 64 : Nat) : Int))) (some (.int .i64 ((i * 64 + 64 : Nat) : Int))) (some (.int .i64 ((i * 64 + 64 : Nat) : Int)))).run Try.prog W = .ok (.slice (some ⟨g, i * 64, none⟩) 64 64) W := by
  have ht := Try.underlying35
  have hel : Try.prog.elem 35 = 5 := by simp [Program.elem, ht]
  have hu : Try.prog.underlying 35 = some (.slice (Try.prog.elem 35)) := by rw [hel]; exact ht
  obtain ⟨i0, hi, hzz⟩ := Option.map_eq_some_iff.1 u8_info
  simp only [Prod.mk.injEq] at hzz
  rw [run_slice_lhm (P := Try.prog) (w := W) 35 (some ⟨g, 0, none⟩) N N hu .i64 .i64 .i64 ((i * 64 : Nat) : Int) ((i * 64 + 64 : Nat) : Int) ((i * 64 + 64 : Nat) : Int) (by omega) (by omega) (by omega) (by omega), hel]
  simp [sizeOf, typeInfo, hi, hzz.2.1, sliced, Result.andThen, Addr.add]
  refine ⟨?_, by omega⟩
  rw [if_neg (by omega)]
  by_cases h0 : i = 0
  · subst h0; rfl
  · rw [if_neg (by omega), show ((i : Int) * 64).toNat = i * 64 by omega]
theorem C_sec {w : World} {g i : Nat} {xs ys : List Int} {e : TypeId} (hb : w.heap[g]? = some (.cells (secC xs) e (0, 0))) (hy : ys = (xs.drop (i * 64)).take 64) (h : i * 64 + 64 ≤ xs.length) : Kd.C (Kd.int .u8) w (some ⟨g, i * 64, none⟩) ys.length ys := by
  have hl : ys.length = 64 := by rw [hy, List.length_take, List.length_drop]; omega
  refine ⟨rfl, by omega, fun _ => ⟨_, rfl, fun j p hj => ⟨[.int .u8 p], rfl, rfl, fun q u hu => ?_⟩⟩⟩
  have hjl := (List.getElem?_eq_some_iff.1 hj).1
  match q, hu with
  | 0, hu =>
    rw [Mem.add_plain2, cell_of_row w g _ _ e _ hb]
    have e1 : i * 64 + (j * (Kd.int .u8).sz + 0) = i * 64 + j := by show i * 64 + (j * 1 + 0) = _; omega
    rw [e1]
    unfold secC
    rw [← Array.getElem?_toList]
    simp only
    rw [List.getElem?_map]
    rw [hy, List.getElem?_take, if_pos (by omega), List.getElem?_drop] at hj
    rw [hj]
    simpa using hu
  | q + 1, hu => simp at hu
def lay (f : Nat → List Int) (base : Nat) (xs : List Int) : Nat → List Int := fun j => if base ≤ j ∧ j < base + nsec xs.length then chunk xs (j - base) else f j
def laidD (d : DS) (base : Nat) (xs : List Int) : DS := { d with sure := lay d.sure base xs, wait := fun _ => none, cnt := 0 }
theorem laid_sync (d : DS) (base : Nat) (xs : List Int) : syncD (dW d base xs (nsec xs.length)) = laidD d base xs := by
  unfold syncD dW laidD
  congr 1
  funext j
  unfold DS.now lay putMany
  by_cases h : base ≤ j ∧ j < base + nsec xs.length
  · simp only [if_pos h]; rfl
  · simp only [if_neg h]; rfl
theorem Fr.drawn {w w' : World} (h : Drawn0 w w') : Fr (fun _ => True) w w' := by
  obtain ⟨n, rfl⟩ := h
  exact Fr.of_below (pw_below_drewN (Below.refl w.heap.size w) n) (fun k hk _ => hk)
theorem pad_row {arr : Array Value} {xs : List Int} {m N : Nat} (hm : xs.length = m) (hN : nsec xs.length = N) (h : arr.toList = List.take 0 (madeCells (Value.int .u8 0).cells (N * 64 * 1)).toList ++ List.map (Value.int .u8) (List.take (min m (N * 64)) xs) ++ List.drop (0 + min m (N * 64)) (madeCells (Value.int .u8 0).cells (N * 64 * 1)).toList) : arr = secC (pad xs) := by
  have h1 : m ≤ N * 64 := by rw [← hm, ← hN]; exact nsec_le _
  apply Array.ext'
  rw [h, made_zeros, Nat.min_eq_left h1, List.take_zero, List.nil_append, Nat.zero_add, List.take_of_length_le (by omega)]
  unfold secC pad
  rw [hN, hm]
  simp
theorem stage_apart {w : World} {b bd : Nat} {t : TS} {v : Value} {d : DS} (hT : w.heap[b]? = some (tBlk t v)) (h : IsD w bd d) (hL : Live w d.bw) : b ≠ d.bw ∧ b ≠ d.bm ∧ b ≠ d.bs := by
  obtain ⟨hb, ⟨arr, hs, _⟩, ⟨D, ⟨es, clock, hm, _⟩, _⟩, _⟩ := h
  obtain ⟨s, hw, _⟩ := hL
  unfold IsW at hw
  unfold tBlk at hT
  refine ⟨fun e => ?_, fun e => ?_, fun e => ?_⟩
  · rw [e, hw] at hT; injection hT with hT; injection hT with _ hT; cases hT
  · rw [e, hm] at hT; cases hT
  · rw [e, hs] at hT; injection hT with hT; injection hT with _ hT; cases hT
set_option maxHeartbeats 8000000 in
set_option maxRecDepth 100000 in
theorem stage_write.calls (b : Nat) (t : TS) (d : DS) (v : Value) (at_ : Nat) (A0 : Option Addr) (c0 : Nat) (xs : List Int) (w : World) (hT : w.heap[b]? = some (tBlk t v)) (hD : IsD w t.bd d) (hL : Live w d.bw) (hwt : d.wait = fun _ => none) (hcn : d.cnt = 0)
    (hx : Kd.C (Kd.int .u8) w A0 xs.length xs) (hc : xs.length ≤ c0) (hl : xs.length ≤ 60000) (hfit : t.frm + at_ + nsec xs.length ≤ d.n) :
    Calls Try.prog 64 #[.pointer (some ⟨b, 0, none⟩), .int .i64 (at_ : Int), .slice A0 xs.length c0] w fun e w' => e = .returned (.int .i64 0) ∧ IsD w' t.bd (laidD d (t.frm + at_) xs) ∧ Live w' d.bw ∧ Fr (fun k => k ≠ d.bw ∧ k ≠ d.bm ∧ k ≠ d.bs) w w' := by
  have HT := Aside0.mk hT
  have HD := Aside0.mk hD
  have HL := Aside0.mk hL
  have HWT := Aside0.mk hwt
  have HCN := Aside0.mk hcn
  have HX := Aside0.mk hx
  have HXL := Aside0.mk hl
  have HFIT := Aside0.mk hfit
  have hsec := sectors_f xs.length (by omega)
  have HSEC := Aside0.mk hsec
  have HPL := Aside0.mk (pad_len xs)
  have hu := Try.underlying47
  obtain ⟨N, hN⟩ : ∃ N, nsec xs.length = N := ⟨_, rfl⟩
  have HNE := Aside0.mk hN
  have HNL := Aside0.mk (show N ≤ 1024 by have := hD.2.2.2; omega)
  have hw1 : wrap64 ((N : Int) * 64) = ((N * 64 : Nat) : Int) := by have := hD.2.2.2; unfold wrap64; omega
  rw [hN] at HSEC HPL HFIT
  obtain ⟨m, hm⟩ : ∃ m, xs.length = m := ⟨_, rfl⟩
  have HML := Aside0.mk hm
  rw [hm] at HX HXL HSEC ⊢
  have HMN := Aside0.mk (show m ≤ N * 64 by rw [← hN, ← hm]; exact nsec_le _)
  have HBND := Aside0.mk (show b ≠ d.bw ∧ b ≠ d.bm ∧ b ≠ d.bs by exact stage_apart hT hD hL)
  clear hT hD hL hwt hcn hx hl hfit hsec hN hm hc
  go_enter Try.func64, Try.ntmps64
  go_wp2_with fail
  refine (stage_sectors.calls (m : Int) (N : Int) w HSEC.out).mono ?_
  rintro e w1 ⟨rfl, hdr⟩
  have HF1 := Aside0.mk (Fr.drawn hdr)
  clear hdr
  go_wp2_with (first
    | (refine gate_ (.makeSlice 35 (.tmp 15) (.tmp 15)) rfl ?_; refine wp_make_ rfl _ _ _ rfl 5 Try.underlying35 (.int .u8 0) 1 1 u8_info (N * 64) (congrArg (Value.int .i64) hw1) (congrArg (Value.int .i64) hw1) (by have := HNL.out; omega) (by have := HNL.out; omega) ?_; intro w2 h2 hf2 hs2; have H2 := Aside0.mk h2; have HF2 := Aside0.mk (HF1.out.step hf2 (fun _ _ _ => trivial)); have HG2 := Aside0.mk hf2; have HS2 := Aside0.mk hs2; clear h2 hf2 hs2)
    | ((with_reducible refine gate_builtin (b := .copy) (xs := #[.tmp 17, .tmp 18]) rfl ?_); refine wp_copy_ rfl 35 _ _ rfl 5 Try.underlying35 u8_size A0 xs rfl rfl (C_fr HX.out HF2.out (fun _ _ => trivial)) H2.out (by rw [size_madeCells]; omega) ?_; intro w3 arr3 e1 e2 e3 e4 e5; have HX3 := Aside0.mk e1; have HA3 := Aside0.mk e3; have HF3 := Aside0.mk (HF2.out.step e4 (fun k hk _ => by have := HF1.out.size; omega)); have HS3 := Aside0.mk (e5.trans HS2.out); clear e1 e2 e3 e4 e5))
  have harr := pad_row HML.out HNE.out HA3.out
  subst harr
  refine (stage_sectors.calls (m : Int) (N : Int) w3 HSEC.out).mono ?_
  rintro e w4 ⟨rfl, hdr⟩
  have hf4 := Fr.drawn hdr
  have HF4 := Aside0.mk (HF3.out.step hf4 (fun _ _ _ => trivial))
  have HX4 := Aside0.mk (hf4.kept HX3.out trivial)
  have HS4 := Aside0.mk (show w4.heap.size ≥ w1.heap.size + 1 by have := HS3.out; have := hf4.size; omega)
  have HD4 := Aside0.mk (HD.out.kept HF4.out trivial trivial trivial)
  have HL4 := Aside0.mk (HL.out.kept HF4.out trivial)
  have HT4 := Aside0.mk (HF4.out.kept HT.out trivial)
  clear hdr hf4 hw1 HA3
  go_wp2_with fail
  go_loopg [23] (N + 1) (fun kq v23 wr => ∃ (i : Nat), v23 = .int .i64 (i : Int) ∧ Aside0 (kq + i = N + 1) ∧ Aside0 (i ≤ N) ∧ Aside0 (IsD wr t.bd (dW d (t.frm + at_) xs i)) ∧ Aside0 (Live wr d.bw) ∧ Aside0 (Fr (fun k => k ≠ d.bw ∧ k ≠ d.bm) w4 wr))
  case atStart => exact ⟨0, rfl, ⟨by omega⟩, ⟨by omega⟩, ⟨by rw [dW_zero _ _ HWT.out HCN.out]; exact HD4.out⟩, HL4, ⟨Fr.refl _ _⟩⟩
  case round =>
    obtain ⟨i, rfl, HK, HI, HDR, HLR, HFR⟩ := hrel
    have HTR := Aside0.mk (HFR.out.kept HT4.out ⟨HBND.out.1, HBND.out.2.1⟩)
    cases gk with
    | zero => have h1 := HK.out; have h2 := HI.out; omega
    | succ k2 =>
    by_cases hi : i < N
    · have c1 : decide ((i : Int) < (N : Int)) = true := decide_eq_true (by omega)
      have c1b : decide (i < N) = true := decide_eq_true hi
      have HIL := Aside0.mk hi
      have HW := Aside0.mk (show wrap64 ((i : Int) + 1) = ((i + 1 : Nat) : Int) by have := HNL.out; unfold wrap64; omega)
      have HW2 := Aside0.mk (show wrap64 ((i : Int) * 64) = ((i * 64 : Nat) : Int) by have := HNL.out; unfold wrap64; omega)
      have HW3 := Aside0.mk (show wrap64 (((i + 1 : Nat) : Int) * 64) = ((i * 64 + 64 : Nat) : Int) by have := HNL.out; unfold wrap64; omega)
      have hcut : ∀ W : World, (Instr.slice 35 (.slice (some ⟨w1.heap.size, 0, none⟩) (N * 64) (N * 64)) (some (.int .i64 ((i : Int) * 64))) (some (.int .i64 ((i : Int) * 64 + 64))) (some (.int .i64 ((i : Int) * 64 + 64)))).run Try.prog W = .ok (.slice (some ⟨w1.heap.size, i * 64, none⟩) 64 64) W := fun W => by
        have h := run_cut_sec W w1.heap.size (N * 64) i (by omega)
        rwa [show ((i * 64 : Nat) : Int) = (i : Int) * 64 by omega, show ((i * 64 + 64 : Nat) : Int) = (i : Int) * 64 + 64 by omega] at h
      have h0 : wr.cell? ⟨b, 0, none⟩ = some (.pointer (some ⟨t.bd, 0, none⟩)) := (blk_cell HTR.out 0).trans rfl
      have h1 : wr.cell? ⟨b, 1, none⟩ = some (.int .i64 (t.frm : Int)) := (blk_cell HTR.out 1).trans rfl
      obtain ⟨x, hx⟩ : ∃ x : Int, IntKind.i64.wrap (IntKind.i64.wrap ((t.frm : Int) + (at_ : Int)) + (i : Int)) = x := ⟨_, rfl⟩
      have HXE := Aside0.mk (show x = ((t.frm + at_ + i : Nat) : Int) by
        rw [← hx]; have := HFIT.out; have := HD.out.2.2.2; simp only [IntKind.wrap_i64]; omega)
      clear hi
      go_wp2_with fail
      rw [HW.out, HW3.out, HW2.out]
      go_still_tail 17, (by kernel_rfl)
      change wpList _ _ _ _ _ wr.drew
      have HD5 := Aside0.mk (HDR.out.kept (Fr.refl (fun _ => True) wr).drew trivial trivial trivial)
      have HL5 := Aside0.mk (HLR.out.kept (Fr.refl (fun _ => True) wr).drew trivial)
      have HF5 := Aside0.mk (HFR.out.drew)
      have HX5 := Aside0.mk (HF5.out.kept HX4.out (by
        refine ⟨fun e => ?_, fun e => ?_⟩
        · have h9 := HL.out; obtain ⟨s9, h9, _⟩ := h9; have h8 := h9.lt; have h7 := HF1.out.size; omega
        · have h9 := HD.out.2.2.1.lt; have h7 := HF1.out.size; omega))
      generalize wr.drew = w5 at HD5 HL5 HF5 HX5 ⊢
      clear HDR HLR HFR HTR h0 h1 hcut hx
      obtain ⟨s, hs1, hs2, hs3⟩ := HL5.out
      have HS1 := Aside0.mk hs1
      have HS2 := Aside0.mk hs2
      have HS3' := Aside0.mk hs3
      clear hs1 hs2 hs3
      go_wp2_with fail
      rw [HXE.out]
      have hck := chunk_len xs i (by rw [HNE.out]; exact HIL.out)
      refine (disk_Write.calls t.bd (dW d (t.frm + at_) xs i) s (t.frm + at_ + i) (some ⟨w1.heap.size, i * 64, none⟩) 64 (chunk xs i) w5 HD5.out (by have := HFIT.out; have := HIL.out; show t.frm + at_ + i < d.n; omega) HS1.out HS2.out (C_sec HX5.out rfl (by rw [HPL.out]; have := HIL.out; omega)) (Nat.le_of_eq hck) hck (by have := HIL.out; have := HNL.out; show i < 1000000; omega) ?hne ?hA).mono ?_
      case hne => have h9 := HD5.out.apart HS1.out; exact ⟨h9.1, h9.2.1, h9.2.2.1, h9.2.2.2.1, h9.2.2.2.2.1⟩
      case hA => intro ad e; injection e with e; rw [← e]; show w1.heap.size ≠ d.bw; obtain ⟨s9, h9, _⟩ := HL.out; have h8 := h9.lt; have h7 := HF1.out.size; omega
      rintro e w6 ⟨rfl, hd6, hw6, hf6⟩
      rw [show ({ dW d (t.frm + at_) xs i with wait := putW (dW d (t.frm + at_) xs i).wait (t.frm + at_ + i) (chunk xs i), cnt := (dW d (t.frm + at_) xs i).cnt + 1 } : DS) = dW d (t.frm + at_) xs (i + 1) by unfold dW; simp only; rw [putMany_step]] at hd6
      have HD6 := Aside0.mk hd6
      have HL6 := Aside0.mk (Live.step hw6 HS2.out HS3'.out)
      have HF6 := Aside0.mk (HF5.out.trans hf6)
      clear hd6 hw6 hf6 hck
      go_wp2_with fail
      try rw [HW.out]
      go_roundg k2
      case measure => exact Nat.lt_succ_self _
      case rel => exact ⟨i + 1, rfl, ⟨by have := HK.out; omega⟩, ⟨by have := HIL.out; omega⟩, HD6, HL6, HF6⟩
    · have c1 : decide ((i : Int) < (N : Int)) = false := decide_eq_false (by omega)
      have c1b : decide (i < N) = false := decide_eq_false hi
      have hie : i = N := by have := HI.out; omega
      have HIE := Aside0.mk hie
      have h0 : wr.cell? ⟨b, 0, none⟩ = some (.pointer (some ⟨t.bd, 0, none⟩)) := (blk_cell HTR.out 0).trans rfl
      clear hi hie
      obtain ⟨s, hs1, hs2, hs3⟩ := HLR.out
      have HS1 := Aside0.mk hs1
      have HS2 := Aside0.mk hs2
      have HS3' := Aside0.mk hs3
      clear hs1 hs2 hs3
      go_wp2_with fail
      refine (disk_Sync.calls t.bd _ s _ HDR.out HS1.out HS2.out).mono ?_
      rintro e w6 ⟨rfl, hd6, hw6, hf6⟩
      rw [HIE.out, ← HNE.out, laid_sync] at hd6
      have HD6 := Aside0.mk hd6
      have HL6 := Aside0.mk (Live.step hw6 HS2.out HS3'.out)
      have HF6 := Aside0.mk hf6
      clear hd6 hw6 hf6
      go_wp2_with fail
      go_ret
      exact ⟨rfl, HD6.out, HL6.out, ((HF4.out.mono (fun _ _ _ => trivial)).step HFR.out (fun k _ h => ⟨h.1, h.2.1⟩)).step HF6.out (fun k _ h => h)⟩
end Go.Proofs.Ytbkpcepnhjnpgaa.X
