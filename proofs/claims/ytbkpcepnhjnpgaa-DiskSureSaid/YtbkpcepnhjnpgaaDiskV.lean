/- The contract of firkinlaw25.live. -/
import Derived.Test.YtbkpcepnhjnpgaaDiskLive
namespace Go.Proofs.Ytbkpcepnhjnpgaa.X
open Go.RowKit Go.Maps Go.Proofs.YtbkpcepnhjnpgaaW.PrintWords Go.Proofs.YtbkpcepnhjnpgaaW.PrintLast Go.Proofs.YtbkpcepnhjnpgaaW.PrintMore
set_option linter.unusedVariables false
set_option linter.unusedSimpArgs false
def coldD (d : DS) : DS := { d with wait := fun _ => none, cnt := 0 }
def sureD (d : DS) (i : Nat) (xs : List Int) : DS := { d with sure := setS d.sure i xs, wait := fun _ => none, cnt := 0 }
theorem setS_same (f : Nat → List Int) (i : Nat) : setS f i (f i) = f := by
  funext k; unfold setS; split <;> simp_all
theorem crash_lost (d : DS) (i : Nat) (xs : List Int) (hi : i < d.n) (hw : d.wait = fun _ => none) : crashD (putD d i xs) [] = coldD d := by
  have hp := pend_one d i xs hi hw
  unfold crashD coldD
  rw [hp]
  show ({ putD d i xs with sure := setS (putD d i xs).sure ((pendN (putD d i xs)).getD 0 0) _, wait := _, cnt := _ } : DS) = _
  rw [hp]
  show ({ putD d i xs with sure := setS d.sure i (howS 0 (d.sure i) _), wait := _, cnt := _ } : DS) = _
  have : ∀ ys, howS 0 (d.sure i) ys = d.sure i := fun ys => rfl
  rw [this, setS_same]
  rfl
theorem crash_cold (d : DS) (hw : d.wait = fun _ => none) : crashD d [] = coldD d := by
  unfold crashD
  rw [pend_none d hw]
  rfl
theorem sync_put (d : DS) (i : Nat) (xs : List Int) (hw : d.wait = fun _ => none) : syncD (putD d i xs) = sureD d i xs := by
  unfold syncD sureD
  have : (putD d i xs).now = setS d.sure i xs := by
    funext k
    unfold DS.now putD putW setS
    simp only [hw]
    split <;> simp
  rw [this]
  rfl
set_option maxHeartbeats 16000000 in
set_option maxRecDepth 100000 in
theorem firkinlaw25_live.calls (w : World) : Calls Try.prog 33 #[] w fun e w' => e = .returned (.bool true) ∧ Fr (fun k => k < w.heap.size) w w' := by
  have HFL := Aside0.mk full_calls
  go_enter Try.func33, Try.ntmps33
  go_wp2_with fail
  refine (world_New.calls w).mono ?_
  rintro e w1 ⟨rfl, hw1, _, hf1, hs1⟩
  have HW1 := Aside0.mk hw1
  have HF1 := Aside0.mk (hf1.mono (Q := fun _ => True) (fun _ _ _ => trivial))
  have HS1 := Aside0.mk hs1
  clear hw1 hf1 hs1
  go_wp2_with fail
  refine (disk_New.dw (n0 := w.heap.size) (n := 2) HW1.out (by omega) HF1.out.size (by omega) (by omega)).mono ?_
  rintro e w2 ⟨b, d, rfl, hd, hq, hf2⟩
  have HD2 := Aside0.mk hd
  have HQ := Aside0.mk hq
  have HF2 := Aside0.mk (HF1.out.trans hf2)
  clear hd hf2 hq
  go_wp2_with fail
  refine (HFL.out 7 w2).mono ?_
  rintro e w3 ⟨A3, c3, rfl, h3, hc3, hn3, hf3⟩
  have HF3 := Aside0.mk (HF2.out.trans hf3)
  have HC3 := Aside0.mk h3
  have HD3 := Aside0.mk (HD2.out.kept hf3)
  have HN3 := Aside0.mk (And.intro hc3 hn3)
  clear hf3 h3 hc3 hn3
  go_wp2_with fail
  have HP := disk_Write.dw (i := 0) HD3.out (by rw [HQ.out.1]; omega) HC3.out HN3.out.1 (by rw [HQ.out.2.2.2]; omega) (fun ad e => by have h1 := HN3.out.2 ad e; obtain ⟨s, hw, _⟩ := HD2.out.live; have h2 := hw.lt; omega)
  refine HP.mono ?_
  clear HP
  rintro e w4 ⟨rfl, hd4, hf4⟩
  have HD4 := Aside0.mk hd4
  have HF4 := Aside0.mk ((HF3.out.mono (fun _ _ _ => trivial)).step hf4 (fun k hk (h : k < w.heap.size) => by have := HD2.out.new; constructor <;> omega))
  clear hd4 hf4
  go_wp2_with fail
  refine (disk_Crash.dw HD4.out (nil_C _) (Nat.le_refl _) (fun _ ad e => by cases e)).mono ?_
  rintro e w5 ⟨rfl, hd5, hf5⟩
  rw [crash_lost d 0 _ (by rw [HQ.out.1]; omega) HQ.out.2.2.1] at hd5
  have HD5 := Aside0.mk hd5
  have HF5 := Aside0.mk (HF4.out.step hf5 (fun k hk (h : k < w.heap.size) => by have := HD2.out.new; constructor <;> (show k ≠ _; first | (show k ≠ d.bm; omega) | (show k ≠ d.bs; omega))))
  clear hd5 hf5
  go_wp2_with fail
  refine (disk_Read.dw (i := 0) HD5.out (by show 0 < d.n; rw [HQ.out.1]; omega) rfl).mono ?_
  rintro e w6 ⟨A6, rfl, h6, hn6, hf6⟩
  have HG6 := Aside0.mk (show ∀ ad, A6 = some ad → ad.block ≠ d.bw ∧ ad.block ≠ d.bm ∧ ad.block ≠ d.bs from fun ad e => by
    have h1 := hn6 ad e
    have h2 : d.bw < w5.heap.size ∧ d.bm < w5.heap.size ∧ d.bs < w5.heap.size := HD5.out.lt
    refine ⟨?_, ?_, ?_⟩ <;> omega)
  have HR6 := Aside0.mk (show Kd.C (Kd.int .u8) w6 A6 64 (full 0) by rw [show full 0 = (coldD d).sure 0 by show full 0 = d.sure 0; rw [HQ.out.2.1]; rfl]; exact h6)
  have HD6 := Aside0.mk (HD5.out.kept hf6)
  have HF6 := Aside0.mk (HF5.out.step hf6 (fun k hk h => trivial))
  clear h6 hf6 hn6
  go_wp2_with fail
  refine (HFL.out 7 w6).mono ?_
  rintro e w7 ⟨A7, c7, rfl, h7, hc7, hn7, hf7⟩
  have HF7 := Aside0.mk (HF6.out.step hf7 (fun k hk h => trivial))
  have HR7 := Aside0.mk (C_fr HR6.out hf7 (fun _ _ => trivial))
  have HC7 := Aside0.mk h7
  have HD7 := Aside0.mk (HD6.out.kept hf7)
  have HN7 := Aside0.mk (And.intro hc7 hn7)
  clear hf7 h7 hc7 hn7
  go_wp2_with fail
  have HP := disk_Write.dw (i := 1) HD7.out (by show 1 < d.n; rw [HQ.out.1]; omega) HC7.out HN7.out.1 (by show 0 < 900000; omega) (fun ad e => by have h1 := HN7.out.2 ad e; obtain ⟨s, hw, _⟩ := HD6.out.live; have h2 := hw.lt; omega)
  refine HP.mono ?_
  clear HP
  rintro e w8 ⟨rfl, hd8, hf8⟩
  have HD8 := Aside0.mk hd8
  have HF8 := Aside0.mk (HF7.out.step hf8 (fun k hk (h : k < w.heap.size) => by have := HD2.out.new; constructor <;> (first | (show k ≠ d.bw; omega) | (show k ≠ d.bm; omega))))
  have HR8 := Aside0.mk (show Kd.C (Kd.int .u8) w8 A6 64 (full 0) from C_fr HR7.out hf8 (fun ad e => ⟨(HG6.out ad e).1, (HG6.out ad e).2.1⟩))
  clear hd8 hf8
  go_wp2_with fail
  refine (disk_Sync.dw HD8.out).mono ?_
  rintro e w9 ⟨rfl, hd9, hf9⟩
  rw [sync_put (coldD d) 1 (full 7) rfl] at hd9
  have HD9 := Aside0.mk hd9
  have HF9 := Aside0.mk (HF8.out.step hf9 (fun k hk (h : k < w.heap.size) => by have := HD2.out.new; refine ⟨?_, ?_, ?_⟩ <;> (first | (show k ≠ d.bw; omega) | (show k ≠ d.bm; omega) | (show k ≠ d.bs; omega))))
  have HR9 := Aside0.mk (C_fr HR8.out hf9 HG6.out)
  clear hd9 hf9
  go_wp2_with fail
  refine (disk_Crash.dw HD9.out (nil_C _) (Nat.le_refl _) (fun _ ad e => by cases e)).mono ?_
  rintro e w10 ⟨rfl, hd10, hf10⟩
  rw [crash_cold _ rfl] at hd10
  have HD10 := Aside0.mk hd10
  have HF10 := Aside0.mk (HF9.out.step hf10 (fun k hk (h : k < w.heap.size) => by have := HD2.out.new; constructor <;> (first | (show k ≠ d.bm; omega) | (show k ≠ d.bs; omega))))
  have HR10 := Aside0.mk (C_fr HR9.out hf10 (fun ad e => ⟨(HG6.out ad e).2.1, (HG6.out ad e).2.2⟩))
  clear hd10 hf10
  go_wp2_with fail
  refine (disk_Read.dw (i := 1) HD10.out (by show 1 < d.n; rw [HQ.out.1]; omega) rfl).mono ?_
  rintro e w11 ⟨A11, rfl, h11, _, hf11⟩
  have HR6b := Aside0.mk (C_fr HR10.out hf11 (fun _ _ => trivial))
  have HR11 := Aside0.mk (show Kd.C (Kd.int .u8) w11 A11 64 (full 7) from h11)
  have HF11 := Aside0.mk (HF10.out.step hf11 (fun k hk h => trivial))
  clear h11 hf11
  go_wp2_with (first
    | (go_at_call 34; refine to25 (num25_same _ _) ?_))
  refine (HFL.out 0 w11).mono ?_
  rintro e w12 ⟨A12, c12, rfl, h12, hc12, hn12, hf12⟩
  have HF12 := Aside0.mk (HF11.out.step hf12 (fun k hk h => trivial))
  have HR12 := Aside0.mk (C_fr HR6b.out hf12 (fun _ _ => trivial))
  have HS12 := Aside0.mk (C_fr HR11.out hf12 (fun _ _ => trivial))
  have HC12 := Aside0.mk h12
  have HN12 := Aside0.mk hc12
  clear hf12 h12 hc12 hn12
  go_wp2_with fail
  refine (same_calls HR12.out (Nat.le_refl _) HC12.out HN12.out).mono ?_
  rintro e w13 ⟨rfl, hf13⟩
  have HF13 := Aside0.mk (HF12.out.step hf13 (fun k hk h => trivial))
  have HS13 := Aside0.mk (C_fr HS12.out hf13 (fun _ _ => trivial))
  clear hf13
  go_wp2_with fail
  refine (HFL.out 7 w13).mono ?_
  rintro e w14 ⟨A14, c14, rfl, h14, hc14, hn14, hf14⟩
  have HF14 := Aside0.mk (HF13.out.step hf14 (fun k hk h => trivial))
  have HS14 := Aside0.mk (C_fr HS13.out hf14 (fun _ _ => trivial))
  have HC14 := Aside0.mk h14
  have HN14 := Aside0.mk hc14
  clear hf14 h14 hc14 hn14
  go_wp2_with fail
  refine (same_calls HS14.out (Nat.le_refl _) HC14.out HN14.out).mono ?_
  rintro e w15 ⟨rfl, hf15⟩
  have HF15 := Aside0.mk (HF14.out.step hf15 (fun k hk h => trivial))
  clear hf15
  go_wp2_with fail
  go_ret
  exact ⟨rfl, HF15.out⟩
end Go.Proofs.Ytbkpcepnhjnpgaa.X
