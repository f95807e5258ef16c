/- The contract of firkinlaw35.live: the page's example. -/
import Derived.Test.YtbkpcepnhjnpgaaStageG
import Derived.Test.YtbkpcepnhjnpgaaCrc0
import Derived.Test.YtbkpcepnhjnpgaaX1
namespace Go.Proofs.Ytbkpcepnhjnpgaa.X
open Go.RowKit Go.Maps Go.Proofs.YtbkpcepnhjnpgaaW.PrintWords Go.Proofs.YtbkpcepnhjnpgaaW.PrintLast Go.Proofs.YtbkpcepnhjnpgaaW.PrintMore
set_option linter.unusedVariables false
set_option linter.unusedSimpArgs false
theorem num35_same (x : Int) (w : World) : Calls Try.prog 16 #[.int .i64 x] w fun e w' => e = .returned (.int .i64 x) ∧ w' = w := by
  go_enter Try.func16, Try.ntmps16
  go_wp2_with fail
  go_ret
  exact ⟨rfl, rfl⟩
theorem calls_to {P : Program} {f : Nat} {args : Array Value} {w : World} {v : Value} {Q : Ending → World → Prop} (h : Calls P f args w fun e w' => e = .returned v ∧ w' = w) (hq : Q (.returned v) w) : Calls P f args w Q :=
  h.mono (by rintro e w' ⟨rfl, rfl⟩; exact hq)
theorem num35_to {x : Int} {w : World} {Q : Ending → World → Prop} (h : Q (.returned (.int .i64 x)) w) : Calls Try.prog 16 #[.int .i64 x] w Q :=
  (num35_same x w).mono (by rintro e w' ⟨rfl, rfl⟩; exact h)
def zeros (n : Nat) : List Int := List.replicate n 0
theorem zeros_len (n : Nat) : (zeros n).length = n := List.length_replicate
theorem zeros_bytes (n : Nat) : Crc.IsBytes (zeros n) := by
  intro x hx
  rw [(List.mem_replicate.mp hx).2]; decide
theorem crc_some (xs : List Int) (hb : Crc.IsBytes xs) (hl : xs.length < 1000000) : crc_Of.f (1000000 + 2 + 1) [xs] = some ((Crc.more 0 xs : Nat) : Int) :=
  Crc.of_is [xs] (fun l hl' => by rw [List.mem_singleton.mp hl']; exact ⟨hb, by omega⟩) (by simp) 1000000 (fun l hl' => by rw [List.mem_singleton.mp hl']; exact hl) _ (by simp)
theorem C_zeros {w : World} {g n : Nat} (h : w.heap[g]? = some (.cells (madeCells (Value.int .u8 0).cells (n * 1)) 5 (0, 0))) (hn : n ≤ 1000000) : Kd.C (Kd.int .u8) w (some ⟨g, 0, none⟩) n (zeros n) := by
  have h1 := Mem.C_ints (k := .u8) h (xs := zeros n) (fun i hi => by
    rw [zeros_len] at hi
    rw [← Array.getElem?_toList, made_zeros, List.getElem?_replicate, if_pos hi]
    unfold zeros
    rw [List.getD_eq_getElem?_getD, List.getElem?_replicate, if_pos hi]; rfl) (by rw [zeros_len]; omega)
  rwa [zeros_len] at h1
def nmA : ByteArray := ⟨#[97]⟩
theorem wname_A : wname ⟨#[97]⟩ = true := by decide
/-- A stage and its disk, made behind n0. -/
structure SS (n0 : Nat) (w : World) (b : Nat) (t : TS) (d : DS) : Prop where
  isT : IsT w b t
  isD : IsD w t.bd d
  live : Live w d.bw
  wt : d.wait = fun _ => none
  cn : d.cnt = 0
  hB : t.B = n0
  new : n0 ≤ b ∧ n0 ≤ t.bd ∧ n0 ≤ d.bw ∧ n0 ≤ d.bm ∧ n0 ≤ d.bs
  size : n0 ≤ w.heap.size
  fit : t.used ≤ t.n ∧ t.frm + t.n ≤ d.n
theorem SS.off {n0 : Nat} {w : World} {b : Nat} {t : TS} {d : DS} (h : SS n0 w b t d) {k : Nat} (hk : k < n0) : Off w b t d k :=
  ⟨by have := h.new; omega, by have := h.new; omega, by have := h.new; omega, by have := h.new; omega, .inl (by rw [h.hB]; exact hk)⟩
theorem SS.kept {n0 : Nat} {w w' : World} {b : Nat} {t : TS} {d : DS} (h : SS n0 w b t d) (hf : Fr (fun _ => True) w w') : SS n0 w' b t d :=
  ⟨h.isT.kept hf trivial (fun _ _ _ => trivial), h.isD.kept hf trivial trivial trivial, h.live.kept hf trivial, h.wt, h.cn, h.hB, h.new, Nat.le_trans h.size hf.size, h.fit⟩
theorem stage_Put.ss {n0 : Nat} {b : Nat} {t : TS} {d : DS} {nm : ByteArray} {A0 : Option Addr} {c0 : Nat} {xs : List Int} {w : World} (h : SS n0 w b t d) (hx : Kd.C (Kd.int .u8) w A0 xs.length xs) (hc : xs.length ≤ c0) (hnm : nm.size ≤ 9223372036854775807) (hn : wname nm = true) (hb : Crc.IsBytes xs) (hm : 1 ≤ xs.length) (hl : xs.length ≤ 60000)
    (hfit : t.used + nsec xs.length ≤ t.n) (hil : t.its.length ≤ 100000) (hA : ∀ ad, A0 = some ad → ad.block ≠ d.bw ∧ ad.block ≠ d.bm ∧ ad.block ≠ d.bs) :
    Calls Try.prog 18 #[.pointer (some ⟨b, 0, none⟩), .string nm, .slice A0 xs.length c0] w fun e w' => e = .returned (.int .i64 0) ∧ SS n0 w' b (putT t nm xs ((Crc.more 0 xs : Nat) : Int)) (laidD d (t.frm + t.used) xs) ∧ Fr (Off w b t d) w w' := by
  refine (stage_Put.calls _ b t d nm A0 c0 xs _ w h.isT h.isD h.live h.wt h.cn hx hc hnm hn hm hl hfit h.fit.2 hil (crc_some xs hb (by omega)) (by rw [h.hB]; exact h.size) hA).mono ?_
  rintro e w' ⟨he, h1, h2, h3, h4⟩
  exact ⟨he, ⟨h1, h2, h3, rfl, rfl, h.hB, h.new, Nat.le_trans h.size h4.size, ⟨hfit, h.fit.2⟩⟩, h4⟩
theorem stage_New.ss {n0 b : Nat} {d : DS} {x y : Nat} {w : World} (h : IsD w b d) (hl : Live w d.bw) (h1 : d.wait = fun _ => none) (h2 : d.cnt = 0) (hn : 1 ≤ d.n) (hx : x + y ≤ d.n) (h0 : n0 ≤ w.heap.size) (hb : n0 ≤ b ∧ n0 ≤ d.bw ∧ n0 ≤ d.bm ∧ n0 ≤ d.bs) :
    Calls Try.prog 15 #[.pointer (some ⟨b, 0, none⟩), .int .i64 (x : Int), .int .i64 (y : Int)] w fun e w' => e = .returned (.tuple #[.pointer (some ⟨w.heap.size, 0, none⟩), .int .i64 0]) ∧ SS n0 w' w.heap.size (newT b x y n0) d ∧ Fr (fun _ => True) w w' := by
  refine (stage_New.calls n0 b d x y w h hn ⟨by omega, by omega, by omega⟩).mono ?_
  rintro e w' ⟨he, h3, h4, h5⟩
  rw [Int.toNat_natCast, Int.toNat_natCast] at h3
  exact ⟨he, ⟨h3, h.kept h4 trivial trivial trivial, hl.kept h4 trivial, h1, h2, rfl, ⟨h0, hb.1, hb.2⟩, by rw [h5]; omega, ⟨Nat.zero_le _, hx⟩⟩, h4⟩
/-- A world and a disk of n sectors. -/
structure DN (n0 : Nat) (w : World) (b : Nat) (d : DS) (n : Nat) : Prop where
  isD : IsD w b d
  live : Live w d.bw
  eq : d.n = n ∧ d.sure = (fun _ => zbytes) ∧ d.wait = (fun _ => none) ∧ d.cnt = 0
  new : n0 ≤ b ∧ n0 ≤ d.bw ∧ n0 ≤ d.bm ∧ n0 ≤ d.bs
theorem disk_New.live {n0 bw m n : Nat} {w : World} (hw : IsW w bw (newW m)) (h0 : n0 ≤ bw) (hs : n0 ≤ w.heap.size) (h1 : 1 ≤ n) (h2 : n ≤ 1024) :
    Calls Try.prog 13 #[.pointer (some ⟨bw, 0, none⟩), .int .i64 (n : Int)] w fun e w' => ∃ b d, e = .returned (.tuple #[.pointer (some ⟨b, 0, none⟩), .int .i64 0]) ∧ DN n0 w' b d n ∧ Fr (fun _ => True) w w' := by
  refine (disk_New.calls bw _ n w hw h1 h2).mono ?_
  rintro e w' ⟨rfl, hd, hf, hs2⟩
  exact ⟨_, _, rfl, ⟨hd, ⟨_, hw.kept hf trivial, rfl, show (-1 : Int) ≤ 0 by decide⟩, ⟨rfl, rfl, rfl, rfl⟩, ⟨by omega, h0, show n0 ≤ w.heap.size + 1 by omega, hs⟩⟩, hf⟩
set_option maxHeartbeats 16000000 in
set_option maxRecDepth 100000 in
theorem firkinlaw35_live.calls (w : World) : Calls Try.prog 12 #[] w fun e w' => e = .returned (.bool true) ∧ Fr (fun k => k < w.heap.size) w w' := by
  go_enter Try.func12, Try.ntmps12
  go_wp2_with fail
  refine (world_New.calls w).mono ?_
  rintro e w1 ⟨rfl, hw1, _, hf1, hs1⟩
  have HW1 := Aside0.mk hw1
  have HF1 := Aside0.mk hf1
  have HS1 := Aside0.mk hs1
  clear hw1 hf1 hs1
  go_wp2_with fail
  refine (disk_New.live (n0 := w.heap.size) (n := 3) HW1.out (by omega) (by have := HS1.out; omega) (by omega) (by omega)).mono ?_
  rintro e w2 ⟨bd, d, rfl, hd, hf2⟩
  have HD := Aside0.mk hd
  have HF2 := Aside0.mk (HF1.out.trans hf2)
  clear hd hf2
  go_wp2_with fail
  refine (stage_New.ss (n0 := w.heap.size) (x := 1) (y := 2) HD.out.isD HD.out.live HD.out.eq.2.2.1 HD.out.eq.2.2.2 (by rw [HD.out.eq.1]; omega) (by rw [HD.out.eq.1]; omega) HF2.out.size HD.out.new).mono ?_
  rintro e w3 ⟨rfl, hss, hf3⟩
  have HSS := Aside0.mk hss
  have HF3 := Aside0.mk (HF2.out.trans hf3)
  have hn1 : nsec 129 = 3 := rfl
  have HN1 := Aside0.mk hn1
  generalize hbe : w2.heap.size = b at HSS ⊢
  clear hss hf3 hn1 hbe
  go_wp2_with (first
    | (refine gate_ (.makeSlice 35 (.const (.int .i64 129)) (.const (.int .i64 129))) rfl ?_; refine wp_make_ rfl _ _ _ rfl 5 Try.underlying35 (.int .u8 0) 1 1 u8_info 129 rfl rfl (by omega) (by omega) ?_; intro w4 h4 hf4 hs4; have HF4 := Aside0.mk hf4; clear h4 hf4 hs4))
  have HS4 := Aside0.mk (HSS.out.kept HF4.out)
  refine (stage_Put.full b (newT bd 1 2 w.heap.size) _ _ 129 129 w4 HS4.out.isT (by decide) wname_A (by omega) (by omega) (show (0 : Nat) ≤ 2 by decide) (show (2 : Nat) ≤ 1024 by decide) (show (2 : Nat) < 0 + nsec 129 by decide)).mono ?_
  rintro e w5 ⟨rfl, hf5⟩
  have HS5 := Aside0.mk (HS4.out.kept hf5)
  have HF5 := Aside0.mk ((HF3.out.trans HF4.out).trans hf5)
  clear hf5
  go_wp2_with (first
    | (refine gate_ (.makeSlice 35 (.const (.int .i64 65)) (.const (.int .i64 65))) rfl ?_; refine wp_make_ rfl _ _ _ rfl 5 Try.underlying35 (.int .u8 0) 1 1 u8_info 65 rfl rfl (by omega) (by omega) ?_; intro w6 h6 hf6 hs6; have HF6 := Aside0.mk (HF5.out.trans hf6); have HS6 := Aside0.mk (HS5.out.kept hf6); have HC6 := Aside0.mk (C_zeros h6 (by omega)); clear h6 hf6 hs6))
  have HZL := Aside0.mk (zeros_len 65)
  have HA : Aside0 (∀ ad, some (⟨w5.heap.size, 0, none⟩ : Addr) = some ad → ad.block ≠ d.bw ∧ ad.block ≠ d.bm ∧ ad.block ≠ d.bs) := ⟨by
    intro ad e
    injection e with e
    obtain ⟨s5, h5, _⟩ := HS5.out.live
    have h1 := h5.lt
    have h2 := HS5.out.isD.2.2.1.lt
    have h3 := HS5.out.isD.2.1.lt
    rw [← e]
    show w5.heap.size ≠ _ ∧ w5.heap.size ≠ _ ∧ w5.heap.size ≠ _
    omega⟩
  have HP := stage_Put.ss (nm := ⟨#[97]⟩) (c0 := 65) HS6.out (xs := zeros 65) (by rw [HZL.out]; exact HC6.out) (by rw [HZL.out]; exact Nat.le_refl _) (by decide) wname_A (zeros_bytes 65) (by rw [HZL.out]; omega) (by rw [HZL.out]; omega) (by rw [HZL.out]; exact (show (0 : Nat) + nsec 65 ≤ 2 by decide)) (by show (0 : Nat) ≤ 100000; omega) HA.out
  rw [HZL.out] at HP
  refine HP.mono ?_
  clear HP
  rintro e w7 ⟨rfl, hs7, hf7⟩
  have HF7 := Aside0.mk ((HF6.out.mono (fun _ _ _ => trivial)).step hf7 (fun k hk (h : k < w.heap.size) => HS6.out.off h))
  have hu7 := stage_Used.calls b _ w7 hs7.isT
  have hl7 := stage_Len.calls b _ w7 hs7.isT
  have e1 : (((putT (newT bd 1 2 w.heap.size) ⟨#[97]⟩ (zeros 65) ((Crc.more 0 (zeros 65) : Nat) : Int)).used : Nat) : Int) = 2 := by
    show ((0 + nsec (zeros 65).length : Nat) : Int) = 2
    rw [HZL.out]; rfl
  have e2 : (((putT (newT bd 1 2 w.heap.size) ⟨#[97]⟩ (zeros 65) ((Crc.more 0 (zeros 65) : Nat) : Int)).its.length : Nat) : Int) = 1 := rfl
  rw [e1] at hu7
  rw [e2] at hl7
  have HU7 := Aside0.mk hu7
  have HL7 := Aside0.mk hl7
  clear hs7 hf7 hu7 hl7 e1 e2
  go_wp2_with (first
    | (go_at_call 16; refine (num35_same _ _).mono ?_; rintro e w' ⟨rfl, rfl⟩)
    | (go_at_call 19; refine HU7.out.mono ?_; rintro e w' ⟨rfl, rfl⟩)
    | (go_at_call 20; refine HL7.out.mono ?_; rintro e w' ⟨rfl, rfl⟩))
  go_ret
  exact ⟨rfl, HF7.out⟩
end Go.Proofs.Ytbkpcepnhjnpgaa.X
