/- The contract of disk.Write. -/
import Derived.Test.YtbkpcepnhjnpgaaDiskN
import Derived.StillTailTactics
namespace Go.Proofs.Ytbkpcepnhjnpgaa.X
open Go.RowKit Go.Maps Go.Proofs.YtbkpcepnhjnpgaaW.PrintWords Go.Proofs.YtbkpcepnhjnpgaaW.PrintLast Go.Proofs.YtbkpcepnhjnpgaaW.PrintMore
set_option linter.unusedVariables false
set_option linter.unusedSimpArgs false
set_option maxRecDepth 100000 in
theorem disk_Write.bad (p : Value) (i : Int) (v : Value) (w : World) (h : Calls Try.prog 76 #[p] w fun e w' => e = .returned (.bool false) ∧ w' = w) : Calls Try.prog 35 #[p, .int .i64 i, v] w fun e w' => e = .returned (.int .i64 9) ∧ w' = w := by
  have H := Aside0.mk h
  clear h
  go_enter Try.func35, Try.ntmps35
  go_wp2_with fail
  refine (disk_able.bad p i w H.out).mono ?_
  rintro e w' ⟨rfl, rfl⟩
  go_wp2_with fail
  go_ret
  exact ⟨rfl, rfl⟩
set_option maxRecDepth 100000 in
theorem disk_Write.out (b : Nat) (d : DS) (i : Int) (v : Value) (w : World) (h : IsD w b d) (hi : i < 0 ∨ (d.n : Int) ≤ i) :
    Calls Try.prog 35 #[.pointer (some ⟨b, 0, none⟩), .int .i64 i, v] w fun e w' => e = .returned (.int .i64 1) ∧ w' = w := by
  have H := Aside0.mk h
  have HA := Aside0.mk (show ableD d i = 1 by unfold ableD; rw [if_pos hi])
  clear h hi
  go_enter Try.func35, Try.ntmps35
  go_wp2_with fail
  refine (disk_able.calls b d i w H.out).mono ?_
  rw [HA.out]
  rintro e w' ⟨rfl, rfl⟩
  go_wp2_with fail
  go_ret
  exact ⟨rfl, rfl⟩
def putW (f : Nat → Option (List Int)) (i : Nat) (xs : List Int) : Nat → Option (List Int) := fun k => if k = i then some xs else f k
theorem dkey_inj {i j : Nat} (h : dkey i = dkey j) : i = j := by
  unfold dkey at h
  injection h with _ h
  omega
theorem Waits.put {w' : World} {bm n cnt : Nat} {f : Nat → Option (List Int)} {D : DataW Value} {i : Nat} {xs : List Int} (h : (∀ i, i < n → WaitAt D i (f i)) ∧ ∀ kl, has D kl = true → ∃ i, i < n ∧ kl = dkey i) (hm : IsMap D) (hk : WideAt.IsKeyLit (dkey i)) (hi : i < n) (hl : xs.length = 64)
    (ho : w'.ownsMap Try.prog 3 secR bm (cnt + 1) (D.put (dkey i) (.held (.agg (secC xs))))) : Waits w' bm n (cnt + 1) (putW f i xs) := by
  refine ⟨_, ho, fun j hj => ?_, fun kl hk2 => ?_⟩
  · unfold putW
    by_cases hji : j = i
    · subst hji
      rw [if_pos rfl]
      exact ⟨has_put_same hm hk _, fun z => atKey_put_same hm hk _ z, hl⟩
    · rw [if_neg hji]
      have hne : dkey j ≠ dkey i := fun e => hji (dkey_inj e)
      have h1 := h.1 j hj
      cases hf : f j with
      | none =>
        rw [hf] at h1
        exact (has_put_other hne _).trans h1
      | some ys =>
        rw [hf] at h1
        exact ⟨(has_put_other hne _).trans h1.1, fun z => (atKey_put_other hne _ z).trans (h1.2.1 z), h1.2.2⟩
  · by_cases hki : kl = dkey i
    · exact ⟨i, hi, hki⟩
    · rw [has_put_other hki] at hk2
      exact h.2 kl hk2
theorem keyLit (i : Nat) : WideAt.IsKeyLit (dkey i) := by
  unfold dkey; trivial
set_option maxRecDepth 100000 in
theorem disk_Write.calls (b : Nat) (d : DS) (s : WS) (i : Nat) (A0 : Option Addr) (c0 : Nat) (xs : List Int) (w : World) (h : IsD w b d) (hi : i < d.n) (hw : IsW w d.bw s) (hd : s.dead = false) (hx : Kd.C (Kd.int .u8) w A0 xs.length xs) (hc : xs.length ≤ c0) (hl : xs.length = 64) (hn : d.cnt < 1000000)
    (hne : b ≠ d.bw ∧ d.bm ≠ d.bw ∧ d.bs ≠ d.bw ∧ b ≠ d.bm ∧ d.bs ≠ d.bm) (hA : ∀ ad, A0 = some ad → ad.block ≠ d.bw) :
    Calls Try.prog 35 #[.pointer (some ⟨b, 0, none⟩), .int .i64 (i : Int), .slice A0 64 c0] w fun e w' => e = .returned (.int .i64 0) ∧ IsD w' b { d with wait := putW d.wait i xs, cnt := d.cnt + 1 } ∧ IsW w' d.bw (stepW s) ∧ Fr (fun k => k ≠ d.bw ∧ k ≠ d.bm) w w' := by
  have H := Aside0.mk h
  have HA := Aside0.mk (show ableD d (i : Int) = 0 by unfold ableD; rw [if_neg (by omega)])
  have HW := Aside0.mk hw
  have HD := Aside0.mk hd
  have HI := Aside0.mk hi
  have HL := Aside0.mk hl
  have HX := Aside0.mk hx
  have HNE := Aside0.mk hne
  have h0 : w.cell? ⟨b, 0, none⟩ = some (.pointer (some ⟨d.bw, 0, none⟩)) := (blk_cell h.1 0).trans rfl
  have hu := Try.underlying81
  have hu2 := Try.underlying124
  clear h hi hw hd hl hx hne
  go_enter Try.func35, Try.ntmps35
  go_wp2_with fail
  refine (disk_able.calls b d i w H.out).mono ?_
  rw [HA.out]
  rintro e w' ⟨rfl, rfl⟩
  go_wp2_with fail
  refine (world_Step.calls d.bw s _ HW.out HD.out).mono ?_
  rintro e w1 ⟨rfl, hw1, hf1, hs1⟩
  have HW1 := Aside0.mk hw1
  have HF1 := Aside0.mk hf1
  have HS1 := Aside0.mk hs1
  clear hw1 hf1 hs1 h0
  have hx2 := C_fr HX.out HF1.out hA
  have HX2 := Aside0.mk hx2
  clear hx2 hA
  rw [HL.out] at HX2
  go_wp2_with (first
    | (refine gate_ (.alloc 124) rfl ?_; refine wp_alloc_ rfl _ rfl (.agg zsec) (zsec_zero _) ?_; intro w2 hz2 hf2 hs2; have HF2 := Aside0.mk (HF1.out.step hf2 (fun _ _ _ => trivial)); have HG2 := Aside0.mk hf2; have HZ2 := Aside0.mk hz2; clear hz2 hf2 hs2)
    | ((with_reducible refine gate_builtin (b := .copy) (xs := #[.tmp 27, .tmp 28]) rfl ?_); refine wp_copy_ rfl 35 _ _ rfl 5 Try.underlying35 u8_size A0 xs rfl rfl (C_fr HX2.out HG2.out (fun _ _ => trivial)) HZ2.out (Nat.le_of_eq (by rw [Nat.zero_add]; exact zsec_size.symm)) ?_; intro w3 arr3 e1 e2 e3 e4 e5; rw [Nat.min_self, List.take_of_length_le (Nat.le_of_eq HL.out)] at e3; have HX3 := Aside0.mk e1; have HA3 := Aside0.mk e3; have HF3 := Aside0.mk (HF2.out.step e4 (fun k hk _ => by have := HS1.out; omega)); have HG3 := Aside0.mk (HG2.out.step e4 (fun k hk _ => Nat.ne_of_lt hk)); clear e1 e2 e3 e4 e5))
  have hz3 : arr3 = secC xs := whole_row2 HL.out zsec_size (by have := HA3.out; rw [List.length_map, HL.out]; exact this)
  subst hz3
  have hld := run_load_sec w3 w1.heap.size 0 _ _ _ xs HX3.out HL.out (sec_get xs HL.out)
  have hb3 := HF3.out.kept H.out.1 HNE.out.1
  have h2 : w3.cell? ⟨b, 2, none⟩ = some (.map (some d.bm)) := (blk_cell hb3 2).trans rfl
  have HB3 := Aside0.mk hb3
  clear hb3
  go_frame
  go_still_tail 6, (by kernel_rfl)
  refine st_load_ (W := w3.drew) rfl _ _ rfl _ _ rfl (run_load_sec w3.drew w1.heap.size 0 _ _ _ xs HX3.out HL.out (sec_get xs HL.out)) ?_
  refine wpStill_nil ?_
  change wpList _ _ _ _ _ w3.drew
  obtain ⟨hb, ⟨arr, hs, hsz, hse, hsl⟩, ⟨D, hown, hwt, hks⟩, hnn⟩ := H.out
  have hf3 := HF3.out.drew
  have hk := dkey_of i (by have := HI.out; omega)
  have hown3 : w3.drew.ownsMap Try.prog 3 secR d.bm d.cnt D := own_kept hown hf3 HNE.out.2.1
  have HW3 : Aside0 (IsW w3.drew d.bw (stepW s)) := ⟨HW1.out.kept HG3.out.drew trivial⟩
  have HF := Aside0.mk hf3
  have HK := Aside0.mk hk
  have hsure : Sure w3.drew d.bs d.n d.sure := ⟨arr, hf3.kept hs HNE.out.2.2.1, hsz, hse, hsl⟩
  have HSU := Aside0.mk hsure
  have HBD := Aside0.mk (hf3.kept hb HNE.out.1)
  have HWK := Aside0.mk (And.intro hwt hks)
  have HNN := Aside0.mk hnn
  generalize w3.drew = w4 at hown3 HW3 HF HSU HBD ⊢
  have HOW := Aside0.mk hown3
  clear hb hs hsz hse hsl hown hwt hks hnn hf3 hk hown3 hsure h2 hld
  go_frame
  refine wpList_mapUpdate_own _ rfl _ _ _ 79 rfl 3 124 dk_key Try.underlying79 _ d.bm d.cnt D rfl HOW.out (by unfold maxLen; omega) _ _ _ rfl rfl HK.out _ [] (secR_mk _ (by rw [secC_size]; exact HL.out)) ?_
  intro w5 hown5 hgrow5
  have hf5 := Fr.of_grown hgrow5
  have HWT := Aside0.mk (Waits.put HWK.out HOW.out.isMap (keyLit i) HI.out HL.out hown5)
  have HSU5 := Aside0.mk (HSU.out.kept hf5 (by have := HNE.out.2.2.2.2; simpa using this))
  have HBD5 := Aside0.mk (hf5.kept HBD.out (by have := HNE.out.2.2.2.1; simpa using this))
  have HW5 := Aside0.mk (HW3.out.kept hf5 (by have := HNE.out.2.1; simpa using this.symm))
  have HF5 := Aside0.mk (show Fr (fun k => k ≠ d.bw ∧ k ≠ d.bm) w' w5 from (HF.out.mono (fun k _ h => h.1)).step hf5 (fun k hk h => by simpa using h.2))
  clear hown5 hgrow5 hf5
  go_frame
  go_wp2_with fail
  go_ret
  exact ⟨rfl, ⟨HBD5.out, HSU5.out, HWT.out, HNN.out⟩, HW5.out, HF5.out⟩
end Go.Proofs.Ytbkpcepnhjnpgaa.X
