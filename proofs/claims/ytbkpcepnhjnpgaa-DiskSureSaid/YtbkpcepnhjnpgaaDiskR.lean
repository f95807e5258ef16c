/- The contract of disk.Read. -/
import Derived.Test.YtbkpcepnhjnpgaaDiskN
namespace Go.Proofs.Ytbkpcepnhjnpgaa.X
open Go.RowKit Go.Maps Go.Proofs.YtbkpcepnhjnpgaaW.PrintWords Go.Proofs.YtbkpcepnhjnpgaaW.PrintLast Go.Proofs.YtbkpcepnhjnpgaaW.PrintMore
set_option linter.unusedVariables false
set_option linter.unusedSimpArgs false
set_option maxRecDepth 100000 in
theorem disk_Read.bad (p : Value) (i : Int) (w : World) (h : Calls Try.prog 76 #[p] w fun e w' => e = .returned (.bool false) ∧ w' = w) : Calls Try.prog 39 #[p, .int .i64 i] w fun e w' => e = .returned (.tuple #[.slice none 0 0, .int .i64 9]) ∧ w' = w := by
  have H := Aside0.mk h
  clear h
  go_enter Try.func39, Try.ntmps39
  go_wp2_with fail
  refine (disk_able.bad p i w H.out).mono ?_
  rintro e w' ⟨rfl, rfl⟩
  go_wp2_with fail
  go_ret2
  exact ⟨rfl, rfl⟩
set_option maxRecDepth 100000 in
theorem disk_Read.out (b : Nat) (d : DS) (i : Int) (w : World) (h : IsD w b d) (hi : i < 0 ∨ (d.n : Int) ≤ i) :
    Calls Try.prog 39 #[.pointer (some ⟨b, 0, none⟩), .int .i64 i] w fun e w' => e = .returned (.tuple #[.slice none 0 0, .int .i64 1]) ∧ w' = w := by
  have H := Aside0.mk h
  have HA := Aside0.mk (show ableD d i = 1 by unfold ableD; rw [if_pos hi])
  clear h hi
  go_enter Try.func39, Try.ntmps39
  go_wp2_with fail
  refine (disk_able.calls b d i w H.out).mono ?_
  rw [HA.out]
  rintro e w' ⟨rfl, rfl⟩
  go_wp2_with fail
  go_ret2
  exact ⟨rfl, rfl⟩
set_option maxRecDepth 100000 in
theorem disk_Read.dead (b : Nat) (d : DS) (s : WS) (i : Nat) (w : World) (h : IsD w b d) (hi : i < d.n) (hw : IsW w d.bw s) (hd : s.dead = true) :
    Calls Try.prog 39 #[.pointer (some ⟨b, 0, none⟩), .int .i64 (i : Int)] w fun e w' => e = .returned (.tuple #[.slice none 0 0, .int .i64 8]) ∧ w' = w := by
  have H := Aside0.mk h
  have HA := Aside0.mk (show ableD d (i : Int) = 0 by unfold ableD; rw [if_neg (by omega)])
  have HW := Aside0.mk hw
  have HD := Aside0.mk hd
  have h0 : w.cell? ⟨b, 0, none⟩ = some (.pointer (some ⟨d.bw, 0, none⟩)) := (blk_cell h.1 0).trans rfl
  have hu := Try.underlying81
  clear h hi hw hd
  go_enter Try.func39, Try.ntmps39
  go_wp2_with fail
  refine (disk_able.calls b d i w H.out).mono ?_
  rw [HA.out]
  rintro e w' ⟨rfl, rfl⟩
  go_wp2_with fail
  refine (world_Dead.calls d.bw s _ HW.out).mono ?_
  rw [HD.out]
  rintro e w' ⟨rfl, rfl⟩
  go_wp2_with fail
  go_ret2
  exact ⟨rfl, rfl⟩
set_option maxRecDepth 100000 in
theorem disk_Read.calls (b : Nat) (d : DS) (s : WS) (i : Nat) (w : World) (h : IsD w b d) (hi : i < d.n) (hw : IsW w d.bw s) (hd : s.dead = false) (hl : (d.now i).length = 64) :
    Calls Try.prog 39 #[.pointer (some ⟨b, 0, none⟩), .int .i64 (i : Int)] w fun e w' => ∃ g, e = .returned (.tuple #[.slice (some ⟨g, 0, none⟩) 64 64, .int .i64 0]) ∧ w.heap.size ≤ g ∧ w'.heap[g]? = some (.cells (secC (d.now i)) 124 (0, 0)) ∧ Fr (fun _ => True) w w' := by
  have H := Aside0.mk h
  have HA := Aside0.mk (show ableD d (i : Int) = 0 by unfold ableD; rw [if_neg (by omega)])
  have HW := Aside0.mk hw
  have HD := Aside0.mk hd
  have HI := Aside0.mk hi
  have HL := Aside0.mk hl
  have h0 : w.cell? ⟨b, 0, none⟩ = some (.pointer (some ⟨d.bw, 0, none⟩)) := (blk_cell h.1 0).trans rfl
  have hu := Try.underlying81
  have hu2 := Try.underlying124
  clear h hi hw hd hl
  go_enter Try.func39, Try.ntmps39
  go_wp2_with fail
  refine (disk_able.calls b d i w H.out).mono ?_
  rw [HA.out]
  rintro e w' ⟨rfl, rfl⟩
  go_wp2_with fail
  refine (world_Dead.calls d.bw s _ HW.out).mono ?_
  rw [HD.out]
  rintro e w' ⟨rfl, rfl⟩
  go_wp2_with fail
  refine (disk_now.calls b d i _ H.out HI.out).mono ?_
  rintro e w1 ⟨rfl, hf⟩
  have HF := Aside0.mk hf
  clear hf h0
  go_wp2_with (first
    | (refine gate_ (.alloc 124) rfl ?_; refine wp_alloc_ rfl _ rfl (.agg zsec) (zsec_zero _) ?_; intro w2 hz2 hf2 hs2; have HF2 := Aside0.mk (HF.out.trans hf2); have HZ2 := Aside0.mk hz2; clear hz2 hf2 hs2)
    | (refine gate_ (.store 124 (.tmp 7) (.tmp 21)) rfl ?_; refine wp_store_ rfl rfl _ _ _ rfl (.agg (secC (d.now i))) ((d.now i).map (.int .u8)) rfl rfl (secC_seg _) HZ2.out (by rw [List.length_map, HL.out]; exact sec_size) (by rw [List.length_map, HL.out]; exact Nat.le_of_eq zsec_size.symm) (seg_one _) ?_; intro w3 arr3 e1 e2 e3 e4 e5; obtain rfl := whole_row2 HL.out zsec_size e3; have HF3 := Aside0.mk (HF2.out.step e4 (fun k hk _ => by have h9 := HF.out.size; omega)); have HX3 := Aside0.mk e1; clear e1 e2 e3 e4 e5))
  go_ret2
  exact ⟨_, rfl, HF.out.size, HX3.out, HF3.out⟩
end Go.Proofs.Ytbkpcepnhjnpgaa.X
