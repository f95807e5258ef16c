/- What a bad disk answers. -/
import Derived.Test.YtbkpcepnhjnpgaaDiskLive
import Derived.Test.YtbkpcepnhjnpgaaPlan
import Derived.Test.YtbkpcepnhjnpgaaStageB
namespace Go.Proofs.Ytbkpcepnhjnpgaa.X
open Go.RowKit Go.Maps Go.Proofs.YtbkpcepnhjnpgaaW.PrintWords Go.Proofs.YtbkpcepnhjnpgaaW.PrintLast Go.Proofs.YtbkpcepnhjnpgaaW.PrintMore
set_option linter.unusedVariables false
set_option linter.unusedSimpArgs false
set_option maxRecDepth 100000 in
theorem disk_Sync.bad (p : Value) (w : World) (h : Calls Try.prog 76 #[p] w fun e w' => e = .returned (.bool false) ∧ w' = w) : Calls Try.prog 37 #[p] w fun e w' => e = .returned (.int .i64 9) ∧ w' = w := by
  have H := Aside0.mk h
  clear h
  go_enter Try.func37, Try.ntmps37
  go_wp2_with fail
  refine H.out.mono ?_
  rintro e w' ⟨rfl, rfl⟩
  go_wp2_with fail
  go_ret
  exact ⟨rfl, rfl⟩
set_option maxRecDepth 100000 in
theorem disk_World.bad (p : Value) (w : World) (h : Calls Try.prog 76 #[p] w fun e w' => e = .returned (.bool false) ∧ w' = w) : Calls Try.prog 42 #[p] w fun e w' => e = .returned (.pointer none) ∧ w' = w := by
  have H := Aside0.mk h
  clear h
  go_enter Try.func42, Try.ntmps42
  go_wp2_with fail
  refine H.out.mono ?_
  rintro e w' ⟨rfl, rfl⟩
  go_wp2_with fail
  go_ret
  exact ⟨rfl, rfl⟩
set_option maxRecDepth 100000 in
set_option maxHeartbeats 8000000 in
theorem disk_Spoil.bad (q : Option Addr) (w : World) (h : ∀ w1, Fr (fun _ => True) w w1 → Calls Try.prog 76 #[.pointer q] w1 fun e w' => e = .returned (.bool false) ∧ w' = w1) : Calls Try.prog 32 #[.pointer q, .agg #[.int .i64 0, .int .u8 0]] w fun e w' => e = .returned (.bool false) ∧ Fr (fun _ => True) w w' := by
  have H := Aside0.mk h
  have HF := Aside0.mk (fun c => (fr_alloc w c (fun _ => True)).drew)
  clear h
  go_enter Try.func32, Try.ntmps32
  go_upto_region 1 with fail
  have hvo := @valOf_ok
  refine wp_region_mix 26 ((true, 0) :: (false, 1) :: (List.range 24).map (fun i => (true, i + 2))) [26] (fun _ => True) (by kernel_rfl) (by kernel_rfl) (fun _ _ d _ _ h => by cases d <;> exact h) trivial ?_
  have HEX : ∃ w' : World, (fun _ : World => True) w' := ⟨w, trivial⟩
  rw [show (List.range 24).map (fun i => (true, i + 2)) = [(true, 2), (true, 3), (true, 4), (true, 5), (true, 6), (true, 7), (true, 8), (true, 9), (true, 10), (true, 11), (true, 12), (true, 13), (true, 14), (true, 15), (true, 16), (true, 17), (true, 18), (true, 19), (true, 20), (true, 21), (true, 22), (true, 23), (true, 24), (true, 25)] from rfl]
  simp only [List.map_cons, List.map_nil, List.getD_cons_zero, List.getD_cons_succ]
  apply mix_held HEX
  case h => intro w9 hS J hJ; clear hS; go_simp; exact hJ
  refine mix_step (fun K hK => ?_)
  have HK := Aside0.mk hK
  clear hK
  go_wp2_with fail
  refine (H.out _ (HF.out _)).mono ?_
  rintro e w' ⟨rfl, rfl⟩
  go_wp2_with fail
  refine HK.out _ _ trivial ?_
  clear HK
  repeat (apply mix_held HEX; (case h => intro w9 hS J hJ; clear hS; go_simp; exact hJ))
  refine mix_nil ?_
  refine post_step (fun K hK => ?_)
  have HK := Aside0.mk hK
  clear hK
  go_wp2_with fail
  refine HK.out _ _ (fun h => absurd h (by omega)) ?_
  clear HK
  refine post_nil ?_
  go_wp2_with fail
  go_ret
  exact ⟨rfl, HF.out _⟩
end Go.Proofs.Ytbkpcepnhjnpgaa.X
