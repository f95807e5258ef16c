/- What a source tells without being read from: the world stays as it is. -/
import Derived.Test.YthcmokglgepgjaaX0
import Derived.Test.YthcmokglgepgjaaMem
import Derived.Test.YthcmokglgepgjaaSrcOk
namespace Go.Proofs.Ythcmokglgepgjaa.X
open Go.RowKit Go.Proofs.YthcmokglgepgjaaW.PrintWords Go.Proofs.YthcmokglgepgjaaW.PrintLast Go.Proofs.YthcmokglgepgjaaW.PrintMore
set_option linter.unusedVariables false
set_option linter.unusedSimpArgs false
set_option maxHeartbeats 4000000 in
set_option maxRecDepth 100000 in
theorem vint_Source_Ok.same (g : Nat) (l : List Int) (bad : Bool) (w0 w : World) (hI : IsS90 w0 w g l bad) : Calls Try.prog 46 #[.pointer (some ⟨g, 0, none⟩)] w fun e w' => e = .returned (.bool !bad) ∧ w' = w := by
  have HI := Aside0.mk hI
  obtain ⟨A1, c1, hb1, hg1, hr1, hc1⟩ := hI
  have h0 : w.cell? ⟨g, 0, none⟩ = some (.slice A1 l.length c1) := (blk_cell hb1 0).trans rfl
  have h1 : w.cell? ⟨g, 1, none⟩ = some (.bool bad) := (blk_cell hb1 1).trans rfl
  have hu := Try.underlying90
  have hne : ∀ w : World, (binOp .neq 65 (.pointer (some ⟨g, 0, none⟩)) (.pointer none)).run Try.prog w = .ok (.bool true) w := fun w => run_neq_pointer_nil w 65 (some ⟨g, 0, none⟩) (by kernel_rfl)
  clear hb1
  cases bad <;>
    (go_enter Try.func46, Try.ntmps46
     go_wp2_with fail
     go_ret
     exact ⟨rfl, rfl⟩)
set_option maxHeartbeats 4000000 in
set_option maxRecDepth 100000 in
theorem vint_Source_Left.same (g : Nat) (l : List Int) (bad : Bool) (w0 w : World) (hI : IsS90 w0 w g l bad) : Calls Try.prog 47 #[.pointer (some ⟨g, 0, none⟩)] w fun e w' => e = .returned (.int .i64 (if bad = true then 0 else (l.length : Int))) ∧ w' = w := by
  have HI := Aside0.mk hI
  obtain ⟨A1, c1, hb1, hg1, hr1, hc1⟩ := hI
  have h0 : w.cell? ⟨g, 0, none⟩ = some (.slice A1 l.length c1) := (blk_cell hb1 0).trans rfl
  have h1 : w.cell? ⟨g, 1, none⟩ = some (.bool bad) := (blk_cell hb1 1).trans rfl
  have hu := Try.underlying90
  clear hb1
  cases bad <;>
    (go_enter Try.func47, Try.ntmps47
     go_wp2_with (refine (vint_Source_Ok.same g l _ w0 _ HI.out).mono ?_; rintro e w1 ⟨rfl, rfl⟩)
     go_ret
     exact ⟨rfl, rfl⟩)
theorem vint_Source_Left.same2 (g : Nat) (l : List Int) (bad : Bool) (w0 w : World) (hI : IsS90 w0 w g l bad) (hg : bad = true → l = []) : Calls Try.prog 47 #[.pointer (some ⟨g, 0, none⟩)] w fun e w' => e = .returned (.int .i64 (l.length : Int)) ∧ w' = w := by
  have h := vint_Source_Left.same g l bad w0 w hI
  have e : (if bad = true then (0 : Int) else (l.length : Int)) = (l.length : Int) := by
    cases bad
    · rfl
    · rw [hg rfl]; rfl
  rwa [e] at h
end Go.Proofs.Ythcmokglgepgjaa.X
