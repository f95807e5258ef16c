/- firkinlaw01.live, the page's examples: it answers true. -/
import Derived.Test.YtebalgjkabnldaaX10
import Derived.Test.YtebalgjkabnldaaX10
import Derived.Test.YtebalgjkabnldaaSrcFrom
import Derived.Test.YtebalgjkabnldaaX5
import Derived.Test.YtebalgjkabnldaaSrcNum
import Derived.Test.YtebalgjkabnldaaMem
namespace Go.Proofs.Ytebalgjkabnldaa.X
open Go.RowKit Go.Proofs.YtebalgjkabnldaaW.PrintWords Go.Proofs.YtebalgjkabnldaaW.PrintLast Go.Proofs.YtebalgjkabnldaaW.PrintMore
set_option linter.unusedVariables false
set_option linter.unusedSimpArgs false
def firkinlaw01_live.f : Option Bool := some true
set_option maxHeartbeats 8000000 in
set_option maxRecDepth 100000 in
theorem firkinlaw01_live.calls (r : Bool) (w : World) (h : firkinlaw01_live.f = some r) :
    Calls Try.prog 37 #[] w fun e w' => e = .returned (.bool r) ∧ Below w.heap.size w w' := by
  obtain rfl := Option.some.inj h
  go_enter Try.func37, Try.ntmps37
  go_wp2_with fail
  refine (vint_From.calls (some ⟨w.heap.size, 0, none⟩) 2 [128, 0] [128, 0] false (w.alloc (.cells #[.int .u8 128, .int .u8 0] 5)) _ (Below.refl _ _) (Mem.C_pair w 128 0) (Nat.le_refl _) rfl).mono ?_
  rintro e w2 ⟨g, rfl, hI, hB, hB2⟩
  have HW8 : ∀ {w8 : World}, Below (w.alloc (.cells #[.int .u8 128, .int .u8 0] 5)).heap.size (w.alloc (.cells #[.int .u8 128, .int .u8 0] 5)) w8 → Below w.heap.size w w8 := fun h => below_step (below_alloc (Below.refl w.heap.size w) _) h
  generalize (w.alloc (.cells #[.int .u8 128, .int .u8 0] 5)) = W1 at hI hB hB2 HW8
  go_wp2_with fail
  refine (vint_Num.calls 40 300 [172, 2] w2 (by decide +kernel)).mono ?_
  rintro e w3 ⟨v3, rfl, hR3, hb3⟩
  obtain ⟨A3, c3, rfl, hc3, hr3⟩ := Kd.R_reads hR3
  go_wp2_with fail
  refine (firkinref01_Same.calls A3 c3 [172, 2] (some ⟨w3.heap.size, 0, none⟩) 2 [172, 2] true _ (Kd.C_below hr3 (below_alloc (Below.refl _ _) _)) hc3 (Mem.C_pair w3 172 2) (Nat.le_refl _) (by decide +kernel)).mono ?_
  rintro e w4 ⟨rfl, ⟨n4, rfl⟩⟩
  have hb4 := pw_below_drewN (below_alloc hb3 (.cells #[.int .u8 172, .int .u8 2] 5)) n4
  generalize (w3.alloc (.cells #[.int .u8 172, .int .u8 2] 5)).drewN n4 = w4 at hb4 ⊢
  go_wp2_with fail
  refine (vint_Int.calls 40 (-1) [1] w4 (by decide +kernel)).mono ?_
  rintro e w5 ⟨v5, rfl, hR5, hb5⟩
  obtain ⟨A5, c5, rfl, hc5, hr5⟩ := Kd.R_reads hR5
  have hb5' := below_step hb4 hb5
  go_wp2_with fail
  refine (firkinref01_Same.calls A5 c5 [1] (some ⟨w5.heap.size, 0, none⟩) 1 [1] true _ (Kd.C_below hr5 (below_alloc (Below.refl _ _) _)) hc5 (Mem.C_single w5 1) (Nat.le_refl _) (by decide +kernel)).mono ?_
  rintro e w6 ⟨rfl, ⟨n6, rfl⟩⟩
  have hb6 := pw_below_drewN (below_alloc hb5' (.cells #[.int .u8 1] 5)) n6
  generalize (w5.alloc (.cells #[.int .u8 1] 5)).drewN n6 = w6 at hb6 ⊢
  clear hR3 hb3 hr3 hc3 hb4 hR5 hb5 hr5 hc5 hb5'
  go_wp2_with fail
  refine (vint_Source_Num.calls g [128, 0] false 0 [] true W1 w6 (IsS92.below hI hb6) (below_step hB hb6) (by decide +kernel)).mono ?_
  rintro e w7 ⟨rfl, hI7, hB7, hK7⟩
  go_wp2_with fail
  refine (vint_Source_Ok.calls g [] true false [] true W1 w7 hI7 hB7 rfl).mono ?_
  rintro e w8 ⟨rfl, hI8, hB8, hK8⟩
  go_wp2_with fail
  go_ret
  exact ⟨rfl, HW8 hB8⟩
end Go.Proofs.Ytebalgjkabnldaa.X
