/- firkinlaw09.live, the page's examples: it answers true. -/
import Derived.Test.YtebalgjkabnldaaX23
import Derived.Test.YtebalgjkabnldaaX19
import Derived.Test.YtebalgjkabnldaaCellFrom
import Derived.Lib.Hide
namespace Go.Proofs.Ytebalgjkabnldaa.X
open Go.RowKit Go.Proofs.YtebalgjkabnldaaW.PrintWords Go.Proofs.YtebalgjkabnldaaW.PrintLast Go.Proofs.YtebalgjkabnldaaW.PrintMore
set_option linter.unusedVariables false
set_option linter.unusedSimpArgs false
def firkinlaw09_live.f : Option Bool := some true
set_option maxHeartbeats 8000000 in
set_option maxRecDepth 100000 in
theorem firkinlaw09_live.calls (r : Bool) (w : World) (h : firkinlaw09_live.f = some r) :
    Calls Try.prog 55 #[] w fun e w' => e = .returned (.bool r) ∧ Below w.heap.size w w' := by
  obtain rfl := Option.some.inj h
  clear h
  have H1 := Lib.hid (show cell_Order.f 10 true 0 ⟨#[]⟩ false (-5) ⟨#[]⟩ = some (-1) by decide +kernel)
  have H2 := Lib.hid (show cell_May.f 2 false false 1 ⟨#[]⟩ = some true by decide +kernel)
  have hu := Try.underlying60
  go_enter Try.func55, Try.ntmps55
  go_wp2_with fail
  refine (cell_From.text ⟨#[97]⟩ _).mono ?_
  rintro e w1 ⟨rfl, b1⟩
  go_wp2_with fail
  have B1 := below_alloc b1 (.cells #[.bool false, .int .i64 0, .string ⟨#[97]⟩] 60)
  have hb1 := Mem.alloc_new w1 (.cells #[.bool false, .int .i64 0, .string ⟨#[97]⟩] 60)
  refine (cell_Order.calls 10 true 0 ⟨#[]⟩ false (-5) ⟨#[]⟩ (-1) _ H1.out).mono ?_
  rintro e w2 ⟨rfl, b2⟩
  have B2 := below_step B1 b2
  have hb2 := blk_below hb1 b2
  have h0 : w2.cell? ⟨w1.heap.size, 0, none⟩ = some (.bool false) := (blk_cell hb2 0).trans rfl
  have h1 : w2.cell? ⟨w1.heap.size, 1, none⟩ = some (.int .i64 0) := (blk_cell hb2 1).trans rfl
  have h2 : w2.cell? ⟨w1.heap.size, 2, none⟩ = some (.string ⟨#[97]⟩) := (blk_cell hb2 2).trans rfl
  clear b1 hb1 b2 hb2 B1
  go_wp2_with fail
  refine (cell_May.calls 2 false false 1 ⟨#[]⟩ true _ H2.out).mono ?_
  rintro e w3 ⟨rfl, b3⟩
  go_wp2_with fail
  go_ret
  exact ⟨rfl, below_step B2 b3⟩
end Go.Proofs.Ytebalgjkabnldaa.X
