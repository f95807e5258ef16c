/- '&S{B: b}' told as a call is: what is made lies in a new block. -/
import Derived.WalkKit
import Derived.Tactics
namespace Go.Proofs.Ytbkpcepnhjnpgaa.Boxed
open Go
set_option linter.unusedVariables false
def Made (T : TypeId) (cells : Array Value) (w : World) (R : Ending → World → Prop) : Prop := R (.returned (.pointer (some ⟨w.heap.size, 0, none⟩))) (w.alloc (.cells cells T))
theorem Made.mono {T : TypeId} {cells : Array Value} {w : World} {R R' : Ending → World → Prop} (h : Made T cells w R) (hr : ∀ e w', R e w' → R' e w') : Made T cells w R' := hr _ _ h
theorem boxed_ {P : Program} {ops : Array Oper} {rest : List Oper} {oi : Oper} {a : Act} {w : World} {Q : Exit → Act → World → Prop} (N : Option Tmp) (hd : oi.dst = N) (hg : oi.guard = none) (T : TypeId) (x : Operand) (hop : oi.op = .box T x)
    (cells : Array Value) (hx : (a.eval x).cells = cells) (h : Made T cells w fun e w' => ∃ v, e = .returned v ∧ wpList P ops Q rest (a.put N v) w') : wpList P ops Q (oi :: rest) a w := by
  obtain ⟨v, hv, h⟩ := h
  injection hv with hv
  subst hv hx hd
  refine wpList_plain hg fun K hK => ?_
  unfold Oper.wp execOp
  simp only [hop, Sem.run_bind, Instr.box, newVar, newRow, run_newObj_alloc, Sem.run_pure, Result.andThen_ok]
  exact hK _ _ h
end Go.Proofs.Ytbkpcepnhjnpgaa.Boxed
