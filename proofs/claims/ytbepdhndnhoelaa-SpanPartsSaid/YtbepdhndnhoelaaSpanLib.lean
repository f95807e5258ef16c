/- slices.DeleteFunc (with span.Runs' own function), slices.Sort, slices.Compact over []int: contracts in the printer's own form (a row of the call's own that is written, and kept or handed back). -/
import Derived.Test.YtbepdhndnhoelaaX0
import Derived.Test.YtbepdhndnhoelaaDelFunc
import Derived.Test.YtbepdhndnhoelaaWKept
namespace Go.Proofs.Ytbepdhndnhoelaa.X
open Go Go.RowKit Go.Lib Go.Sort Go.Proofs.YtbepdhndnhoelaaW.PrintWords Go.Proofs.YtbepdhndnhoelaaW.PrintLast Go.Proofs.YtbepdhndnhoelaaW.PrintMore
set_option linter.unusedVariables false
set_option linter.unusedSimpArgs false
def slices_DeleteFunc_neg.f (l0 : List Int) : Option (List Int) := some (l0.filter fun x => !decide (x < 0))
def slices_Sort_int.f (l0 : List Int) : Option (List Int) := if l0.length < 4611686018427387904 then some (l0.mergeSort fun x y => decide (x ≤ y)) else none
def slices_Compact_int.f (l0 : List Int) : Option (List Int) := some (Lib.compact l0)
theorem slices_DeleteFunc_neg.calls (P0_ : Nat → Prop) (u9000_ : Value) (l0 : List Int) (r : List Int) (w0 w : World) (hB : Below w0.heap.size w0 w) (ho0 : Kd.R (Kd.int .i64) 3 w w0.heap.size P0_ u9000_ l0) (h : slices_DeleteFunc_neg.f l0 = some r) :
    Calls Try.prog 19 #[u9000_, .func (.func 21) #[] #[]] w fun e w' => ∃ v0_ : Value, e = .returned v0_ ∧ Kd.R (Kd.int .i64) 3 w' w0.heap.size (fun k_ => (P0_ k_ ∨ w.heap.size ≤ k_)) v0_ r ∧ Below w0.heap.size w0 w' ∧ Kept w w' (fun k_ => P0_ k_) := by
  obtain rfl := Option.some.inj h
  refine (SortRow.slices_DeleteFunc_int.calls ho0 hB hB.size).mono ?_
  rintro e w' ⟨v', rfl, R, b, _, K⟩
  exact ⟨v', rfl, Kd.R_mono R (fun k hk => .inl hk), b, K⟩
theorem slices_Sort_int.calls (P0_ : Nat → Prop) (u9000_ : Value) (l0 : List Int) (r : List Int) (w0 w : World) (hB : Below w0.heap.size w0 w) (ho0 : Kd.R (Kd.int .i64) 3 w w0.heap.size P0_ u9000_ l0) (h : slices_Sort_int.f l0 = some r) :
    Calls Try.prog 22 #[u9000_] w fun e w' => e = .returned (.tuple #[]) ∧ Kd.R (Kd.int .i64) 3 w' w0.heap.size (fun k_ => (P0_ k_ ∨ w.heap.size ≤ k_)) u9000_ r ∧ Below w0.heap.size w0 w' ∧ Kept w w' (fun k_ => P0_ k_) := by
  unfold slices_Sort_int.f at h
  split at h
  · rename_i hs
    obtain rfl := Option.some.inj h
    refine (SortRow.slices_Sort_int.calls hs ho0 hB hB.size).mono ?_
    rintro e w' ⟨rfl, R, b, _, K⟩
    exact ⟨rfl, Kd.R_mono R (fun k hk => .inl hk), b, K⟩
  · cases h
theorem slices_Compact_int.calls (P0_ : Nat → Prop) (u9000_ : Value) (l0 : List Int) (r : List Int) (w0 w : World) (hB : Below w0.heap.size w0 w) (ho0 : Kd.R (Kd.int .i64) 3 w w0.heap.size P0_ u9000_ l0) (h : slices_Compact_int.f l0 = some r) :
    Calls Try.prog 23 #[u9000_] w fun e w' => ∃ v0_ : Value, e = .returned v0_ ∧ Kd.R (Kd.int .i64) 3 w' w0.heap.size (fun k_ => (P0_ k_ ∨ w.heap.size ≤ k_)) v0_ r ∧ Below w0.heap.size w0 w' ∧ Kept w w' (fun k_ => P0_ k_) := by
  obtain rfl := Option.some.inj h
  refine (SortRow.slices_Compact_int.calls ho0 hB hB.size).mono ?_
  rintro e w' ⟨v', rfl, R, b, _, K⟩
  exact ⟨v', rfl, Kd.R_mono R (fun k hk => .inl hk), b, K⟩
end Go.Proofs.Ytbepdhndnhoelaa.X
