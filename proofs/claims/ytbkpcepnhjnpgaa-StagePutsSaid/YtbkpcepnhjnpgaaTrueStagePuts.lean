/- The plain law of StagePuts: the objects' bytes are bytes; all else the walk has shown. -/
import Derived.Test.YtbkpcepnhjnpgaaLawStagePuts
namespace Go.Proofs.Ytbkpcepnhjnpgaa.True_
open Go.RowKit Go.Proofs.Ytbkpcepnhjnpgaa.X
theorem StagePuts : ∀ (x0 : Int) (x1 : List (S37)) (x2 : Int), (Lit.int .i64 x0).wf = true → (x1.length ≤ maxLen ∧ ∀ z ∈ x1, (z.f0.size ≤ maxLen ∧ (z.f1.length ≤ maxLen ∧ ∀ zz ∈ z.f1, (Lit.int .u8 zz).wf = true))) → (Lit.int .i64 x2).wf = true → firkinlaw35_StagePuts.f x0 x1 x2 = some true := by
  intro x0 x1 x2 _ h _
  unfold firkinlaw35_StagePuts.f
  rw [if_pos]
  refine List.all_eq_true.mpr (fun x hx => List.all_eq_true.mpr (fun z hz => ?_))
  have h1 := Crc.byte_bounds ((h.2 x hx).2.2 z hz)
  rw [decide_eq_true h1.1, decide_eq_true h1.2]; rfl
end Go.Proofs.Ytbkpcepnhjnpgaa.True_
