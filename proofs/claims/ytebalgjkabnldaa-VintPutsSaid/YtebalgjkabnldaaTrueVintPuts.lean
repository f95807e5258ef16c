/- VintPuts: the code's bytes of every number, signed number and text are the document's. No condition. -/
import Derived.Test.YtebalgjkabnldaaX16
import Derived.Test.YtebalgjkabnldaaEncText
import Derived.Test.YtebalgjkabnldaaWf
namespace Go.Proofs.Ytebalgjkabnldaa.True_
open Go Go.RowKit Go.Proofs.Ytebalgjkabnldaa.X Go.Proofs.Ytebalgjkabnldaa.Dec Go.Proofs.Ytebalgjkabnldaa.Enc Go.Proofs.Ytebalgjkabnldaa.EncText
theorem VintPuts : ∀ (x0 : Int) (x1 : Int) (x2 : ByteArray), (Lit.int .u64 x0).wf = true → (Lit.int .i64 x1).wf = true → x2.size ≤ maxLen → ∃ k, firkinlaw01_VintPuts.f k x0 x1 x2 = some true := by
  intro x0 x1 x2 h0 h1 _
  have hx0 : 0 ≤ x0 ∧ x0 < 18446744073709551616 := Wf.u64 h0
  have hx1 : -9223372036854775808 ≤ x1 ∧ x1 < 9223372036854775808 := Wf.i64 h1
  obtain ⟨n, rfl⟩ : ∃ n : Nat, x0 = (n : Int) := ⟨x0.toNat, by omega⟩
  refine ⟨20, ?_⟩
  unfold firkinlaw01_VintPuts.f
  by_cases hs : (x2.size : Int) > 400
  · rw [if_pos hs]; rfl
  rw [if_neg hs, num_is n (by omega) 20 (by decide), Option.bind_some, rnum_is n (by omega) 20 (by decide), Option.bind_some, same_self, Option.bind_some, if_pos rfl, int_is x1 hx1.1 hx1.2 20 (by decide), Option.bind_some, rint_is x1 hx1.1 hx1.2 20 (by decide), Option.bind_some, same_self, Option.bind_some, if_pos rfl, text_is x2 (by omega) 20 (by decide), Option.bind_some, rtext_is x2 (by omega) 20 (by decide), Option.bind_some, same_self, Option.bind_some, if_pos rfl]
  rfl
end Go.Proofs.Ytebalgjkabnldaa.True_
