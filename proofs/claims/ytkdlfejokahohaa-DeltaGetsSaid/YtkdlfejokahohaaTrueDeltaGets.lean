/- DeltaGets, in plain numbers and lists. No condition. -/
import Derived.Test.YtkdlfejokahohaaDelta
namespace Go.Proofs.Ytkdlfejokahohaa.True_
open Go.RowKit Go.Proofs.Ytkdlfejokahohaa.X Go.Proofs.Ytkdlfejokahohaa.Dec Go.Proofs.Ytkdlfejokahohaa.Delta
theorem DeltaGets : ∀ (x0 : List Int) (x1 : Int), (x0.length ≤ maxLen ∧ ∀ z ∈ x0, (Lit.int .u8 z).wf = true) → (Lit.int .i64 x1).wf = true → ∃ k, firkinlaw06_DeltaGets.f k x0 x1 = some true := by
  intro b n hb hn
  refine ⟨10001, ?_⟩
  unfold firkinlaw06_DeltaGets.f
  have hni := i64_bounds hn
  by_cases hl : (b.length : Int) > 400
  · rw [if_pos hl, firkinlaw06_DeltaGets.j0, if_pos rfl, live_is, Option.bind_some]
  · rw [if_neg hl]
    by_cases hl2 : n > 400
    · rw [decide_eq_true hl2, firkinlaw06_DeltaGets.j0, if_pos rfl, live_is, Option.bind_some]
    · have hf : Fit b := ⟨fun x hx => byte_bounds (hb.2 x hx), by omega⟩
      rw [decide_eq_false hl2, firkinlaw06_DeltaGets.j0, if_neg (by decide), get_is b hf (by omega) n hni _ (by omega), Option.bind_some, rget_is b hf (by omega) n (by omega) _ (by omega), Option.bind_some]
      have hlen : (if n < 0 then (([], false) : List Int × Bool) else res [] (rdn n.toNat 0 b)).1.length < 1000 := by
        split
        · simp
        · cases hr : rdn n.toNat 0 b with
          | none => simp [res]
          | some y => have := (rdn_le _ _ _ _ hr); simp only [res, List.nil_append]; omega
      rw [if_pos (by simp), same_refl _ (by omega) _ (by omega), Option.bind_some, if_pos rfl, live_is, Option.bind_some]
end Go.Proofs.Ytkdlfejokahohaa.True_
