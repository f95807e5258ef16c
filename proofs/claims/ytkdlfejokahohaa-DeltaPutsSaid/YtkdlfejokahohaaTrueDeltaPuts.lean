/- DeltaPuts, in plain numbers and lists. No condition. -/
import Derived.Test.YtkdlfejokahohaaDelta
namespace Go.Proofs.Ytkdlfejokahohaa.True_
open Go.RowKit Go.Proofs.Ytkdlfejokahohaa.X Go.Proofs.Ytkdlfejokahohaa.Dec Go.Proofs.Ytkdlfejokahohaa.Delta
theorem DeltaPuts : ∀ (x0 : List Int), (x0.length ≤ maxLen ∧ ∀ z ∈ x0, (Lit.int .i64 z).wf = true) → ∃ k, firkinlaw06_DeltaPuts.f k x0 = some true := by
  intro l h
  refine ⟨10000, ?_⟩
  unfold firkinlaw06_DeltaPuts.f
  by_cases hl : (l.length : Int) > 300
  · rw [if_pos hl, live_is, Option.bind_some]
  · have hi : ∀ x ∈ l, I64 x := fun x hx => i64_bounds (h.2 x hx)
    have hd := dl_le l 0
    have hf : Fit (dl 0 l) := ⟨dl_bytes l 0, by omega⟩
    have hr := rdn_dl l hi 0
    have hg : delta_Get.f 10000 (dl 0 l) (l.length : Int) = some (l, true) := by
      rw [get_is _ hf (by omega) _ ⟨by omega, by omega⟩ _ (by omega), if_neg (by omega), Int.toNat_natCast, hr, res, List.nil_append]
    rw [if_neg hl, put_is l (by omega), Option.bind_some, hg, Option.bind_some, rput_is l (by omega) _ (by omega), Option.bind_some, same_bytes, Option.bind_some, if_pos rfl, if_pos rfl,
      same_refl l (by omega) _ (by omega), Option.bind_some, if_pos rfl, live_is, Option.bind_some]
end Go.Proofs.Ytkdlfejokahohaa.True_
