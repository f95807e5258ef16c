/- DeltaOne, in plain numbers and lists. No condition. -/
import Derived.Test.YtkdlfejokahohaaDelta
namespace Go.Proofs.Ytkdlfejokahohaa.True_
open Go.RowKit Go.Proofs.Ytkdlfejokahohaa.X Go.Proofs.Ytkdlfejokahohaa.Dec Go.Proofs.Ytkdlfejokahohaa.Delta
theorem DeltaOne : ∀ (x0 : List Int) (x1 : Int) (x2 : Int), (x0.length ≤ maxLen ∧ ∀ z ∈ x0, (Lit.int .u8 z).wf = true) → (Lit.int .i64 x1).wf = true → (Lit.int .i64 x2).wf = true → ∃ k, firkinlaw06_DeltaOne.f k x0 x1 x2 = some true := by
  intro b n m hb hn hm
  refine ⟨10001, ?_⟩
  unfold firkinlaw06_DeltaOne.f
  have hni := i64_bounds hn
  have hmi := i64_bounds hm
  have hlive : firkinlaw06_DeltaOne.j0 10001 b n m true = some true := by rw [firkinlaw06_DeltaOne.j0, if_pos rfl, live_is, Option.bind_some]
  by_cases hl : (b.length : Int) > 400
  · rw [if_pos hl, hlive]
  · rw [if_neg hl]
    by_cases hl1 : n > 400
    · rw [if_pos hl1, hlive]
    · rw [if_neg hl1]
      by_cases hl2 : m > 400
      · rw [decide_eq_true hl2, hlive]
      · have hbb : IsBytes b := fun x hx => byte_bounds (hb.2 x hx)
        have hf : Fit b := ⟨hbb, by omega⟩
        rw [decide_eq_false hl2, firkinlaw06_DeltaOne.j0, if_neg (by decide), get_is b hf (by omega) n hni _ (by omega), Option.bind_some]
        have hno : ∀ z, (if (((([], false) : List Int × Bool).1.length : Nat) : Int) = 0 then ((firkinlaw06_live.f).bind fun t262 => (some t262)) else z) = some true := by
          intro z; rw [if_pos (by simp), live_is, Option.bind_some]
        by_cases h0 : n < 0
        · rw [if_pos h0, if_neg (by decide)]; exact hno _
        · rw [if_neg h0]
          cases hr : rdn n.toNat 0 b with
          | none => rw [res, if_neg (by decide)]; exact hno _
          | some y =>
            have hle := rdn_le _ _ _ _ hr
            have hdl := dl_rdn _ _ _ _ hbb hr
            rw [res, if_pos rfl, get_is b hf (by omega) m hmi _ (by omega), Option.bind_some, List.nil_append, if_pos (by show (y.length : Int) = n; omega), put_is y (by omega), Option.bind_some, hdl, same_bytes, Option.bind_some, if_pos rfl]
            by_cases h1 : m < 0
            · rw [if_pos h1, if_neg (by decide), live_is, Option.bind_some]
            · rw [if_neg h1]
              cases hr2 : rdn m.toNat 0 b with
              | none => rw [res, if_neg (by decide), live_is, Option.bind_some]
              | some z =>
                have := rdn_uniq _ _ _ _ _ _ hr hr2
                rw [res, if_pos rfl, if_pos (by omega), live_is, Option.bind_some]
end Go.Proofs.Ytkdlfejokahohaa.True_
