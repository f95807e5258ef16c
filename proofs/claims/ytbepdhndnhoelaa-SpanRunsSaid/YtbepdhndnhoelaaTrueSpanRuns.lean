/- SpanRuns: the pages of ranges, the runs of pages and the bytes of runs are the document's. No condition. -/
import Derived.Test.YtbepdhndnhoelaaX16
import Derived.Test.YtbepdhndnhoelaaSpanRunsR
import Derived.Test.YtbepdhndnhoelaaSpanLive
import Derived.Test.YtbepdhndnhoelaaWf
namespace Go.Proofs.Ytbepdhndnhoelaa.True_
open Go Go.RowKit Go.Proofs.Ytbepdhndnhoelaa.X Go.Proofs.Ytbepdhndnhoelaa.SpanP Go.Proofs.Ytbepdhndnhoelaa.SpanLive Go.Proofs.YtbepdhndnhoelaaW.PrintWords Go.Proofs.YtbepdhndnhoelaaW.PrintLast Go.Proofs.YtbepdhndnhoelaaW.PrintMore
set_option linter.unusedVariables false
set_option linter.unusedSimpArgs false
theorem runs_l0 (R : List Rn) (hR : R.length ≤ 1000) (l : List Int) (g a b n : Int) (res : Option Bool) (f : Nat) (hres : ∀ i, ¬ (i : Int) < (R.length : Int) → firkinlaw26_SpanRuns.l0 (f + 1) R (R.map toR) i l g a b n = res) : ∀ (d i : Nat), i + d = R.length → firkinlaw26_SpanRuns.l0 (f + d + 1) R (R.map toR) (i : Int) l g a b n = res := by
  intro d
  induction d with
  | zero => intro i h; exact hres _ (by omega)
  | succ d ih =>
    intro i h
    have hi : i < R.length := by omega
    have e1 : rd_T27 R (i : Int) = R[i] := by unfold rd_T27; simp [hi]
    have e2 : rd_T33 (R.map toR) (i : Int) = toR R[i] := by unfold rd_T33; simp [hi]
    have ew : wrap64 ((i : Int) + 1) = ((i + 1 : Nat) : Int) := by unfold wrap64; omega
    rw [show f + (d + 1) + 1 = (f + d + 1) + 1 by omega, firkinlaw26_SpanRuns.l0, if_pos (by omega), if_pos (by omega), if_pos (by rw [List.length_map]; omega), e1, e2, if_pos (show R[i].f0 = (toR R[i]).f0 from rfl), if_pos (show R[i].f1 = (toR R[i]).f1 from rfl), ew]
    exact ih (i + 1) (by omega)
theorem SpanRuns : ∀ (x0 : Int) (x1 : Int) (x2 : S30), (Lit.int .i64 x0).wf = true → (Lit.int .i64 x1).wf = true → ((x2.f0.length ≤ maxLen ∧ ∀ z ∈ x2.f0, (Lit.int .i64 z).wf = true) ∧ (Lit.int .i64 x2.f1).wf = true ∧ (Lit.int .i64 x2.f2).wf = true ∧ (Lit.int .i64 x2.f3).wf = true ∧ (Lit.int .i64 x2.f4).wf = true) → ∃ k, firkinlaw26_SpanRuns.f k x0 x1 x2.f0 x2.f1 x2.f2 x2.f3 x2.f4 = some true := by
  rintro x0 x1 x2 h0 h1 ⟨⟨_, hz⟩, hg, ha, hb, hn⟩
  unfold firkinlaw26_SpanRuns.f
  by_cases hl : (x2.f0.length : Int) > 60
  · exact ⟨100, by rw [if_pos hl, live_at 100 (Nat.le_refl _)]; rfl⟩
  · obtain ⟨p, q, t, hp, hp2⟩ : ∃ p q t, span_Pages.f x0 x1 = some (p, q, t) ∧ firkinref26_Pages.f x0 x1 = some (p, q, t) := by
      unfold span_Pages.f firkinref26_Pages.f
      split
      · exact ⟨_, _, _, rfl, rfl⟩
      split
      · exact ⟨_, _, _, rfl, rfl⟩
      split
      · exact ⟨_, _, _, rfl, rfl⟩
      split <;> exact ⟨_, _, _, rfl, rfl⟩
    have hlen := runsL_len x2.f0 x2.f1
    refine ⟨1000 + (runsL x2.f0 x2.f1).length + 1 + 1, ?_⟩
    have hfl : ∀ b, b = false → firkinlaw26_SpanRuns.j0 (1000 + (runsL x2.f0 x2.f1).length + 1 + 1) b x2.f0 x2.f1 x2.f2 x2.f3 x2.f4 = some true := by
      rintro b rfl
      rw [firkinlaw26_SpanRuns.j0, if_neg (by decide), runs_is x2.f0 x2.f1 (by omega) (fun z hz' => (Wf.i64 (hz z hz')).2) _ (by omega), Option.bind_some,
        rruns_is x2.f0 x2.f1 (by omega) (fun z hz' => (Wf.i64 (hz z hz')).2) _ (by omega), Option.bind_some, if_pos (by rw [List.length_map])]
      refine runs_l0 (runsL x2.f0 x2.f1) (by omega) x2.f0 x2.f1 x2.f2 x2.f3 x2.f4 (some true) 1000 ?_ (runsL x2.f0 x2.f1).length 0 (by omega)
      intro i hi
      obtain ⟨r, e1, e2⟩ := bytes_same 999 x2.f2 x2.f3 x2.f4 (Wf.i64 ha).1 (Wf.i64 ha).2 (Wf.i64 hb).1 (Wf.i64 hb).2 (Wf.i64 hn).1
      rw [firkinlaw26_SpanRuns.l0, if_neg hi, e1, Option.bind_some, e2, Option.bind_some, if_pos rfl, if_pos rfl, if_pos (by simp), live_at 1000 (by decide)]; rfl
    rw [if_neg hl, hp, Option.bind_some, hp2, Option.bind_some, if_neg (by simp), if_pos rfl]
    exact hfl _ (by simp)
end Go.Proofs.Ytbepdhndnhoelaa.True_
