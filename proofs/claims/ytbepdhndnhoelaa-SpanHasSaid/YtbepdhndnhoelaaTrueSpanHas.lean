/- SpanHas: runs have each page, one behind the other, and begin and end with one. No condition. -/
import Derived.Test.YtbepdhndnhoelaaX12
import Derived.Test.YtbepdhndnhoelaaSpanRunsP
import Derived.Test.YtbepdhndnhoelaaSpanLive
import Derived.Test.YtbepdhndnhoelaaWf
namespace Go.Proofs.Ytbepdhndnhoelaa.True_
open Go Go.RowKit Go.Proofs.Ytbepdhndnhoelaa.X Go.Proofs.Ytbepdhndnhoelaa.SpanP Go.Proofs.Ytbepdhndnhoelaa.SpanLive Go.Proofs.YtbepdhndnhoelaaW.PrintWords Go.Proofs.YtbepdhndnhoelaaW.PrintLast Go.Proofs.YtbepdhndnhoelaaW.PrintMore
set_option linter.unusedVariables false
set_option linter.unusedSimpArgs false
abbrev hasN (x : Int) : Rn → Bool := hasR (·.f0) (·.f1) x
theorem rd_at (x : List Int) (i : Nat) (h : i < x.length) : rd x (i : Int) = x[i] := by unfold rd; simp [h]
theorem rdT_at (x : List Rn) (i : Nat) (h : i < x.length) : rd_T27 x (i : Int) = x[i] := by unfold rd_T27; simp [h]
theorem has_l1 (x0 : List Int) (R : List Rn) (i : Nat) (hi : i < x0.length) (hR : R.length ≤ 1000) : ∀ (d j n f : Nat), j + d = R.length → n + d ≤ 1000 →
    firkinlaw26_SpanHas.l1 (f + d + 1) x0 R (i : Int) (n : Int) (j : Int) = (if (((((n + (R.drop j).countP (hasN x0[i]) : Nat) : Int)) == 1) != (decide (x0[i] ≥ 0))) = true then some false else if ((n + (R.drop j).countP (hasN x0[i]) : Nat) : Int) > 1 then some false else firkinlaw26_SpanHas.l0 f x0 R (wrap64 ((i : Int) + 1))) := by
  intro d
  induction d with
  | zero =>
    intro j n f h hn
    rw [firkinlaw26_SpanHas.l1, if_neg (by omega), if_pos (by omega), if_pos (by omega), rd_at x0 i hi, List.drop_eq_nil_of_le (by omega)]
    rfl
  | succ d ih =>
    intro j n f h hn
    have hj : j < R.length := by omega
    have e0 : f + (d + 1) + 1 = (f + d + 1) + 1 := by omega
    have ew : wrap64 ((j : Int) + 1) = ((j + 1 : Nat) : Int) := by unfold wrap64; omega
    have en : wrap64 ((n : Int) + 1) = ((n + 1 : Nat) : Int) := by unfold wrap64; omega
    have ed : (R.drop j).countP (hasN x0[i]) = (R.drop (j + 1)).countP (hasN x0[i]) + (if hasN x0[i] R[j] = true then 1 else 0) := by
      rw [List.drop_eq_getElem_cons hj, List.countP_cons]
    rw [e0, firkinlaw26_SpanHas.l1, if_pos (by omega), if_pos (by omega), if_pos (by omega), if_pos (by omega), rd_at x0 i hi, rdT_at R j hj, ew, en, ed]
    by_cases h1 : R[j].f0 ≤ x0[i]
    · by_cases h2 : x0[i] ≤ R[j].f1
      · rw [if_pos h1, if_pos h2, ih (j + 1) (n + 1) f (by omega) (by omega), if_pos (show hasN x0[i] R[j] = true by simp [hasR, h1, h2]), show n + ((R.drop (j + 1)).countP (hasN x0[i]) + 1) = n + 1 + (R.drop (j + 1)).countP (hasN x0[i]) by omega]
      · rw [if_pos h1, if_neg h2, ih (j + 1) n f (by omega) (by omega), if_neg (show ¬ hasN x0[i] R[j] = true by simp [hasR]; omega)]; rfl
    · rw [if_neg h1, ih (j + 1) n f (by omega) (by omega), if_neg (show ¬ hasN x0[i] R[j] = true by simp [hasR]; omega)]; rfl
theorem has_l0 (x0 : List Int) (R : List Rn) (hR : R.length ≤ 900) (hx : x0.length ≤ 1000) (hc : ∀ x ∈ x0, R.countP (hasN x) ≤ 1 ∧ (0 ≤ x → R.countP (hasN x) = 1) ∧ (x < 0 → R.countP (hasN x) = 0)) :
    ∀ (d i f : Nat), i + d = x0.length → firkinlaw26_SpanHas.l0 (f + d * (R.length + 2) + 1) x0 R (i : Int) = firkinlaw26_SpanHas.l2 f x0 R 0 := by
  intro d
  induction d with
  | zero => intro i f h; rw [firkinlaw26_SpanHas.l0, if_neg (by omega), Nat.zero_mul, Nat.add_zero]
  | succ d ih =>
    intro i f h
    have hi : i < x0.length := by omega
    obtain ⟨c1, c2, c3⟩ := hc x0[i] (List.getElem_mem hi)
    have ew : wrap64 ((i : Int) + 1) = ((i + 1 : Nat) : Int) := by unfold wrap64; omega
    have e1 : f + (d + 1) * (R.length + 2) = (f + d * (R.length + 2) + 1) + R.length + 1 := by rw [Nat.succ_mul]; omega
    have hz := has_l1 x0 R i hi (by omega) R.length 0 0 (f + d * (R.length + 2) + 1) (by omega) (by omega)
    rw [firkinlaw26_SpanHas.l0, if_pos (by omega), e1]
    refine hz.trans ?_
    rw [List.drop_zero, Nat.zero_add, if_neg ?_, if_neg (by omega), ew, ih (i + 1) f (by omega)]
    by_cases h0 : 0 ≤ x0[i]
    · rw [c2 h0]; simp [h0]
    · rw [c3 (by omega)]; simp [h0]
theorem has_l3 (x0 : List Int) (R : List Rn) (k : Nat) (hk : k < R.length) (hR : R.length ≤ 1000) (hx : x0.length ≤ 1000) (hp : ∀ (h : 0 < k), R[k - 1].f1 < R[k].f0) : ∀ (d j f : Nat) (a b : Bool), j + d = x0.length → (a = true ∨ R[k].f0 ∈ x0.drop j) → (b = true ∨ R[k].f1 ∈ x0.drop j) →
    firkinlaw26_SpanHas.l3 (f + d + 1) x0 R (k : Int) a b (j : Int) = firkinlaw26_SpanHas.l2 f x0 R ((k + 1 : Nat) : Int) := by
  intro d
  induction d with
  | zero =>
    intro j f a b h ha hb
    rw [List.drop_eq_nil_of_le (by omega)] at ha hb
    obtain rfl : a = true := by simpa using ha
    obtain rfl : b = true := by simpa using hb
    have ew : wrap64 ((k : Int) + 1) = ((k + 1 : Nat) : Int) := by unfold wrap64; omega
    rw [firkinlaw26_SpanHas.l3, if_neg (by omega), if_pos rfl, if_pos rfl, ew]
    by_cases h0 : 0 < k
    · have ek : wrap64 ((k : Int) - 1) = ((k - 1 : Nat) : Int) := by unfold wrap64; omega
      have := hp h0
      rw [if_pos (by omega), if_pos (by omega), if_pos (by omega), ek, if_pos (by omega), if_pos (by omega), rdT_at R k hk, rdT_at R (k - 1) (by omega), if_neg (by omega)]
    · rw [if_neg (by omega)]
  | succ d ih =>
    intro j f a b h ha hb
    have hj : j < x0.length := by omega
    have e0 : f + (d + 1) + 1 = (f + d + 1) + 1 := by omega
    have ew : wrap64 ((j : Int) + 1) = ((j + 1 : Nat) : Int) := by unfold wrap64; omega
    rw [List.drop_eq_getElem_cons hj, List.mem_cons] at ha hb
    have hjj : (j : Int) < (x0.length : Int) := by omega
    have hj0 : (0 : Int) ≤ (j : Int) := by omega
    have hkk : (k : Int) < (R.length : Int) := by omega
    have hk0 : (0 : Int) ≤ (k : Int) := by omega
    rw [e0, firkinlaw26_SpanHas.l3, if_pos hjj, rd_at x0 j hj, rdT_at R k hk, ew]
    simp only [if_pos hj0, if_pos hk0, if_pos hkk]
    have ga : ((x0[j] == R[k].f0) = true ∨ R[k].f0 ∈ x0.drop (j + 1)) ∨ a = true := by
      rcases ha with ha | ha | ha
      · exact Or.inr ha
      · exact Or.inl (Or.inl (by rw [ha]; simp))
      · exact Or.inl (Or.inr ha)
    have gb : ((x0[j] == R[k].f1) = true ∨ R[k].f1 ∈ x0.drop (j + 1)) ∨ b = true := by
      rcases hb with hb | hb | hb
      · exact Or.inr hb
      · exact Or.inl (Or.inl (by rw [hb]; simp))
      · exact Or.inl (Or.inr hb)
    cases a with
    | true =>
      rw [if_pos rfl]
      cases b with
      | true => rw [if_pos rfl]; exact ih (j + 1) f _ _ (by omega) (Or.inl rfl) (Or.inl rfl)
      | false => rw [if_neg (by decide)]; exact ih (j + 1) f _ _ (by omega) (Or.inl rfl) (gb.resolve_right (by decide))
    | false =>
      rw [if_neg (by decide)]
      cases b with
      | true => rw [if_pos rfl]; exact ih (j + 1) f _ _ (by omega) (ga.resolve_right (by decide)) (Or.inl rfl)
      | false => rw [if_neg (by decide)]; exact ih (j + 1) f _ _ (by omega) (ga.resolve_right (by decide)) (gb.resolve_right (by decide))
theorem has_l2 (x0 : List Int) (R : List Rn) (hR : R.length ≤ 1000) (hx : x0.length ≤ 1000) (hm : ∀ r ∈ R, r.f0 ∈ x0 ∧ r.f1 ∈ x0) (hp : R.Pairwise (fun r s => r.f1 < s.f0)) :
    ∀ (d k f : Nat), k + d = R.length → firkinlaw26_SpanHas.l2 (f + d * (x0.length + 2) + 1) x0 R (k : Int) = firkinlaw26_live.f f := by
  intro d
  induction d with
  | zero =>
    intro k f h
    rw [firkinlaw26_SpanHas.l2, if_neg (by omega), Nat.zero_mul, Nat.add_zero]
    cases firkinlaw26_live.f f <;> rfl
  | succ d ih =>
    intro k f h
    have hk : k < R.length := by omega
    obtain ⟨m1, m2⟩ := hm R[k] (List.getElem_mem hk)
    have e1 : f + (d + 1) * (x0.length + 2) = (f + d * (x0.length + 2) + 1) + x0.length + 1 := by rw [Nat.succ_mul]; omega
    have hz := has_l3 x0 R k hk hR hx (fun h0 => (List.pairwise_iff_getElem.mp hp) (k - 1) k (by omega) hk (by omega)) x0.length 0 (f + d * (x0.length + 2) + 1) false false (by omega) (Or.inr (by simpa using m1)) (Or.inr (by simpa using m2))
    rw [firkinlaw26_SpanHas.l2, if_pos (by omega), e1]
    exact hz.trans (ih (k + 1) f (by omega))
theorem SpanHas : ∀ (x0 : List Int) (x1 : Int), (x0.length ≤ maxLen ∧ ∀ z ∈ x0, (Lit.int .i64 z).wf = true) → (Lit.int .i64 x1).wf = true → ∃ k, firkinlaw26_SpanHas.f k x0 x1 = some true := by
  intro x0 x1 h0 h1
  unfold firkinlaw26_SpanHas.f
  by_cases hl : (x0.length : Int) > 60
  · exact ⟨100, by rw [if_pos hl, live_at 100 (Nat.le_refl _)]; rfl⟩
  · have hr := runsL_of x0 x1
    have hn := runsL_len x0 x1
    refine ⟨1000 + (runsL x0 x1).length * (x0.length + 2) + 1 + x0.length * ((runsL x0 x1).length + 2) + 1, ?_⟩
    rw [if_neg hl, runs_is x0 x1 (by omega) (fun z hz => (Wf.i64 (h0.2 z hz)).2) _ (by omega), Option.bind_some]
    have e1 := has_l0 x0 (runsL x0 x1) (by omega) (by omega) ?_ x0.length 0 (1000 + (runsL x0 x1).length * (x0.length + 2) + 1) (by omega)
    · refine e1.trans ((has_l2 x0 (runsL x0 x1) (by omega) (by omega) ?_ hr.1 (runsL x0 x1).length 0 1000 (by omega)).trans (live_at 1000 (by decide)))
      intro r hm
      exact ⟨((upL_mem x0 _).mp (hr.2.1 r hm).2.1).1, ((upL_mem x0 _).mp (hr.2.1 r hm).2.2).1⟩
    · intro x hx
      obtain ⟨c1, c2, c3⟩ := cnt_is (·.f0) (·.f1) x (runsL x0 x1) (upL x0) hr
      refine ⟨c1, fun h => c2 ((upL_mem x0 x).mpr ⟨hx, h⟩), fun h => c3 ?_⟩
      intro y hy
      have := ((upL_mem x0 y).mp hy).2
      omega
end Go.Proofs.Ytbepdhndnhoelaa.True_
