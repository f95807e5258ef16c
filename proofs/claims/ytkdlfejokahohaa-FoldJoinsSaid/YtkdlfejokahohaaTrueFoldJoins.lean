/- FoldJoins: how cells are parted and joined does not matter: each aggregate is the document's. No condition. -/
import Derived.Test.YtkdlfejokahohaaFoldPlain
import Derived.Test.YtkdlfejokahohaaX8
namespace Go.Proofs.Ytkdlfejokahohaa.True_
open Go Go.RowKit Go.Proofs.Ytkdlfejokahohaa.X Go.Proofs.Ytkdlfejokahohaa.Fold Go.Proofs.YtkdlfejokahohaaW.PrintWords Go.Proofs.YtkdlfejokahohaaW.PrintLast Go.Proofs.YtkdlfejokahohaaW.PrintMore
set_option linter.unusedVariables false
set_option linter.unusedSimpArgs false
theorem fj_l0 (l : List S23) (hl : l.length ≤ 300) (s t : St) (hs : Is l s) (ht : Is l t) (d : Nat) : ∀ (k : Nat) (op : Int), op = 6 - (d : Int) → d ≤ 6 → 1000 + d ≤ k →
  firkinlaw22_FoldJoins.l0 k l op s.all s.some s.sum s.low.f0 s.low.f1 s.low.f2 s.high.f0 s.high.f1 s.high.f2 t.all t.some t.sum t.low.f0 t.low.f1 t.low.f2 t.high.f0 t.high.f1 t.high.f2 = some true := by
 induction d with
 | zero =>
  intro k op ho _ hk
  obtain ⟨k, rfl⟩ : ∃ m, k = m + 1 := ⟨k - 1, by omega⟩
  rw [firkinlaw22_FoldJoins.l0, if_neg (by omega), live_k _ (by omega)]; rfl
 | succ d ih =>
  intro k op ho hd hk
  obtain ⟨k, rfl⟩ : ∃ m, k = m + 1 := ⟨k - 1, by omega⟩
  obtain ⟨r, h3, h4⟩ := value_eq hs (by omega) op k (by omega)
  obtain ⟨r', h5, h6⟩ := value_eq ht (by omega) op k (by omega)
  obtain rfl : r = r' := by rw [h3] at h5; exact Option.some.inj h5
  rw [firkinlaw22_FoldJoins.l0, if_pos (by omega), h4, Option.bind_some, h3, Option.bind_some, if_neg (by simp), h6, Option.bind_some, Option.bind_some, if_neg (by simp), w64 (by omega) (by omega)]
  exact ih k (op + 1) (by omega) (by omega) (by omega)
theorem FoldJoins : ∀ (x0 : List (S23)) (x1 : List (S23)) (x2 : List (S23)), (x0.length ≤ maxLen ∧ ∀ z ∈ x0, (True ∧ (Lit.int .i64 z.f1).wf = true ∧ z.f2.size ≤ maxLen)) → (x1.length ≤ maxLen ∧ ∀ z ∈ x1, (True ∧ (Lit.int .i64 z.f1).wf = true ∧ z.f2.size ≤ maxLen)) → (x2.length ≤ maxLen ∧ ∀ z ∈ x2, (True ∧ (Lit.int .i64 z.f1).wf = true ∧ z.f2.size ≤ maxLen)) → ∃ k, firkinlaw22_FoldJoins.f k x0 x1 x2 = some true := by
 intro a b c ha hb hc
 refine ⟨2001, ?_⟩
 have oa : ∀ x ∈ a, Ok x := fun x hx => ok_of (ha.2 x hx).2.1
 have ob : ∀ x ∈ b, Ok x := fun x hx => ok_of (hb.2 x hx).2.1
 have oc : ∀ x ∈ c, Ok x := fun x hx => ok_of (hc.2 x hx).2.1
 unfold firkinlaw22_FoldJoins.f
 obtain ⟨p, p1, p2⟩ := small_get a 2001 (by omega)
 obtain ⟨q, q1, q2⟩ := small_get b 2001 (by omega)
 obtain ⟨r, r1, r2⟩ := small_get c 2001 (by omega)
 have ht : firkinlaw22_FoldJoins.j0 2001 a b c true = some true := by rw [firkinlaw22_FoldJoins.j0, if_pos rfl, live_k _ (by omega)]; rfl
 rw [p1, Option.bind_some]
 cases p with
 | false => rw [if_neg (by decide)]; exact ht
 | true =>
 rw [if_pos rfl, q1, Option.bind_some]
 cases q with
 | false => rw [if_neg (by decide)]; exact ht
 | true =>
 rw [if_pos rfl, r1, Option.bind_some]
 cases r with
 | false => exact ht
 | true =>
 have la := p2 rfl
 have lb := q2 rfl
 have lc := r2 rfl
 obtain ⟨s, s1, s2⟩ := of_is a (by omega) oa 2000 (by omega)
 obtain ⟨t, t1, t2⟩ := of_is b (by omega) ob 2000 (by omega)
 obtain ⟨u, u1, u2⟩ := of_is c (by omega) oc 2000 (by omega)
 have st := joinS_is s2 t2 (by omega)
 have stu := joinS_is st u2 (by rw [List.length_append]; omega)
 have tu := joinS_is t2 u2 (by omega)
 have stu' := joinS_is s2 tu (by rw [List.length_append]; omega)
 rw [← List.append_assoc] at stu'
 have e1 := join_eq 2000 (by omega) s t
 have e2 := join_eq 2000 (by omega) (joinS s t) u
 have e3 := join_eq 2000 (by omega) t u
 have e4 := join_eq 2000 (by omega) s (joinS t u)
 have hfin := fj_l0 (a ++ b ++ c) (by rw [List.length_append, List.length_append]; omega) _ _ stu stu' 5 2000 1 (by omega) (by omega) (by omega)
 show firkinlaw22_FoldJoins.j0 2001 a b c false = some true
 rw [firkinlaw22_FoldJoins.j0, if_neg (by decide), Option.bind_some, List.nil_append, if_pos (by simp; omega), Option.bind_some, if_pos (by omega), Option.bind_some, if_pos (by rw [List.length_append]; omega), s1, Option.bind_some, t1, Option.bind_some]
 simp only [St.tup] at e1 e2 e3 e4 hfin ⊢
 rw [e1, Option.bind_some, u1, Option.bind_some]
 simp only [St.tup]
 rw [e2, Option.bind_some, Option.bind_some, Option.bind_some, Option.bind_some]
 rw [e3, Option.bind_some]
 simp only
 rw [e4, Option.bind_some]
 exact hfin
end Go.Proofs.Ytkdlfejokahohaa.True_
