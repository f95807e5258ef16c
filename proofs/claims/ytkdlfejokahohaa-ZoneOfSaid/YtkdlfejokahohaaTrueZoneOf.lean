/- ZoneOf: every cells' zone is the document's, it has each of them, and that of two lists together is their zones' join. No condition. -/
import Derived.Test.YtkdlfejokahohaaX8
import Derived.Test.YtkdlfejokahohaaROf
import Derived.Test.YtkdlfejokahohaaZonePlain
import Derived.Test.YtkdlfejokahohaaCellOrdR
import Derived.Test.YtkdlfejokahohaaSmallCells
namespace Go.Proofs.Ytkdlfejokahohaa.True_
open Go Go.RowKit Go.Proofs.Ytkdlfejokahohaa.X Go.Proofs.Ytkdlfejokahohaa.CellPlain Go.Proofs.Ytkdlfejokahohaa.ZoneLaw Go.Proofs.Ytkdlfejokahohaa.Dec Go.Proofs.YtkdlfejokahohaaW.PrintWords Go.Proofs.YtkdlfejokahohaaW.PrintLast Go.Proofs.YtkdlfejokahohaaW.PrintMore
set_option linter.unusedVariables false
set_option linter.unusedSimpArgs false
theorem zone_live2 : firkinlaw11_live.f = some true := by
  unfold firkinlaw11_live.f zone_Of.f
  decide +kernel
theorem rd_at (l : List Cell) (i : Nat) (h : i < l.length) : rd_T23 l (i : Int) = l[i] := by
  unfold rd_T23
  rw [Int.toNat_natCast, List.getD_eq_getElem?_getD, List.getElem?_eq_getElem h]; rfl
def tup (z : Zn) : Int × Int × Bool × Int × ByteArray × Bool × Int × ByteArray := (z.1, z.2.1, z.2.2.1.f0, z.2.2.1.f1, z.2.2.1.f2, z.2.2.2.f0, z.2.2.2.f1, z.2.2.2.f2)
theorem rof_is (l : List Cell) (hl : l.length < 1000000) : firkinref11_Of.f l = some (tup (noteAll zc0 l)) := by
  unfold firkinref11_Of.f tup
  rw [if_pos hl, all_rows]
  simp [zc0]
theorem may_loop (ty : Int) (l : List Cell) (hl : l.length < 1000000) (d : Nat) : ∀ (i k : Nat), i + d = l.length → d + 1 < k → ∃ b, firkinlaw11_may.l0 k ty l (i : Int) = some b ∧ (b = true → ∀ c ∈ l.drop i, mayC ty true c.f0 c.f1 c.f2 = true) := by
  induction d with
  | zero =>
    intro i k h1 hk
    obtain rfl : i = l.length := by omega
    obtain ⟨k, rfl⟩ : ∃ m, k = m + 1 := ⟨k - 1, by omega⟩
    rw [firkinlaw11_may.l0, if_neg (by omega), List.drop_length]
    exact ⟨true, rfl, fun _ c hc => by simp at hc⟩
  | succ d ih =>
    intro i k h1 hk
    obtain ⟨k, rfl⟩ : ∃ m, k = m + 2 := ⟨k - 2, by omega⟩
    have hlt : i < l.length := by omega
    rw [firkinlaw11_may.l0, if_pos (by omega), if_pos (by omega), rd_at l i hlt, rmay_is, Option.bind_some]
    by_cases hm : mayC ty true l[i].f0 l[i].f1 l[i].f2 = true
    · obtain ⟨b, hb, hb2⟩ := ih (i + 1) (k + 1) (by omega) (by omega)
      rw [if_pos hm, w64 (by omega) (by omega), show ((i : Int) + 1) = ((i + 1 : Nat) : Int) by omega]
      refine ⟨b, hb, fun h c hc => ?_⟩
      rw [List.drop_eq_getElem_cons hlt] at hc
      rcases List.mem_cons.1 hc with rfl | hc
      · exact hm
      · exact hb2 h c hc
    · rw [if_neg hm]; exact ⟨false, rfl, fun h => by cases h⟩
theorem may_get (ty : Int) (l : List Cell) (hl : l.length < 1000000) (k : Nat) (hk : l.length + 1 < k) : ∃ b, firkinlaw11_may.f k ty l = some b ∧ (b = true → ∀ c ∈ l, mayC ty true c.f0 c.f1 c.f2 = true) := by
  have := may_loop ty l hl l.length 0 k (by omega) hk
  exact this
theorem may_some {ty : Int} {c : Cell} (h : mayC ty true c.f0 c.f1 c.f2 = true) (h0 : c.f0 = false) : mayC ty false c.f0 c.f1 c.f2 = true := by
  unfold mayC at h ⊢; rw [h0] at h ⊢; exact h
theorem hasZ_of {z : Zn} {c : Cell} (h : Has z c) : hasZ z.1 z.2.1 z.2.2.1.f0 z.2.2.1.f1 z.2.2.1.f2 z.2.2.2.f0 z.2.2.2.f1 z.2.2.2.f2 c.f0 c.f1 c.f2 = true := by
  unfold Has at h
  unfold hasZ
  by_cases c0 : c.f0 = true
  · rw [if_pos c0] at h ⊢; exact decide_eq_true h
  · rw [if_neg c0] at h ⊢
    obtain ⟨h1, h2, h3⟩ := h
    change (decide (z.2.1 < z.1) && decide (0 ≤ oc c z.2.2.1) && decide (oc c z.2.2.2 ≤ 0)) = true
    rw [decide_eq_true h1, decide_eq_true (show 0 ≤ oc c z.2.2.1 by rw [oc_swap z.2.2.1 c]; omega), decide_eq_true h3]; rfl
theorem mayZ_of {ty : Int} {z : Zn} (h : Inv z) (hr : z.1 ≤ 4096) (h1 : ¬ ty < 1) (h3 : ¬ 3 < ty) (ho : Of (fun c => mayC ty false c.f0 c.f1 c.f2 = true) z) : mayZ ty z.1 z.2.1 z.2.2.1.f0 z.2.2.1.f1 z.2.2.1.f2 z.2.2.2.f0 z.2.2.2.f1 z.2.2.2.f2 = true := by
  obtain ⟨i0, i1, i2, i3⟩ := h
  unfold mayZ
  rw [if_neg (by omega)]
  by_cases e : z.1 = z.2.1
  · rw [if_pos e]; obtain ⟨e1, e2⟩ := i3 e; rw [e1, e2]; decide +kernel
  · rw [if_neg e]
    obtain ⟨m1, m2⟩ := ho (by omega)
    have := i2 (by omega)
    change (mayC _ _ _ _ _ && mayC _ _ _ _ _ && decide (oc z.2.2.1 z.2.2.2 ≤ 0)) = true
    rw [m1, m2, decide_eq_true this]; rfl
theorem zo_l0 (ty : Int) (h1 : ¬ ty < 1) (h3 : ¬ 3 < ty) (a b : List Cell) (ha : a.length ≤ 100) (hb : b.length ≤ 100) (hma : ∀ c ∈ a, mayC ty true c.f0 c.f1 c.f2 = true) (z y : Zn) (hz : z = noteAll zc0 a) (hy : y = noteAll zc0 b) (d : Nat) : ∀ (i k : Nat), i + d = a.length → 1000 + d < k →
    firkinlaw11_ZoneOf.l0 k ty a b (i : Int) z.1 z.2.1 z.2.2.1.f0 z.2.2.1.f1 z.2.2.1.f2 z.2.2.2.f0 z.2.2.2.f1 z.2.2.2.f2 y.1 y.2.1 y.2.2.1.f0 y.2.2.1.f1 y.2.2.1.f2 y.2.2.2.f0 y.2.2.2.f1 y.2.2.2.f2 = some true := by
  induction d with
  | zero =>
    intro i k hi hk
    obtain rfl : i = a.length := by omega
    obtain ⟨k, rfl⟩ : ∃ m, k = m + 1 := ⟨k - 1, by omega⟩
    have hI : Inv z := hz ▸ all_inv inv0 a
    have hIy : Inv y := hy ▸ all_inv inv0 b
    have hr : z.1 = (a.length : Int) := by rw [hz, all_rows]; simp [zc0]
    have hry : y.1 = (b.length : Int) := by rw [hy, all_rows]; simp [zc0]
    have hof : Of (fun c => mayC ty false c.f0 c.f1 c.f2 = true) z := hz ▸ all_of inv0 (fun h => absurd h (by decide)) a (fun c hc h0 => may_some (hma c hc) h0)
    rw [firkinlaw11_ZoneOf.l0, if_neg (by omega), zmay_is _ _ _ _ _ _ _ _ _ k (by omega), Option.bind_some, if_pos (mayZ_of hI (by omega) h1 h3 hof)]
    have hj : zone_Join.f z.1 z.2.1 z.2.2.1.f0 z.2.2.1.f1 z.2.2.1.f2 z.2.2.2.f0 z.2.2.2.f1 z.2.2.2.f2 y.1 y.2.1 y.2.2.1.f0 y.2.2.1.f1 y.2.2.1.f2 y.2.2.2.f0 y.2.2.2.f1 y.2.2.2.f2 = some (tup (J z y)) := by
      unfold zone_Join.f J tup
      have := hI.2.1; have := hI.1; have := hIy.1; have := hIy.2.1
      rw [w64 (by omega) (by omega), w64 (by omega) (by omega)]
    rw [hj, Option.bind_some, Option.bind_some, if_pos (by simp; omega), Option.bind_some, List.nil_append, if_pos (by omega), rof_is _ (by rw [List.length_append]; omega), Option.bind_some, all_join, ← hz, ← hy]
    simp only [beq_self_eq_true, Bool.and_self, if_true]
    rw [zone_live2]; rfl
  | succ d ih =>
    intro i k hi hk
    obtain ⟨k, rfl⟩ : ∃ m, k = m + 1 := ⟨k - 1, by omega⟩
    have hlt : i < a.length := by omega
    have hh : Has z a[i] := hz ▸ all_has inv0 a a[i] (List.getElem_mem hlt)
    rw [firkinlaw11_ZoneOf.l0, if_pos (by omega), if_pos (by omega), rd_at a i hlt, zhas_is _ _ _ _ _ _ _ _ _ _ _ k (by omega), Option.bind_some, if_pos (hasZ_of hh), w64 (by omega) (by omega), show ((i : Int) + 1) = ((i + 1 : Nat) : Int) by omega]
    exact ih (i + 1) k (by omega) (by omega)
theorem zof_is (l : List Cell) (hl : l.length ≤ 100) : zone_Of.f l = some (tup (noteAll zc0 l)) := by
  unfold zone_Of.f tup
  rw [if_pos (by omega)]
theorem ZoneOf : ∀ (x0 : Int) (x1 : List (S23)) (x2 : List (S23)), (Lit.int .i64 x0).wf = true → (x1.length ≤ maxLen ∧ ∀ z ∈ x1, (True ∧ (Lit.int .i64 z.f1).wf = true ∧ z.f2.size ≤ maxLen)) → (x2.length ≤ maxLen ∧ ∀ z ∈ x2, (True ∧ (Lit.int .i64 z.f1).wf = true ∧ z.f2.size ≤ maxLen)) → ∃ k, firkinlaw11_ZoneOf.f k x0 x1 x2 = some true := by
  intro x0 x1 x2 _ _ _
  refine ⟨3000, ?_⟩
  have hlive : firkinlaw11_ZoneOf.j0 3000 x0 x1 x2 true = some true := by rw [firkinlaw11_ZoneOf.j0, if_pos rfl, zone_live2]; rfl
  unfold firkinlaw11_ZoneOf.f
  obtain ⟨b1, e1, h1⟩ := smallc_get x1 3000 (by decide)
  obtain ⟨b2, e2, h2⟩ := smallc_get x2 3000 (by decide)
  rw [e1, Option.bind_some]
  cases b1 with
  | false => rw [if_neg (by decide)]; exact hlive
  | true =>
    rw [if_pos rfl, e2, Option.bind_some]
    cases b2 with
    | false => exact hlive
    | true =>
      have hl1 := h1 rfl
      have hl2 := h2 rfl
      rw [Bool.not_true, firkinlaw11_ZoneOf.j0, if_neg (by decide), zof_is x1 hl1, Option.bind_some, zof_is x2 hl2, Option.bind_some, rof_is x1 (by omega), Option.bind_some]
      simp only [beq_self_eq_true, Bool.not_true, Bool.or_self, Bool.false_eq_true, if_false]
      have hj : ∀ b, (b = false → ∀ c ∈ x1, mayC x0 true c.f0 c.f1 c.f2 = true) → (b = false → ¬ x0 < 1 ∧ ¬ 3 < x0) → firkinlaw11_ZoneOf.j1 2999 x0 x1 x2 b (tup (noteAll zc0 x1)).1 (tup (noteAll zc0 x1)).2.1 (tup (noteAll zc0 x1)).2.2.1 (tup (noteAll zc0 x1)).2.2.2.1 (tup (noteAll zc0 x1)).2.2.2.2.1 (tup (noteAll zc0 x1)).2.2.2.2.2.1 (tup (noteAll zc0 x1)).2.2.2.2.2.2.1 (tup (noteAll zc0 x1)).2.2.2.2.2.2.2 (tup (noteAll zc0 x2)).1 (tup (noteAll zc0 x2)).2.1 (tup (noteAll zc0 x2)).2.2.1 (tup (noteAll zc0 x2)).2.2.2.1 (tup (noteAll zc0 x2)).2.2.2.2.1 (tup (noteAll zc0 x2)).2.2.2.2.2.1 (tup (noteAll zc0 x2)).2.2.2.2.2.2.1 (tup (noteAll zc0 x2)).2.2.2.2.2.2.2 = some true := by
        intro b hm ht
        rw [firkinlaw11_ZoneOf.j1]
        cases b with
        | true => rw [if_pos rfl, zone_live2]; rfl
        | false =>
          rw [if_neg (by decide)]
          exact zo_l0 x0 (ht rfl).1 (ht rfl).2 x1 x2 hl1 hl2 (hm rfl) _ _ rfl rfl x1.length 0 2998 (by omega) (by omega)
      obtain ⟨m1, f1, g1⟩ := may_get x0 x1 (by omega) 2999 (by omega)
      obtain ⟨m2, f2, g2⟩ := may_get x0 x2 (by omega) 2999 (by omega)
      rw [f1, Option.bind_some]
      cases m1 with
      | false => rw [if_neg (by decide)]; exact hj true (fun h => by cases h) (fun h => by cases h)
      | true =>
        rw [if_pos rfl, f2, Option.bind_some]
        cases m2 with
        | false => rw [if_neg (by decide)]; exact hj true (fun h => by cases h) (fun h => by cases h)
        | true =>
          rw [if_pos rfl]
          by_cases t1 : x0 < 1
          · rw [if_pos t1]; exact hj true (fun h => by cases h) (fun h => by cases h)
          · rw [if_neg t1]; exact hj _ (fun _ => g1 rfl) (fun h => ⟨t1, of_decide_eq_false h⟩)
end Go.Proofs.Ytkdlfejokahohaa.True_
