/- Lists that rise: what slices.Compact leaves of a sorted list; runs of a list, and how many of them have a number. -/
import Derived.Lib.SlicesCompact
namespace Go.Proofs.Ytbepdhndnhoelaa.SpanP
set_option linter.unusedSimpArgs false
open Go.Lib
/-- A sorted list's neighbours struck out: rising, and the same elements. -/
theorem compact_up (zs : List Int) (hs : zs.Pairwise (· ≤ ·)) : ∀ m, m ≤ zs.length → (compactUpTo zs.toArray m).Pairwise (· < ·) ∧ (∀ x, x ∈ compactUpTo zs.toArray m ↔ ∃ j, j < m ∧ x = zs.toArray[j]!) := by
  intro m
  induction m with
  | zero => intro _; simp [compactUpTo]
  | succ m ih =>
    intro hm
    obtain ⟨h1, h2⟩ := ih (by omega)
    have hle : ∀ i j, i ≤ j → j ≤ m → zs.toArray[i]! ≤ zs.toArray[j]! := by
      intro i j hij hj
      have hi : i < zs.length := by omega
      have hj' : j < zs.length := by omega
      have e1 : zs.toArray[i]! = zs[i] := by simp [hi]
      have e2 : zs.toArray[j]! = zs[j] := by simp [hj']
      rw [e1, e2]
      rcases Nat.lt_or_ge i j with h | h
      · exact (List.pairwise_iff_getElem.mp hs) i j hi hj' h
      · obtain rfl : i = j := by omega
        exact Int.le_refl _
    rw [compactUpTo_succ]
    by_cases hk : keeps zs.toArray m = true
    · rw [if_pos hk]
      have hlt : ∀ j, j < m → zs.toArray[j]! < zs.toArray[m]! := by
        intro j hj
        have hne : zs.toArray[m]! ≠ zs.toArray[m-1]! := by
          unfold keeps at hk
          simp only [Bool.or_eq_true, beq_iff_eq, decide_eq_true_eq] at hk
          rcases hk with hk | hk
          · omega
          · first | exact hk | simpa using hk
        have a1 := hle j (m-1) (by omega) (by omega)
        have a2 := hle (m-1) m (by omega) (by omega)
        omega
      constructor
      · rw [List.pairwise_append]
        refine ⟨h1, List.pairwise_singleton _ _, ?_⟩
        intro a ha b hb
        obtain ⟨j, hj, rfl⟩ := (h2 a).mp ha
        obtain rfl := List.mem_singleton.mp hb
        exact hlt j hj
      · intro x
        rw [List.mem_append, h2, List.mem_singleton]
        constructor
        · rintro (⟨j, hj, rfl⟩ | rfl)
          · exact ⟨j, by omega, rfl⟩
          · exact ⟨m, by omega, rfl⟩
        · rintro ⟨j, hj, rfl⟩
          rcases Nat.lt_or_ge j m with h | h
          · exact Or.inl ⟨j, h, rfl⟩
          · obtain rfl : j = m := by omega
            exact Or.inr rfl
    · rw [if_neg hk, List.append_nil]
      refine ⟨h1, ?_⟩
      intro x
      rw [h2]
      have hm0 : m ≠ 0 ∧ zs.toArray[m]! = zs.toArray[m-1]! := by
        unfold keeps at hk
        simp only [Bool.or_eq_true, beq_iff_eq, decide_eq_true_eq, not_or] at hk
        refine ⟨hk.1, ?_⟩
        have := hk.2
        simpa using this
      constructor
      · rintro ⟨j, hj, rfl⟩; exact ⟨j, by omega, rfl⟩
      · rintro ⟨j, hj, rfl⟩
        rcases Nat.lt_or_ge j m with h | h
        · exact ⟨j, h, rfl⟩
        · obtain rfl : j = m := by omega
          exact ⟨j - 1, by omega, hm0.2⟩
theorem compact_sorted (zs : List Int) (hs : zs.Pairwise (· ≤ ·)) : (compact zs).Pairwise (· < ·) ∧ ∀ x, x ∈ compact zs ↔ x ∈ zs := by
  obtain ⟨h1, h2⟩ := compact_up zs hs zs.length (Nat.le_refl _)
  refine ⟨h1, fun x => ?_⟩
  unfold compact
  rw [h2, List.mem_iff_getElem]
  constructor
  · rintro ⟨j, hj, rfl⟩; exact ⟨j, hj, by simp [hj]⟩
  · rintro ⟨j, hj, rfl⟩; exact ⟨j, hj, by simp [hj]⟩
/-- What span.Runs takes: rising, none below 0. -/
def upL (l : List Int) : List Int := compact ((l.filter fun x => !decide (x < 0)).mergeSort fun x y => decide (x ≤ y))
theorem upL_up (l : List Int) : (upL l).Pairwise (· < ·) := by
  refine (compact_sorted _ ?_).1
  have := List.pairwise_mergeSort (le := fun x y : Int => decide (x ≤ y)) (fun a b c h1 h2 => by simp at *; omega) (fun a b => by simp; omega) (l.filter fun x => !decide (x < 0))
  exact this.imp (fun h => by simpa using h)
theorem upL_mem (l : List Int) (x : Int) : x ∈ upL l ↔ x ∈ l ∧ 0 ≤ x := by
  have hp := List.pairwise_mergeSort (le := fun x y : Int => decide (x ≤ y)) (fun a b c h1 h2 => by simp at *; omega) (fun a b => by simp; omega) (l.filter fun x => !decide (x < 0))
  rw [upL, (compact_sorted _ (hp.imp (fun h => by simpa using h))).2, List.mem_mergeSort, List.mem_filter]
  simp

variable {α : Type} (a b : α → Int)
/-- Runs, one behind the other, of what is listed. -/
def RunsOf (out : List α) (done : List Int) : Prop :=
  out.Pairwise (fun r s => b r < a s) ∧ (∀ r ∈ out, a r ≤ b r ∧ a r ∈ done ∧ b r ∈ done) ∧ (∀ x ∈ done, ∃ r ∈ out, a r ≤ x ∧ x ≤ b r)
theorem RunsOf.nil : RunsOf a b ([] : List α) [] := ⟨List.Pairwise.nil, by simp, by simp⟩
theorem RunsOf.more {out : List α} {done : List Int} {p : Int} {q : α} (h : RunsOf a b out done) (hp : ∀ x ∈ done, x < p) (h1 : a q = p) (h2 : b q = p) : RunsOf a b (out ++ [q]) (done ++ [p]) := by
  obtain ⟨o, m, c⟩ := h
  refine ⟨List.pairwise_append.mpr ⟨o, List.pairwise_singleton _ _, ?_⟩, ?_, ?_⟩
  · intro r hr s hs
    obtain rfl := List.mem_singleton.mp hs
    have := hp _ (m r hr).2.2
    omega
  · intro r hr
    rcases List.mem_append.mp hr with hr | hr
    · obtain ⟨m1, m2, m3⟩ := m r hr
      exact ⟨m1, List.mem_append_left _ m2, List.mem_append_left _ m3⟩
    · obtain rfl := List.mem_singleton.mp hr
      exact ⟨by omega, by rw [h1]; simp, by rw [h2]; simp⟩
  · intro x hx
    rcases List.mem_append.mp hx with hx | hx
    · obtain ⟨r, hr, h⟩ := c x hx
      exact ⟨r, List.mem_append_left _ hr, h⟩
    · obtain rfl := List.mem_singleton.mp hx
      exact ⟨q, by simp, by omega⟩
theorem RunsOf.wide {out : List α} {done : List Int} {p : Int} {r q : α} (h : RunsOf a b (out ++ [r]) done) (hp : ∀ x ∈ done, x < p) (h1 : a q = a r) (h2 : b q = p) : RunsOf a b (out ++ [q]) (done ++ [p]) := by
  obtain ⟨o, m, c⟩ := h
  obtain ⟨o1, o2, o3⟩ := List.pairwise_append.mp o
  obtain ⟨r1, r2, r3⟩ := m r (by simp)
  have rp := hp _ r3
  refine ⟨List.pairwise_append.mpr ⟨o1, List.pairwise_singleton _ _, ?_⟩, ?_, ?_⟩
  · intro x hx s hs
    obtain rfl := List.mem_singleton.mp hs
    have := o3 x hx r (by simp)
    omega
  · intro x hx
    rcases List.mem_append.mp hx with hx | hx
    · obtain ⟨m1, m2, m3⟩ := m x (by simp [hx])
      exact ⟨m1, List.mem_append_left _ m2, List.mem_append_left _ m3⟩
    · obtain rfl := List.mem_singleton.mp hx
      exact ⟨by omega, by rw [h1]; exact List.mem_append_left _ r2, by rw [h2]; simp⟩
  · intro x hx
    rcases List.mem_append.mp hx with hx | hx
    · obtain ⟨s, hs, h⟩ := c x hx
      rcases List.mem_append.mp hs with hs | hs
      · exact ⟨s, List.mem_append_left _ hs, h⟩
      · obtain rfl := List.mem_singleton.mp hs
        exact ⟨q, by simp, by omega⟩
    · obtain rfl := List.mem_singleton.mp hx
      exact ⟨q, by simp, by omega⟩
def hasR (x : Int) (r : α) : Bool := decide (a r ≤ x) && decide (x ≤ b r)
theorem cnt_le (x : Int) : ∀ out : List α, out.Pairwise (fun r s => b r < a s) → out.countP (hasR a b x) ≤ 1
  | [], _ => by simp
  | r :: t, h => by
    obtain ⟨h1, h2⟩ := List.pairwise_cons.mp h
    rw [List.countP_cons]
    by_cases hr : hasR a b x r = true
    · have h0 : t.countP (hasR a b x) = 0 := by
        rw [List.countP_eq_zero]
        intro s hs
        have := h1 s hs
        simp only [hasR, Bool.and_eq_true, decide_eq_true_eq] at hr ⊢
        omega
      rw [h0]; split <;> omega
    · rw [if_neg hr]; have := cnt_le x t h2; omega
theorem cnt_is (x : Int) (out : List α) (done : List Int) (h : RunsOf a b out done) : out.countP (hasR a b x) ≤ 1 ∧ (x ∈ done → out.countP (hasR a b x) = 1) ∧ ((∀ y ∈ done, x < y) → out.countP (hasR a b x) = 0) := by
  have hl := cnt_le a b x out h.1
  refine ⟨hl, ?_, ?_⟩
  · intro hx
    obtain ⟨r, hr, h1, h2⟩ := h.2.2 x hx
    have : 0 < out.countP (hasR a b x) := List.countP_pos_iff.mpr ⟨r, hr, by simp [hasR, h1, h2]⟩
    omega
  · intro hx
    rw [List.countP_eq_zero]
    intro r hr
    have := hx _ (h.2.1 r hr).2.1
    simp only [hasR, Bool.and_eq_true, decide_eq_true_eq]
    omega
end Go.Proofs.Ytbepdhndnhoelaa.SpanP
