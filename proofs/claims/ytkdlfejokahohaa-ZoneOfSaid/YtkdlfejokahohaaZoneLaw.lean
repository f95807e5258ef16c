/- Cells' zones, plain law: what noting cells one behind the other gives. -/
import Derived.Test.YtkdlfejokahohaaZoneOfC
import Derived.Test.YtkdlfejokahohaaZoneJoin
import Derived.Test.YtkdlfejokahohaaCellOrd
namespace Go.Proofs.Ytkdlfejokahohaa.ZoneLaw
open Go Go.RowKit Go.Proofs.Ytkdlfejokahohaa.X Go.Proofs.Ytkdlfejokahohaa.CellPlain
set_option linter.unusedVariables false
set_option linter.unusedSimpArgs false
abbrev Cell := S23
abbrev Zn := Int × Int × Cell × Cell
/-- The order of two cells. -/
def oc (a b : Cell) : Int := ordC a.f0 a.f1 a.f2 b.f0 b.f1 b.f2
theorem oc_swap (a b : Cell) : oc b a = -oc a b := ordC_swap _ _ _ _ _ _
theorem oc_trans {a b c : Cell} (h1 : oc a b ≤ 0) (h2 : oc b c ≤ 0) : oc a c ≤ 0 := ordC_trans h1 h2
theorem oc_self (a : Cell) : oc a a = 0 := by have := oc_swap a a; omega
theorem oc_lt_le {a b c : Cell} (h1 : oc a b < 0) (h2 : oc b c ≤ 0) : oc a c < 0 := by
  by_cases h : oc a c < 0
  · exact h
  · have h3 : oc c a ≤ 0 := by rw [oc_swap a c]; omega
    have := oc_trans h2 h3
    have := oc_swap a b
    omega
theorem oc_le_lt {a b c : Cell} (h1 : oc a b ≤ 0) (h2 : oc b c < 0) : oc a c < 0 := by
  by_cases h : oc a c < 0
  · exact h
  · have h3 : oc c a ≤ 0 := by rw [oc_swap a c]; omega
    have := oc_trans h3 h1
    have := oc_swap b c
    omega
def note (z : Zn) (c : Cell) : Zn := noteR z.1 z.2.1 z.2.2.1 z.2.2.2 c
theorem note_is (z : Zn) (c : Cell) : note z c = if c.f0 = true then (z.1 + 1, z.2.1 + 1, z.2.2.1, z.2.2.2) else if z.1 ≤ z.2.1 then (z.1 + 1, z.2.1, c, c) else if oc c z.2.2.1 < 0 then (z.1 + 1, z.2.1, c, z.2.2.2) else if 0 < oc c z.2.2.2 then (z.1 + 1, z.2.1, z.2.2.1, c) else (z.1 + 1, z.2.1, z.2.2.1, z.2.2.2) := rfl
theorem all_nil (z : Zn) : noteAll z [] = z := rfl
theorem all_cons (z : Zn) (c : Cell) (l : List Cell) : noteAll z (c :: l) = noteAll (note z c) l := rfl
theorem all_app (z : Zn) (a b : List Cell) : noteAll z (a ++ b) = noteAll (noteAll z a) b := by
  induction a generalizing z with
  | nil => rfl
  | cons c a ih => rw [List.cons_append, all_cons, all_cons, ih]
/-- A zone as it can be: not more nulls than rows; the lowest cell is not above the greatest one; of none there is neither. -/
def Inv (z : Zn) : Prop := 0 ≤ z.2.1 ∧ z.2.1 ≤ z.1 ∧ (z.2.1 < z.1 → oc z.2.2.1 z.2.2.2 ≤ 0) ∧ (z.1 = z.2.1 → z.2.2.1 = ⟨false, 0, ByteArray.empty⟩ ∧ z.2.2.2 = ⟨false, 0, ByteArray.empty⟩)
theorem inv0 : Inv zc0 := ⟨by decide, by decide, fun h => absurd h (by decide), fun _ => ⟨rfl, rfl⟩⟩
theorem note_inv {z : Zn} (h : Inv z) (c : Cell) : Inv (note z c) := by
  obtain ⟨r, n, l, g⟩ := z
  obtain ⟨h0, h1, h2, h3⟩ := h
  simp only at h0 h1 h2 h3
  rw [note_is]
  simp only
  by_cases c0 : c.f0 = true
  · rw [if_pos c0]; exact ⟨by simp only; omega, by simp only; omega, fun h => h2 (by simp only at h; omega), fun h => h3 (by simp only at h; omega)⟩
  rw [if_neg c0]
  by_cases c1 : r ≤ n
  · rw [if_pos c1]; exact ⟨h0, by simp only; omega, fun _ => by simp only [oc_self]; omega, fun h => by simp only at h; omega⟩
  rw [if_neg c1]
  have h4 := h2 (by omega)
  by_cases c2 : oc c l < 0
  · rw [if_pos c2]; exact ⟨h0, by simp only; omega, fun _ => oc_trans (show oc c l ≤ 0 by omega) h4, fun h => by simp only at h; omega⟩
  rw [if_neg c2]
  by_cases c3 : 0 < oc c g
  · rw [if_pos c3]; exact ⟨h0, by simp only; omega, fun _ => by have := oc_swap c l; simp only; omega, fun h => by simp only at h; omega⟩
  rw [if_neg c3]
  exact ⟨h0, by simp only; omega, fun _ => h4, fun h => by simp only at h; omega⟩
theorem all_inv {z : Zn} (h : Inv z) (l : List Cell) : Inv (noteAll z l) := by
  induction l generalizing z with
  | nil => exact h
  | cons c l ih => rw [all_cons]; exact ih (note_inv h c)
/-- What was a zone's stays between its bounds. -/
def Has (z : Zn) (c : Cell) : Prop := if c.f0 = true then 0 < z.2.1 else z.2.1 < z.1 ∧ oc z.2.2.1 c ≤ 0 ∧ oc c z.2.2.2 ≤ 0
theorem note_has {z : Zn} (h : Inv z) (c : Cell) : Has (note z c) c := by
  obtain ⟨r, n, l, g⟩ := z
  obtain ⟨h0, h1, h2, h3⟩ := h
  simp only at h0 h1 h2 h3
  rw [note_is]
  unfold Has
  simp only
  by_cases c0 : c.f0 = true
  · rw [if_pos c0, if_pos c0]; simp only; omega
  rw [if_neg c0, if_neg c0]
  by_cases c1 : r ≤ n
  · rw [if_pos c1]; simp only [oc_self]; omega
  rw [if_neg c1]
  have h4 := h2 (by omega)
  by_cases c2 : oc c l < 0
  · rw [if_pos c2]; exact ⟨by simp only; omega, by simp only [oc_self]; omega, oc_trans (by omega) h4⟩
  rw [if_neg c2]
  have h5 := oc_swap c l
  by_cases c3 : 0 < oc c g
  · rw [if_pos c3]; exact ⟨by simp only; omega, by simp only; omega, by simp only [oc_self]; omega⟩
  rw [if_neg c3]
  exact ⟨by simp only; omega, by simp only; omega, by simp only; omega⟩
theorem note_keeps {z : Zn} (h : Inv z) (c d : Cell) (hd : Has z d) : Has (note z c) d := by
  obtain ⟨r, n, l, g⟩ := z
  obtain ⟨h0, h1, h2, h3⟩ := h
  simp only at h0 h1 h2 h3
  rw [note_is]
  unfold Has at hd ⊢
  simp only at hd ⊢
  by_cases d0 : d.f0 = true
  · rw [if_pos d0] at hd ⊢
    repeat' split
    all_goals (simp only; omega)
  rw [if_neg d0] at hd ⊢
  obtain ⟨d1, d2, d3⟩ := hd
  by_cases c0 : c.f0 = true
  · rw [if_pos c0]; exact ⟨by simp only; omega, d2, d3⟩
  rw [if_neg c0, if_neg (by omega)]
  by_cases c2 : oc c l < 0
  · rw [if_pos c2]; exact ⟨by simp only; omega, oc_trans (show oc c l ≤ 0 by omega) d2, d3⟩
  rw [if_neg c2]
  by_cases c3 : 0 < oc c g
  · rw [if_pos c3]; exact ⟨by simp only; omega, d2, oc_trans d3 (show oc g c ≤ 0 by have := oc_swap c g; omega)⟩
  rw [if_neg c3]
  exact ⟨by simp only; omega, d2, d3⟩
theorem all_keeps {z : Zn} (h : Inv z) (l : List Cell) (d : Cell) (hd : Has z d) : Has (noteAll z l) d := by
  induction l generalizing z with
  | nil => exact hd
  | cons c l ih => rw [all_cons]; exact ih (note_inv h c) (note_keeps h c d hd)
theorem all_has {z : Zn} (h : Inv z) (l : List Cell) (d : Cell) (hm : d ∈ l) : Has (noteAll z l) d := by
  induction l generalizing z with
  | nil => simp at hm
  | cons c l ih =>
    rw [all_cons]
    rcases List.mem_cons.1 hm with rfl | hm
    · exact all_keeps (note_inv h d) l d (note_has h d)
    · exact ih (note_inv h c) hm
/-- Its bounds are some of its cells. -/
def Of (P : Cell → Prop) (z : Zn) : Prop := z.2.1 < z.1 → P z.2.2.1 ∧ P z.2.2.2
theorem note_of {P : Cell → Prop} {z : Zn} (h : Inv z) (ho : Of P z) (c : Cell) (hc : c.f0 = false → P c) : Of P (note z c) := by
  obtain ⟨r, n, l, g⟩ := z
  obtain ⟨h0, h1, h2, h3⟩ := h
  unfold Of at ho ⊢
  simp only at h0 h1 h2 h3 ho
  rw [note_is]
  simp only
  by_cases c0 : c.f0 = true
  · rw [if_pos c0]; intro h; exact ho (by simp only at h; omega)
  have hc := hc (by simpa using c0)
  rw [if_neg c0]
  by_cases c1 : r ≤ n
  · rw [if_pos c1]; exact fun _ => ⟨hc, hc⟩
  have ho := ho (by omega)
  rw [if_neg c1]
  split
  · exact fun _ => ⟨hc, ho.2⟩
  · split
    · exact fun _ => ⟨ho.1, hc⟩
    · exact fun _ => ho
theorem all_of {P : Cell → Prop} {z : Zn} (h : Inv z) (ho : Of P z) (l : List Cell) (hl : ∀ c ∈ l, c.f0 = false → P c) : Of P (noteAll z l) := by
  induction l generalizing z with
  | nil => exact ho
  | cons c l ih => rw [all_cons]; exact ih (note_inv h c) (note_of h ho c (hl c (by simp))) (fun d hd => hl d (by simp [hd]))
theorem note_rows (z : Zn) (c : Cell) : (note z c).1 = z.1 + 1 := by rw [note_is]; (repeat' split) <;> rfl
theorem all_rows (z : Zn) (l : List Cell) : (noteAll z l).1 = z.1 + l.length := by
  induction l generalizing z with
  | nil => rw [all_nil]; simp
  | cons c l ih => rw [all_cons, ih, note_rows]; simp; omega
/-- The zone of two zones' cells. -/
def J (z y : Zn) : Zn := (z.1 + y.1, z.2.1 + y.2.1, (joinLH z.1 z.2.1 z.2.2.1 z.2.2.2 y.1 y.2.1 y.2.2.1 y.2.2.2).1, (joinLH z.1 z.2.1 z.2.2.1 z.2.2.2 y.1 y.2.1 y.2.2.1 y.2.2.2).2)
theorem J_is (z y : Zn) : J z y = if z.1 ≤ z.2.1 then (z.1 + y.1, z.2.1 + y.2.1, y.2.2.1, y.2.2.2) else if y.1 ≤ y.2.1 then (z.1 + y.1, z.2.1 + y.2.1, z.2.2.1, z.2.2.2) else (z.1 + y.1, z.2.1 + y.2.1, (if oc y.2.2.1 z.2.2.1 < 0 then y.2.2.1 else z.2.2.1), (if 0 < oc y.2.2.2 z.2.2.2 then y.2.2.2 else z.2.2.2)) := by
  unfold J joinLH oc
  split
  · rfl
  · split <;> rfl
theorem J_zero {z : Zn} (h : Inv z) : J z zc0 = z := by
  obtain ⟨r, n, l, g⟩ := z
  obtain ⟨h0, h1, h2, h3⟩ := h
  simp only at h0 h1 h2 h3
  rw [J_is]
  simp only [zc0, Int.add_zero]
  by_cases c1 : r ≤ n
  · rw [if_pos c1]; obtain ⟨e1, e2⟩ := h3 (by omega); rw [e1, e2]
  · rw [if_neg c1]; rfl
theorem J_note {z y : Zn} (hz : Inv z) (hy : Inv y) (c : Cell) : note (J z y) c = J z (note y c) := by
  obtain ⟨r, n, l, g⟩ := z
  obtain ⟨s, m, p, q⟩ := y
  obtain ⟨h0, h1, h2, h3⟩ := hz
  obtain ⟨k0, k1, k2, k3⟩ := hy
  simp only at h0 h1 h2 h3 k0 k1 k2 k3
  rw [note_is (J (r, n, l, g) (s, m, p, q)) c, note_is (s, m, p, q) c]
  simp only [J_is]
  have e1 : r + (s + 1) = r + s + 1 := by omega
  have e2 : n + (m + 1) = n + m + 1 := by omega
  by_cases z0 : r ≤ n
  · simp only [if_pos z0]
    by_cases c0 : c.f0 = true
    · simp only [if_pos c0, e1, e2]
    simp only [if_neg c0]
    by_cases y0 : s ≤ m
    · simp only [if_pos y0, if_pos (show r + s ≤ n + m by omega), e1]
    simp only [if_neg y0, if_neg (show ¬ r + s ≤ n + m by omega)]
    by_cases c1 : oc c p < 0
    · simp only [if_pos c1, e1]
    simp only [if_neg c1]
    by_cases c2 : 0 < oc c q
    · simp only [if_pos c2, e1]
    · simp only [if_neg c2, e1]
  simp only [if_neg z0]
  have hz := h2 (by omega)
  by_cases y0 : s ≤ m
  · simp only [if_pos y0]
    by_cases c0 : c.f0 = true
    · simp only [if_pos c0, if_pos (show s + 1 ≤ m + 1 by omega), e1, e2]
    simp only [if_neg c0, if_neg (show ¬ r + s ≤ n + m by omega), if_neg (show ¬ s + 1 ≤ m by omega), e1]
    by_cases c1 : oc c l < 0
    · have := oc_lt_le c1 hz
      simp only [if_pos c1, if_neg (show ¬ 0 < oc c g by omega)]
    simp only [if_neg c1]
    by_cases c2 : 0 < oc c g
    · simp only [if_pos c2]
    · simp only [if_neg c2]
  simp only [if_neg y0]
  have hy := k2 (by omega)
  by_cases c0 : c.f0 = true
  · simp only [if_pos c0, if_neg (show ¬ s + 1 ≤ m + 1 by omega), e1, e2]
  simp only [if_neg c0, if_neg (show ¬ r + s ≤ n + m by omega)]
  -- the two zones have cells each, and so has the cell
  by_cases c1 : oc c p < 0
  · simp only [if_pos c1, if_neg (show ¬ s + 1 ≤ m by omega), e1]
    have hcq : oc c q < 0 := oc_lt_le c1 hy
    by_cases b1 : oc p l < 0
    · have hcl : oc c l < 0 := oc_lt_le c1 (show oc p l ≤ 0 by omega)
      simp only [if_pos b1, if_pos c1, if_pos hcl]
    · simp only [if_neg b1]
      by_cases a1 : oc c l < 0
      · simp only [if_pos a1]
      · simp only [if_neg a1]
        -- c is not below z's lowest: it is not above the greatest one of both
        by_cases b2 : 0 < oc q g
        · simp only [if_pos b2, if_neg (show ¬ 0 < oc c q by omega)]
        · have : oc c g ≤ 0 := oc_trans (show oc c q ≤ 0 by omega) (show oc q g ≤ 0 by omega)
          simp only [if_neg b2, if_neg (show ¬ 0 < oc c g by omega)]
  · simp only [if_neg c1]
    have hpc : oc p c ≤ 0 := by rw [oc_swap c p]; omega
    have hlow : ¬ oc c (if oc p l < 0 then p else l) < 0 ∨ ¬ oc p l < 0 := by
      by_cases b1 : oc p l < 0
      · left; rw [if_pos b1]; exact c1
      · right; exact b1
    by_cases b1 : oc p l < 0
    · simp only [if_pos b1, if_neg c1]
      by_cases c2 : 0 < oc c q
      · simp only [if_pos c2, if_neg (show ¬ s + 1 ≤ m by omega), if_pos b1, e1]
        by_cases b2 : 0 < oc q g
        · have hgc : oc g c < 0 := oc_lt_le (show oc g q < 0 by rw [oc_swap q g]; omega) (show oc q c ≤ 0 by rw [oc_swap c q]; omega)
          have h9 := oc_swap g c
          simp only [if_pos b2, if_pos c2, if_pos (show 0 < oc c g by omega)]
        · simp only [if_neg b2]
          by_cases c3 : 0 < oc c g
          · simp only [if_pos c3]
          · simp only [if_neg c3]
      · simp only [if_neg c2, if_neg (show ¬ s + 1 ≤ m by omega), if_pos b1, e1]
        by_cases b2 : 0 < oc q g
        · simp only [if_pos b2, if_neg c2]
        · have : oc c g ≤ 0 := oc_trans (show oc c q ≤ 0 by omega) (show oc q g ≤ 0 by omega)
          simp only [if_neg b2, if_neg (show ¬ 0 < oc c g by omega)]
    · have hlp : oc l p ≤ 0 := by rw [oc_swap p l]; omega
      have hlc : oc l c ≤ 0 := oc_trans hlp hpc
      have h8 := oc_swap l c
      simp only [if_neg b1, if_neg (show ¬ oc c l < 0 by omega)]
      by_cases c2 : 0 < oc c q
      · simp only [if_pos c2, if_neg (show ¬ s + 1 ≤ m by omega), if_neg b1, e1]
        by_cases b2 : 0 < oc q g
        · have hgc : oc g c < 0 := oc_lt_le (show oc g q < 0 by rw [oc_swap q g]; omega) (show oc q c ≤ 0 by rw [oc_swap c q]; omega)
          have h9 := oc_swap g c
          simp only [if_pos b2, if_pos c2, if_pos (show 0 < oc c g by omega)]
        · simp only [if_neg b2]
          by_cases c3 : 0 < oc c g
          · simp only [if_pos c3]
          · simp only [if_neg c3]
      · simp only [if_neg c2, if_neg (show ¬ s + 1 ≤ m by omega), if_neg b1, e1]
        by_cases b2 : 0 < oc q g
        · simp only [if_pos b2, if_neg c2]
        · have : oc c g ≤ 0 := oc_trans (show oc c q ≤ 0 by omega) (show oc q g ≤ 0 by omega)
          simp only [if_neg b2, if_neg (show ¬ 0 < oc c g by omega)]
theorem J_all {z y : Zn} (hz : Inv z) (hy : Inv y) (l : List Cell) : noteAll (J z y) l = J z (noteAll y l) := by
  induction l generalizing y with
  | nil => rfl
  | cons c l ih => rw [all_cons, all_cons, J_note hz hy, ih (note_inv hy c)]
theorem all_join (a b : List Cell) : noteAll zc0 (a ++ b) = J (noteAll zc0 a) (noteAll zc0 b) := by
  rw [all_app, ← J_all (all_inv inv0 a) inv0 b, J_zero (all_inv inv0 a)]
end Go.Proofs.Ytkdlfejokahohaa.ZoneLaw
