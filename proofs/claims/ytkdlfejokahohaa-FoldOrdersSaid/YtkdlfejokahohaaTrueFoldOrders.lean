/- FoldOrders: in which order cells are added does not matter. No condition. -/
import Derived.Test.YtkdlfejokahohaaFoldPlain0
import Derived.Test.YtkdlfejokahohaaX7
namespace Go.Proofs.Ytkdlfejokahohaa.True_
open Go Go.RowKit Go.Proofs.Ytkdlfejokahohaa.X Go.Proofs.Ytkdlfejokahohaa.Fold Go.Proofs.YtkdlfejokahohaaW.PrintWords Go.Proofs.YtkdlfejokahohaaW.PrintLast Go.Proofs.YtkdlfejokahohaaW.PrintMore
set_option linter.unusedVariables false
set_option linter.unusedSimpArgs false
theorem fo_l1 (l : List S23) (hl : l.length ≤ 100) (ho : ∀ x ∈ l, Ok x) (l' : List S23) (s : St) (hs : Is l' s) (hp : l'.Perm l) (d : Nat) : ∀ (k : Nat) (op : Int), op = 7 - (d : Int) → d ≤ 8 → 1000 + d ≤ k →
  firkinlaw22_FoldOrders.l1 k l op s.all s.some s.sum s.low.f0 s.low.f1 s.low.f2 s.high.f0 s.high.f1 s.high.f2 = some true := by
 induction d with
 | zero =>
  intro k op hop _ hk
  obtain ⟨k, rfl⟩ : ∃ m, k = m + 1 := ⟨k - 1, by omega⟩
  rw [firkinlaw22_FoldOrders.l1, if_neg (by omega), live_k _ (by omega)]; rfl
 | succ d ih =>
  intro k op hop hd hk
  obtain ⟨k, rfl⟩ : ∃ m, k = m + 1 := ⟨k - 1, by omega⟩
  obtain ⟨t, t1, t2⟩ := of_is l (by omega) ho k (by omega)
  obtain rfl : s = t := hs.one t2 hp
  obtain ⟨r, h4⟩ := value_some s op
  rw [firkinlaw22_FoldOrders.l1, if_pos (by omega), h4, Option.bind_some, t1, Option.bind_some]
  simp only [St.tup]
  rw [h4, Option.bind_some, if_neg (by simp), w64 (by omega) (by omega)]
  exact ih k (op + 1) (by omega) (by omega) (by omega)
theorem take_drop_perm (l : List S23) (i : Nat) (h : i < l.length) : (l[i] :: (l.take i ++ l.drop (i + 1))).Perm l := by
 have h1 : l = l.take i ++ l[i] :: l.drop (i + 1) := by
  rw [← List.drop_eq_getElem_cons h, List.take_append_drop]
 have h2 := (List.perm_middle (a := l[i]) (l₁ := l.take i) (l₂ := l.drop (i + 1))).symm
 exact h2.trans (by rw [← h1])
theorem fo_l0 (l : List S23) (hl : l.length ≤ 100) (ho : ∀ x ∈ l, Ok x) (turns : List Int) (hq : turns.length ≤ 200) (ht : ∀ x ∈ turns, 0 ≤ x ∧ x < 256) (d : Nat) : ∀ (k i : Nat) (left done : List S23) (s : St), left.length = d → i ≤ 1000 - d → d ≤ 100 → 2000 + d ≤ k → Is done s → (done ++ left).Perm l →
  firkinlaw22_FoldOrders.l0 k l turns left (i : Int) s.all s.some s.sum s.low.f0 s.low.f1 s.low.f2 s.high.f0 s.high.f1 s.high.f2 = some true := by
 induction d with
 | zero =>
  intro k i left done s hd _ _ hk hs hp
  obtain ⟨k, rfl⟩ : ∃ m, k = m + 1 := ⟨k - 1, by omega⟩
  obtain rfl : left = [] := List.eq_nil_of_length_eq_zero hd
  rw [List.append_nil] at hp
  rw [firkinlaw22_FoldOrders.l0, if_neg (by simp)]
  exact fo_l1 l hl ho done s hs hp 8 k (-1) (by omega) (by omega) (by omega)
 | succ d ih =>
  intro k i left done s hd hi hd2 hk hs hp
  obtain ⟨k, rfl⟩ : ∃ m, k = m + 1 := ⟨k - 1, by omega⟩
  have hdl : done.length ≤ 100 := by
   have := hp.length_eq; rw [List.length_append] at this; omega
  have step : ∀ (j : Nat) (hj : j < left.length), Is (done ++ [left[j]]) (joinS s (oneS left[j])) ∧ ((done ++ [left[j]]) ++ (left.take j ++ left.drop (j + 1))).Perm l ∧ (left.take j ++ left.drop (j + 1)).length = d := by
   intro j hj
   have hm : left[j] ∈ l := hp.mem_iff.mp (List.mem_append_right _ (List.getElem_mem hj))
   refine ⟨joinS_is hs (oneS_is (ho _ hm)) (by show _ + 1 ≤ _; omega), ?_, ?_⟩
   ·rw [List.append_assoc]
    exact ((take_drop_perm left j hj).append_left done).trans hp
   ·rw [List.length_append, List.length_take, List.length_drop]; omega
  rw [firkinlaw22_FoldOrders.l0, if_pos (by omega)]
  by_cases hlt : (i : Int) < (turns.length : Int)
  ·have hb : 0 ≤ rd turns (i : Int) ∧ rd turns (i : Int) < 256 := by
    have hlt' : i < turns.length := by omega
    have e : rd turns (i : Int) = turns[i] := by
     show turns.getD (i : Int).toNat 0 = _
     rw [Int.toNat_natCast, List.getD_eq_getElem?_getD, List.getElem?_eq_getElem hlt']; rfl
    rw [e]; exact ht _ (List.getElem_mem hlt')
   rw [if_pos hlt, if_pos (by omega), if_neg (by omega), w64 (x := rd turns (i : Int)) (by omega) (by omega), Int.tmod_eq_emod_of_nonneg hb.1]
   obtain ⟨j, hj⟩ : ∃ j : Nat, rd turns (i : Int) % (left.length : Int) = (j : Int) := ⟨(rd turns (i : Int) % (left.length : Int)).toNat, by have := Int.emod_nonneg (rd turns (i : Int)) (show (left.length : Int) ≠ 0 by omega); omega⟩
   have hjl : j < left.length := by have := Int.emod_lt_of_pos (rd turns (i : Int)) (show (0 : Int) < (left.length : Int) by omega); omega
   rw [hj]
   obtain ⟨s1, s2, s3⟩ := step j hjl
   have s3' := s3
   rw [List.length_append] at s3'
   rw [if_pos (by omega), if_pos (by omega), rd_nat left j hjl, add_eq k (by omega), Option.bind_some, Option.bind_some, if_pos (by omega), Option.bind_some, Int.toNat_natCast, if_pos (by simp; omega), Option.bind_some, w64 (x := (j : Int) + 1) (by omega) (by omega), if_pos (by omega), if_pos (by omega), Option.bind_some, show ((j : Int) + 1).toNat = j + 1 by omega, List.nil_append, if_pos (by omega), w64 (x := (i : Int) + 1) (by omega) (by omega)]
   exact ih k (i + 1) _ _ _ s3 (by omega) (by omega) (by omega) s1 s2
  ·have hjl : 0 < left.length := by omega
   obtain ⟨s1, s2, s3⟩ := step 0 hjl
   rw [Nat.zero_add] at s2 s3
   have s3' := s3
   rw [List.length_append] at s3'
   rw [if_neg hlt, if_pos (by omega), show rd_T23 left 0 = left[0] from rd_nat left 0 hjl, add_eq k (by omega), Option.bind_some, Option.bind_some, if_pos (by omega), Option.bind_some, if_pos (by simp), Option.bind_some, if_pos (by omega), Option.bind_some, List.nil_append, if_pos (by omega), w64 (x := (i : Int) + 1) (by omega) (by omega)]
   exact ih k (i + 1) _ _ _ s3 (by omega) (by omega) (by omega) s1 s2
theorem FoldOrders : ∀ (x0 : List (S23)) (x1 : List Int), (x0.length ≤ maxLen ∧ ∀ z ∈ x0, (True ∧ (Lit.int .i64 z.f1).wf = true ∧ z.f2.size ≤ maxLen)) → (x1.length ≤ maxLen ∧ ∀ z ∈ x1, (Lit.int .u8 z).wf = true) → ∃ k, firkinlaw22_FoldOrders.f k x0 x1 = some true := by
 intro l turns hl ht
 refine ⟨3001, ?_⟩
 have ho : ∀ x ∈ l, Ok x := fun x hx => ok_of (hl.2 x hx).2.1
 unfold firkinlaw22_FoldOrders.f
 obtain ⟨b, h1, h2⟩ := small_get l 3001 (by omega)
 rw [h1, Option.bind_some]
 have hj : firkinlaw22_FoldOrders.j0 3001 l turns true = some true := by rw [firkinlaw22_FoldOrders.j0, if_pos rfl, live_k _ (by omega)]; rfl
 cases b with
 | false => rw [if_neg (by decide)]; exact hj
 | true =>
  rw [if_pos rfl]
  by_cases hq : (turns.length : Int) > 200
  ·rw [decide_eq_true hq]; exact hj
  ·have hs := h2 rfl
   rw [decide_eq_false hq, firkinlaw22_FoldOrders.j0, if_neg (by decide), Option.bind_some, if_pos (by simp; omega)]
   unfold fold_New.f
   rw [Option.bind_some, List.nil_append]
   exact fo_l0 l hs ho turns (by omega) (fun x hx => Wf.u8 (ht.2 x hx)) l.length 3000 0 l [] ⟨0, 0, 0, z, z⟩ rfl (by omega) (by omega) (by omega) new_is (by simp)
end Go.Proofs.Ytkdlfejokahohaa.True_
