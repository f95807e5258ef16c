/- What is known of cells, plain law: the state of cells, and how states are joined. -/
import Derived.Test.YtkdlfejokahohaaCellOrd
import Derived.Test.YtkdlfejokahohaaFoldValue
import Derived.Test.YtkdlfejokahohaaWf
import Derived.Test.YtkdlfejokahohaaX2
import Derived.Test.YtkdlfejokahohaaX4
import Derived.Test.YtkdlfejokahohaaX5
import Derived.Test.YtkdlfejokahohaaX5
import Derived.Test.YtkdlfejokahohaaX6
namespace Go.Proofs.Ytkdlfejokahohaa.Fold
open Go Go.RowKit Go.Proofs.Ytkdlfejokahohaa.X Go.Proofs.Ytkdlfejokahohaa.CellPlain Go.Proofs.YtkdlfejokahohaaW.PrintWords Go.Proofs.YtkdlfejokahohaaW.PrintLast Go.Proofs.YtkdlfejokahohaaW.PrintMore
set_option linter.unusedVariables false
set_option linter.unusedSimpArgs false
theorem w64 {x : Int} (h0 : -9223372036854775808 ≤ x) (h1 : x < 9223372036854775808) : wrap64 x = x := by unfold wrap64; omega
theorem wrap_add (a b : Int) : wrap64 (wrap64 a + wrap64 b) = wrap64 (a + b) := by unfold wrap64; omega
theorem wrap_add' (a b : Int) : wrap64 (wrap64 a + b) = wrap64 (a + b) := by unfold wrap64; omega
/-- How two cells stand to each other. -/
def o (x y : S23) : Int := ordC x.f0 x.f1 x.f2 y.f0 y.f1 y.f2
theorem o_swap (x y : S23) : o y x = -o x y := ordC_swap _ _ _ _ _ _
theorem o_trans {x y z : S23} (h1 : o x y ≤ 0) (h2 : o y z ≤ 0) : o x z ≤ 0 := ordC_trans h1 h2
theorem o_self (x : S23) : o x x = 0 := by have := o_swap x x; omega
theorem o_zero {x y : S23} (h : o x y = 0) : x = y := by
 obtain ⟨x0, x1, x2⟩ := x
 obtain ⟨y0, y1, y2⟩ := y
 unfold o ordC at h
 simp only at h
 by_cases h0 : x0 = y0
 ·subst h0
  simp only [ne_eq, not_true_eq_false, if_false] at h
  by_cases h1 : ordI x1 y1 = 0
  ·rw [if_neg (by simp [h1])] at h
   have e1 : x1 = y1 := by
    unfold ordI at h1
    split at h1
    ·omega
    ·split at h1 <;> omega
   rw [e1, toList_inj.mp (ordT_zero.mp h)]
  ·rw [if_pos h1] at h; exact absurd h h1
 ·rw [if_pos h0] at h
  split at h <;> omega
/-- The cells that are not null. -/
def nn (l : List S23) : List S23 := l.filter fun x => !x.f0
def IsLow (l : List S23) (x : S23) : Prop := x ∈ l ∧ ∀ y ∈ l, o x y ≤ 0
def IsHigh (l : List S23) (x : S23) : Prop := x ∈ l ∧ ∀ y ∈ l, 0 ≤ o x y
theorem IsLow.one {l : List S23} {x y : S23} (h : IsLow l x) (h' : IsLow l y) : x = y := by
 have h1 := h.2 y h'.1
 have h2 := h'.2 x h.1
 rw [o_swap x y] at h2
 exact o_zero (by omega)
theorem IsHigh.one {l : List S23} {x y : S23} (h : IsHigh l x) (h' : IsHigh l y) : x = y := by
 have h1 := h.2 y h'.1
 have h2 := h'.2 x h.1
 rw [o_swap x y] at h2
 exact o_zero (by omega)
theorem IsLow.app {a b : List S23} {x y : S23} (h : IsLow a x) (h' : IsLow b y) : IsLow (a ++ b) (if o y x < 0 then y else x) := by
 by_cases hc : o y x < 0
 ·rw [if_pos hc]
  refine ⟨List.mem_append_right _ h'.1, fun u hu => ?_⟩
  rcases List.mem_append.mp hu with hu | hu
  ·exact o_trans (by omega) (h.2 u hu)
  ·exact h'.2 u hu
 ·rw [if_neg hc]
  refine ⟨List.mem_append_left _ h.1, fun u hu => ?_⟩
  rcases List.mem_append.mp hu with hu | hu
  ·exact h.2 u hu
  ·exact o_trans (y := y) (by rw [o_swap y x]; omega) (h'.2 u hu)
theorem IsHigh.app {a b : List S23} {x y : S23} (h : IsHigh a x) (h' : IsHigh b y) : IsHigh (a ++ b) (if o y x > 0 then y else x) := by
 have ht : ∀ {p q r : S23}, 0 ≤ o p q → 0 ≤ o q r → 0 ≤ o p r := by
  intro p q r h1 h2
  have := o_trans (x := r) (y := q) (z := p) (by rw [o_swap q r]; omega) (by rw [o_swap p q]; omega)
  rw [o_swap p r] at this; omega
 by_cases hc : o y x > 0
 ·rw [if_pos hc]
  refine ⟨List.mem_append_right _ h'.1, fun u hu => ?_⟩
  rcases List.mem_append.mp hu with hu | hu
  ·exact ht (by omega) (h.2 u hu)
  ·exact h'.2 u hu
 ·rw [if_neg hc]
  refine ⟨List.mem_append_left _ h.1, fun u hu => ?_⟩
  rcases List.mem_append.mp hu with hu | hu
  ·exact h.2 u hu
  ·exact ht (q := y) (by rw [o_swap y x]; omega) (h'.2 u hu)
def sumL : List S23 → Int
 | [] => 0
 | x :: l => x.f1 + sumL l
theorem sumL_app (a b : List S23) : sumL (a ++ b) = sumL a + sumL b := by
 induction a with
 | nil => simp [sumL]
 | cons x a ih => rw [List.cons_append, sumL, sumL, ih]; omega
theorem sumL_perm {a b : List S23} (h : a.Perm b) : sumL a = sumL b := by
 induction h with
 | nil => rfl
 | cons x _ ih => rw [sumL, sumL, ih]
 | swap x y l => simp only [sumL]; omega
 | trans _ _ h1 h2 => exact h1.trans h2
def z : S23 := ⟨false, 0, ⟨#[]⟩⟩
/-- A state: how many cells, how many not null, their sum, the ends. -/
structure St where
 all : Int
 some : Int
 sum : Int
 low : S23
 high : S23
def St.tup (s : St) : Int × Int × Int × Bool × Int × ByteArray × Bool × Int × ByteArray := (s.all, s.some, s.sum, s.low.f0, s.low.f1, s.low.f2, s.high.f0, s.high.f1, s.high.f2)
structure Is (l : List S23) (s : St) : Prop where
 all : s.all = l.length
 some : s.some = (nn l).length
 sum : s.sum = wrap64 (sumL (nn l))
 ends : (nn l = [] ∧ s.low = z ∧ s.high = z) ∨ (IsLow (nn l) s.low ∧ IsHigh (nn l) s.high)
theorem Is.one {l l' : List S23} {s s' : St} (h : Is l s) (h' : Is l' s') (p : l.Perm l') : s = s' := by
 have q : (nn l).Perm (nn l') := p.filter _
 have e1 : s.all = s'.all := by rw [h.all, h'.all, p.length_eq]
 have e2 : s.some = s'.some := by rw [h.some, h'.some, q.length_eq]
 have e3 : s.sum = s'.sum := by rw [h.sum, h'.sum, sumL_perm q]
 have e45 : s.low = s'.low ∧ s.high = s'.high := by
  rcases h.ends with ⟨hn, hl, hh⟩ | ⟨hl, hh⟩ <;> rcases h'.ends with ⟨hn', hl', hh'⟩ | ⟨hl', hh'⟩
  ·exact ⟨hl.trans hl'.symm, hh.trans hh'.symm⟩
  ·rw [hn] at q; have := q.nil_eq; rw [← this] at hl'; exact absurd hl'.1 (by simp)
  ·rw [hn'] at q; have := q.symm.nil_eq; rw [← this] at hl; exact absurd hl.1 (by simp)
  ·exact ⟨IsLow.one hl ⟨q.mem_iff.mpr hl'.1, fun y hy => hl'.2 y (q.mem_iff.mp hy)⟩, IsHigh.one hh ⟨q.mem_iff.mpr hh'.1, fun y hy => hh'.2 y (q.mem_iff.mp hy)⟩⟩
 cases s; cases s'
 simp only at e1 e2 e3 e45
 rw [e1, e2, e3, e45.1, e45.2]
def joinS (s t : St) : St where
 all := wrap64 (s.all + t.all)
 some := wrap64 (s.some + t.some)
 sum := wrap64 (s.sum + t.sum)
 low := if s.some = 0 then t.low else if t.some = 0 then s.low else if o t.low s.low < 0 then t.low else s.low
 high := if s.some = 0 then t.high else if t.some = 0 then s.high else if o t.high s.high > 0 then t.high else s.high
theorem nn_app (a b : List S23) : nn (a ++ b) = nn a ++ nn b := List.filter_append ..
theorem nn_le (l : List S23) : (nn l).length ≤ l.length := List.length_filter_le ..
theorem joinS_is {a b : List S23} {s t : St} (h : Is a s) (h' : Is b t) (hs : a.length + b.length ≤ 1000000) : Is (a ++ b) (joinS s t) where
 all := by show wrap64 _ = _; rw [h.all, h'.all, w64 (by omega) (by omega), List.length_append]; omega
 some := by
  have := nn_le a
  have := nn_le b
  show wrap64 _ = _
  rw [h.some, h'.some, w64 (by omega) (by omega), nn_app, List.length_append]; omega
 sum := by show wrap64 _ = _; rw [h.sum, h'.sum, wrap_add, nn_app, sumL_app]
 ends := by
  rw [nn_app]
  show (_ ∧ (if s.some = 0 then t.low else if t.some = 0 then s.low else if o t.low s.low < 0 then t.low else s.low) = z ∧ (if s.some = 0 then t.high else if t.some = 0 then s.high else if o t.high s.high > 0 then t.high else s.high) = z) ∨ (IsLow _ (if s.some = 0 then t.low else if t.some = 0 then s.low else if o t.low s.low < 0 then t.low else s.low) ∧ IsHigh _ (if s.some = 0 then t.high else if t.some = 0 then s.high else if o t.high s.high > 0 then t.high else s.high))
  rcases h.ends with ⟨hn, hl, hh⟩ | ⟨hl, hh⟩
  ·have e : s.some = 0 := by rw [h.some, hn]; rfl
   rw [if_pos e, if_pos e, hn, List.nil_append]
   exact h'.ends
  ·have e : s.some ≠ 0 := by
    rw [h.some]
    intro hc
    have : nn a = [] := List.eq_nil_of_length_eq_zero (by omega)
    rw [this] at hl; exact absurd hl.1 (by simp)
   rw [if_neg e, if_neg e]
   rcases h'.ends with ⟨hn', hl', hh'⟩ | ⟨hl', hh'⟩
   ·have e' : t.some = 0 := by rw [h'.some, hn']; rfl
    rw [if_pos e', if_pos e', hn', List.append_nil]
    exact Or.inr ⟨hl, hh⟩
   ·have e' : t.some ≠ 0 := by
     rw [h'.some]
     intro hc
     have : nn b = [] := List.eq_nil_of_length_eq_zero (by omega)
     rw [this] at hl'; exact absurd hl'.1 (by simp)
    rw [if_neg e', if_neg e']
    exact Or.inr ⟨hl.app hl', hh.app hh'⟩
theorem lesser_is (k : Nat) (hk : 4 < k) (x y : S23) : fold_lesser.f k x.f0 x.f1 x.f2 y.f0 y.f1 y.f2 = some ((if o y x < 0 then y else x).f0, (if o y x < 0 then y else x).f1, (if o y x < 0 then y else x).f2) := by
 unfold fold_lesser.f
 rw [order_is _ _ _ _ _ _ k hk, Option.bind_some]
 show (if o y x < 0 then _ else _) = _
 split <;> rfl
theorem greater_is (k : Nat) (hk : 4 < k) (x y : S23) : fold_greater.f k x.f0 x.f1 x.f2 y.f0 y.f1 y.f2 = some ((if o y x > 0 then y else x).f0, (if o y x > 0 then y else x).f1, (if o y x > 0 then y else x).f2) := by
 unfold fold_greater.f
 rw [order_is _ _ _ _ _ _ k hk, Option.bind_some]
 show (if o y x > 0 then _ else _) = _
 split <;> rfl
theorem join_eq (k : Nat) (hk : 4 < k) (s t : St) : fold_Join.f k s.all s.some s.sum s.low.f0 s.low.f1 s.low.f2 s.high.f0 s.high.f1 s.high.f2 t.all t.some t.sum t.low.f0 t.low.f1 t.low.f2 t.high.f0 t.high.f1 t.high.f2 = some (joinS s t).tup := by
 unfold fold_Join.f fold_ends.f St.tup joinS
 by_cases e : s.some = 0
 ·simp only [if_pos e, Option.bind_some]
 ·by_cases e' : t.some = 0
  ·simp only [if_neg e, if_pos e', Option.bind_some]
  ·simp only [if_neg e, if_neg e']
   rw [lesser_is k hk, Option.bind_some, greater_is k hk, Option.bind_some, Option.bind_some]
def Ok (x : S23) : Prop := -9223372036854775808 ≤ x.f1 ∧ x.f1 < 9223372036854775808
def oneS (c : S23) : St := if c.f0 = true then ⟨1, 0, 0, z, z⟩ else ⟨1, 1, c.f1, c, c⟩
theorem oneS_is {c : S23} (h : Ok c) : Is [c] (oneS c) := by
 unfold oneS
 cases hc : c.f0 with
 | true =>
  have hn : nn [c] = [] := by simp [nn, hc]
  rw [if_pos rfl]
  exact ⟨rfl, by rw [hn]; rfl, by rw [hn]; decide +kernel, Or.inl ⟨hn, rfl, rfl⟩⟩
 | false =>
  have hn : nn [c] = [c] := by simp [nn, hc]
  rw [if_neg (by decide)]
  refine ⟨rfl, by rw [hn]; rfl, ?_, Or.inr ⟨?_, ?_⟩⟩
  ·rw [hn, sumL, sumL, w64 (by have := h.1; omega) (by have := h.2; omega)]; show c.f1 = _; omega
  ·rw [hn]; exact ⟨by simp, fun y hy => by rw [List.mem_singleton.mp hy]; exact Int.le_of_eq (o_self c)⟩
  ·rw [hn]; exact ⟨by simp, fun y hy => by rw [List.mem_singleton.mp hy]; exact Int.le_of_eq (o_self c).symm⟩
theorem add_eq (k : Nat) (hk : 4 < k) (s : St) (c : S23) : fold_State_Add.f k s.all s.some s.sum s.low.f0 s.low.f1 s.low.f2 s.high.f0 s.high.f1 s.high.f2 c.f0 c.f1 c.f2 = some (joinS s (oneS c)).tup := by
 unfold fold_State_Add.f
 have hj := join_eq k hk s (oneS c)
 unfold oneS at hj ⊢
 cases hc : c.f0 with
 | true =>
  rw [hc, if_pos rfl] at hj
  rw [if_pos rfl, if_pos rfl]
  show (fold_Join.f k s.all s.some s.sum s.low.f0 s.low.f1 s.low.f2 s.high.f0 s.high.f1 s.high.f2 1 0 0 z.f0 z.f1 z.f2 z.f0 z.f1 z.f2).bind _ = _
  rw [hj]; rfl
 | false =>
  rw [hc, if_neg (by decide)] at hj
  rw [if_neg (by decide), if_neg (by decide)]
  rw [show (false : Bool) = c.f0 from hc.symm, hj]; rfl
theorem new_is : Is [] (⟨0, 0, 0, z, z⟩ : St) := ⟨rfl, rfl, by decide +kernel, Or.inl ⟨rfl, rfl, rfl⟩⟩
theorem rd_nat (l : List S23) (i : Nat) (h : i < l.length) : rd_T23 l (i : Int) = l[i] := by
 rw [rd_T23, Int.toNat_natCast, List.getD_eq_getElem?_getD, List.getElem?_eq_getElem h]; rfl
theorem of_loop (l : List S23) (hl : l.length ≤ 1000000) (ho : ∀ x ∈ l, Ok x) (d : Nat) : ∀ (k i : Nat) (s : St), i + d = l.length → d + 6 ≤ k → Is (l.take i) s → ∃ s' : St, firkinlaw22_of.l0 k l (i : Int) s.all s.some s.sum s.low.f0 s.low.f1 s.low.f2 s.high.f0 s.high.f1 s.high.f2 = some s'.tup ∧ Is l s' := by
 induction d with
 | zero =>
  intro k i s hi hk h
  obtain ⟨k, rfl⟩ : ∃ m, k = m + 1 := ⟨k - 1, by omega⟩
  refine ⟨s, ?_, ?_⟩
  ·rw [firkinlaw22_of.l0, if_neg (by omega)]; rfl
  ·rwa [List.take_of_length_le (by omega)] at h
 | succ d ih =>
  intro k i s hi hk h
  obtain ⟨k, rfl⟩ : ∃ m, k = m + 1 := ⟨k - 1, by omega⟩
  have hlt : i < l.length := by omega
  have hn : Is (l.take (i + 1)) (joinS s (oneS l[i])) := by
   rw [List.take_succ_eq_append_getElem hlt]
   exact joinS_is h (oneS_is (ho _ (List.getElem_mem hlt))) (by rw [List.length_take]; show _ + 1 ≤ _; omega)
  obtain ⟨s', h1, h2⟩ := ih k (i + 1) _ (by omega) (by omega) hn
  refine ⟨s', ?_, h2⟩
  rw [firkinlaw22_of.l0, if_pos (by omega), if_pos (by omega), rd_nat l i hlt, add_eq k (by omega), Option.bind_some, w64 (by omega) (by omega)]
  exact h1
theorem of_is (l : List S23) (hl : l.length ≤ 1000000) (ho : ∀ x ∈ l, Ok x) (k : Nat) (hk : l.length + 6 ≤ k) : ∃ s : St, firkinlaw22_of.f k l = some s.tup ∧ Is l s := by
 unfold firkinlaw22_of.f fold_New.f
 exact of_loop l hl ho l.length k 0 ⟨0, 0, 0, z, z⟩ (by omega) hk new_is
theorem small_loop (l : List S23) (d : Nat) : ∀ (k i : Nat), i + d = 201 → 2 * d + 2 ≤ k → ∃ b, firkinlaw10_Small.l0 k l (i : Int) = some b ∧ (b = true → l.length ≤ 100) := by
 induction d with
 | zero =>
  intro k i hi hk
  obtain ⟨k, rfl⟩ : ∃ m, k = m + 2 := ⟨k - 2, by omega⟩
  rw [firkinlaw10_Small.l0]
  have h30 : decide ((i : Int) < 200) = false := decide_eq_false (by omega)
  rw [h30]
  simp only [ite_self]
  rw [firkinlaw10_Small.j1, if_neg (by decide)]
  exact ⟨_, rfl, fun h => by have := of_decide_eq_true h; omega⟩
 | succ d ih =>
  intro k i hi hk
  obtain ⟨k, rfl⟩ : ∃ m, k = m + 2 := ⟨k - 2, by omega⟩
  rw [firkinlaw10_Small.l0]
  by_cases hl : (i : Int) < (l.length : Int)
  ·rw [if_pos hl]
   by_cases h30 : (i : Int) < 200
   ·rw [decide_eq_true h30, firkinlaw10_Small.j1, if_pos rfl, if_pos (by omega), if_pos hl]
    by_cases h100 : (((rd_T23 l (i : Int)).f2).size : Int) > 60
    ·rw [if_pos h100]; exact ⟨_, rfl, fun h => by cases h⟩
    ·rw [if_neg h100, w64 (by omega) (by omega)]
     exact ih k (i + 1) (by omega) (by omega)
   ·rw [decide_eq_false h30, firkinlaw10_Small.j1, if_neg (by decide)]
    exact ⟨_, rfl, fun h => by have := of_decide_eq_true h; omega⟩
  ·rw [if_neg hl, firkinlaw10_Small.j1, if_neg (by decide)]
   exact ⟨_, rfl, fun h => by have := of_decide_eq_true h; omega⟩
theorem small_get (l : List S23) (k : Nat) (hk : 500 ≤ k) : ∃ b, firkinlaw10_Small.f k l = some b ∧ (b = true → l.length ≤ 100) := by
 unfold firkinlaw10_Small.f
 exact small_loop l 201 k 0 (by omega) (by omega)
set_option maxRecDepth 100000 in
theorem live_20 : firkinlaw22_live.f 20 = some true := by decide +kernel
theorem live_is (d : Nat) : firkinlaw22_live.f (20 + d) = some true := by
 induction d with
 | zero => exact live_20
 | succ d ih => exact firkinlaw22_live.mono _ _ ih
theorem live_k (k : Nat) (hk : 20 ≤ k) : firkinlaw22_live.f k = some true := by
 obtain ⟨d, rfl⟩ : ∃ d, k = 20 + d := ⟨k - 20, by omega⟩
 exact live_is d
theorem ok_of {x : S23} (h : (Lit.int .i64 x.f1).wf = true) : Ok x := by
 have := Wf.i64 h
 exact this
theorem value_some (s : St) (op : Int) : ∃ r, fold_State_Value.f s.all s.some s.sum s.low.f0 s.low.f1 s.low.f2 s.high.f0 s.high.f1 s.high.f2 op = some r := by
 unfold fold_State_Value.f
 repeat' split
 all_goals exact ⟨_, rfl⟩
end Go.Proofs.Ytkdlfejokahohaa.Fold
