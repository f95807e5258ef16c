/- What is known of cells, plain law: the state of cells, how states are joined, and the document's aggregates. -/
import Derived.Test.YtkdlfejokahohaaCellOrd
import Derived.Test.YtkdlfejokahohaaFoldValue
import Derived.Test.YtkdlfejokahohaaWf
import Derived.Test.YtkdlfejokahohaaX6
import Derived.Test.YtkdlfejokahohaaX2
import Derived.Test.YtkdlfejokahohaaX4
import Derived.Test.YtkdlfejokahohaaX5
import Derived.Test.YtkdlfejokahohaaX5
import Derived.Test.YtkdlfejokahohaaX6
import Derived.Test.YtkdlfejokahohaaX7
namespace Go.Proofs.Ytkdlfejokahohaa.Fold
open Go Go.RowKit Go.Proofs.Ytkdlfejokahohaa.X Go.Proofs.Ytkdlfejokahohaa.CellPlain Go.Proofs.YtkdlfejokahohaaW.PrintWords Go.Proofs.YtkdlfejokahohaaW.PrintLast Go.Proofs.YtkdlfejokahohaaW.PrintMore
set_option linter.unusedVariables false
set_option linter.unusedSimpArgs false
theorem w64 {x : Int} (h0 : -9223372036854775808 ≤ x) (h1 : x < 9223372036854775808) : wrap64 x = x := by unfold wrap64; omega
theorem wrap_add (a b : Int) : wrap64 (wrap64 a + wrap64 b) = wrap64 (a + b) := by unfold wrap64; omega
theorem wrap_add' (a b : Int) : wrap64 (wrap64 a + b) = wrap64 (a + b) := by unfold wrap64; omega
/-- How two cells stand to each other. -/
def o (x y : S23) : Int := ordC x.f0 x.f1 x.f2 y.f0 y.f1 y.f2
theorem o_swap (x y : S23) : o y x = -o x y := ordC_swap _ _ _ _ _ _
theorem o_trans {x y z : S23} (h1 : o x y ≤ 0) (h2 : o y z ≤ 0) : o x z ≤ 0 := ordC_trans h1 h2
theorem o_self (x : S23) : o x x = 0 := by have := o_swap x x; omega
theorem o_zero {x y : S23} (h : o x y = 0) : x = y := by
 obtain ⟨x0, x1, x2⟩ := x
 obtain ⟨y0, y1, y2⟩ := y
 unfold o ordC at h
 simp only at h
 by_cases h0 : x0 = y0
 ·subst h0
  simp only [ne_eq, not_true_eq_false, if_false] at h
  by_cases h1 : ordI x1 y1 = 0
  ·rw [if_neg (by simp [h1])] at h
   have e1 : x1 = y1 := by
    unfold ordI at h1
    split at h1
    ·omega
    ·split at h1 <;> omega
   rw [e1, toList_inj.mp (ordT_zero.mp h)]
  ·rw [if_pos h1] at h; exact absurd h h1
 ·rw [if_pos h0] at h
  split at h <;> omega
/-- The cells that are not null. -/
def nn (l : List S23) : List S23 := l.filter fun x => !x.f0
def IsLow (l : List S23) (x : S23) : Prop := x ∈ l ∧ ∀ y ∈ l, o x y ≤ 0
def IsHigh (l : List S23) (x : S23) : Prop := x ∈ l ∧ ∀ y ∈ l, 0 ≤ o x y
theorem IsLow.one {l : List S23} {x y : S23} (h : IsLow l x) (h' : IsLow l y) : x = y := by
 have h1 := h.2 y h'.1
 have h2 := h'.2 x h.1
 rw [o_swap x y] at h2
 exact o_zero (by omega)
theorem IsHigh.one {l : List S23} {x y : S23} (h : IsHigh l x) (h' : IsHigh l y) : x = y := by
 have h1 := h.2 y h'.1
 have h2 := h'.2 x h.1
 rw [o_swap x y] at h2
 exact o_zero (by omega)
theorem IsLow.app {a b : List S23} {x y : S23} (h : IsLow a x) (h' : IsLow b y) : IsLow (a ++ b) (if o y x < 0 then y else x) := by
 by_cases hc : o y x < 0
 ·rw [if_pos hc]
  refine ⟨List.mem_append_right _ h'.1, fun u hu => ?_⟩
  rcases List.mem_append.mp hu with hu | hu
  ·exact o_trans (by omega) (h.2 u hu)
  ·exact h'.2 u hu
 ·rw [if_neg hc]
  refine ⟨List.mem_append_left _ h.1, fun u hu => ?_⟩
  rcases List.mem_append.mp hu with hu | hu
  ·exact h.2 u hu
  ·exact o_trans (y := y) (by rw [o_swap y x]; omega) (h'.2 u hu)
theorem IsHigh.app {a b : List S23} {x y : S23} (h : IsHigh a x) (h' : IsHigh b y) : IsHigh (a ++ b) (if o y x > 0 then y else x) := by
 have ht : ∀ {p q r : S23}, 0 ≤ o p q → 0 ≤ o q r → 0 ≤ o p r := by
  intro p q r h1 h2
  have := o_trans (x := r) (y := q) (z := p) (by rw [o_swap q r]; omega) (by rw [o_swap p q]; omega)
  rw [o_swap p r] at this; omega
 by_cases hc : o y x > 0
 ·rw [if_pos hc]
  refine ⟨List.mem_append_right _ h'.1, fun u hu => ?_⟩
  rcases List.mem_append.mp hu with hu | hu
  ·exact ht (by omega) (h.2 u hu)
  ·exact h'.2 u hu
 ·rw [if_neg hc]
  refine ⟨List.mem_append_left _ h.1, fun u hu => ?_⟩
  rcases List.mem_append.mp hu with hu | hu
  ·exact h.2 u hu
  ·exact ht (q := y) (by rw [o_swap y x]; omega) (h'.2 u hu)
def sumL : List S23 → Int
 | [] => 0
 | x :: l => x.f1 + sumL l
theorem sumL_app (a b : List S23) : sumL (a ++ b) = sumL a + sumL b := by
 induction a with
 | nil => simp [sumL]
 | cons x a ih => rw [List.cons_append, sumL, sumL, ih]; omega
theorem sumL_perm {a b : List S23} (h : a.Perm b) : sumL a = sumL b := by
 induction h with
 | nil => rfl
 | cons x _ ih => rw [sumL, sumL, ih]
 | swap x y l => simp only [sumL]; omega
 | trans _ _ h1 h2 => exact h1.trans h2
def z : S23 := ⟨false, 0, ⟨#[]⟩⟩
/-- A state: how many cells, how many not null, their sum, the ends. -/
structure St where
 all : Int
 some : Int
 sum : Int
 low : S23
 high : S23
def St.tup (s : St) : Int × Int × Int × Bool × Int × ByteArray × Bool × Int × ByteArray := (s.all, s.some, s.sum, s.low.f0, s.low.f1, s.low.f2, s.high.f0, s.high.f1, s.high.f2)
structure Is (l : List S23) (s : St) : Prop where
 all : s.all = l.length
 some : s.some = (nn l).length
 sum : s.sum = wrap64 (sumL (nn l))
 ends : (nn l = [] ∧ s.low = z ∧ s.high = z) ∨ (IsLow (nn l) s.low ∧ IsHigh (nn l) s.high)
theorem Is.one {l l' : List S23} {s s' : St} (h : Is l s) (h' : Is l' s') (p : l.Perm l') : s = s' := by
 have q : (nn l).Perm (nn l') := p.filter _
 have e1 : s.all = s'.all := by rw [h.all, h'.all, p.length_eq]
 have e2 : s.some = s'.some := by rw [h.some, h'.some, q.length_eq]
 have e3 : s.sum = s'.sum := by rw [h.sum, h'.sum, sumL_perm q]
 have e45 : s.low = s'.low ∧ s.high = s'.high := by
  rcases h.ends with ⟨hn, hl, hh⟩ | ⟨hl, hh⟩ <;> rcases h'.ends with ⟨hn', hl', hh'⟩ | ⟨hl', hh'⟩
  ·exact ⟨hl.trans hl'.symm, hh.trans hh'.symm⟩
  ·rw [hn] at q; have := q.nil_eq; rw [← this] at hl'; exact absurd hl'.1 (by simp)
  ·rw [hn'] at q; have := q.symm.nil_eq; rw [← this] at hl; exact absurd hl.1 (by simp)
  ·exact ⟨IsLow.one hl ⟨q.mem_iff.mpr hl'.1, fun y hy => hl'.2 y (q.mem_iff.mp hy)⟩, IsHigh.one hh ⟨q.mem_iff.mpr hh'.1, fun y hy => hh'.2 y (q.mem_iff.mp hy)⟩⟩
 cases s; cases s'
 simp only at e1 e2 e3 e45
 rw [e1, e2, e3, e45.1, e45.2]
def joinS (s t : St) : St where
 all := wrap64 (s.all + t.all)
 some := wrap64 (s.some + t.some)
 sum := wrap64 (s.sum + t.sum)
 low := if s.some = 0 then t.low else if t.some = 0 then s.low else if o t.low s.low < 0 then t.low else s.low
 high := if s.some = 0 then t.high else if t.some = 0 then s.high else if o t.high s.high > 0 then t.high else s.high
theorem nn_app (a b : List S23) : nn (a ++ b) = nn a ++ nn b := List.filter_append ..
theorem nn_le (l : List S23) : (nn l).length ≤ l.length := List.length_filter_le ..
theorem joinS_is {a b : List S23} {s t : St} (h : Is a s) (h' : Is b t) (hs : a.length + b.length ≤ 1000000) : Is (a ++ b) (joinS s t) where
 all := by show wrap64 _ = _; rw [h.all, h'.all, w64 (by omega) (by omega), List.length_append]; omega
 some := by
  have := nn_le a
  have := nn_le b
  show wrap64 _ = _
  rw [h.some, h'.some, w64 (by omega) (by omega), nn_app, List.length_append]; omega
 sum := by show wrap64 _ = _; rw [h.sum, h'.sum, wrap_add, nn_app, sumL_app]
 ends := by
  rw [nn_app]
  show (_ ∧ (if s.some = 0 then t.low else if t.some = 0 then s.low else if o t.low s.low < 0 then t.low else s.low) = z ∧ (if s.some = 0 then t.high else if t.some = 0 then s.high else if o t.high s.high > 0 then t.high else s.high) = z) ∨ (IsLow _ (if s.some = 0 then t.low else if t.some = 0 then s.low else if o t.low s.low < 0 then t.low else s.low) ∧ IsHigh _ (if s.some = 0 then t.high else if t.some = 0 then s.high else if o t.high s.high > 0 then t.high else s.high))
  rcases h.ends with ⟨hn, hl, hh⟩ | ⟨hl, hh⟩
  ·have e : s.some = 0 := by rw [h.some, hn]; rfl
   rw [if_pos e, if_pos e, hn, List.nil_append]
   exact h'.ends
  ·have e : s.some ≠ 0 := by
    rw [h.some]
    intro hc
    have : nn a = [] := List.eq_nil_of_length_eq_zero (by omega)
    rw [this] at hl; exact absurd hl.1 (by simp)
   rw [if_neg e, if_neg e]
   rcases h'.ends with ⟨hn', hl', hh'⟩ | ⟨hl', hh'⟩
   ·have e' : t.some = 0 := by rw [h'.some, hn']; rfl
    rw [if_pos e', if_pos e', hn', List.append_nil]
    exact Or.inr ⟨hl, hh⟩
   ·have e' : t.some ≠ 0 := by
     rw [h'.some]
     intro hc
     have : nn b = [] := List.eq_nil_of_length_eq_zero (by omega)
     rw [this] at hl'; exact absurd hl'.1 (by simp)
    rw [if_neg e', if_neg e']
    exact Or.inr ⟨hl.app hl', hh.app hh'⟩
theorem lesser_is (k : Nat) (hk : 4 < k) (x y : S23) : fold_lesser.f k x.f0 x.f1 x.f2 y.f0 y.f1 y.f2 = some ((if o y x < 0 then y else x).f0, (if o y x < 0 then y else x).f1, (if o y x < 0 then y else x).f2) := by
 unfold fold_lesser.f
 rw [order_is _ _ _ _ _ _ k hk, Option.bind_some]
 show (if o y x < 0 then _ else _) = _
 split <;> rfl
theorem greater_is (k : Nat) (hk : 4 < k) (x y : S23) : fold_greater.f k x.f0 x.f1 x.f2 y.f0 y.f1 y.f2 = some ((if o y x > 0 then y else x).f0, (if o y x > 0 then y else x).f1, (if o y x > 0 then y else x).f2) := by
 unfold fold_greater.f
 rw [order_is _ _ _ _ _ _ k hk, Option.bind_some]
 show (if o y x > 0 then _ else _) = _
 split <;> rfl
theorem join_eq (k : Nat) (hk : 4 < k) (s t : St) : fold_Join.f k s.all s.some s.sum s.low.f0 s.low.f1 s.low.f2 s.high.f0 s.high.f1 s.high.f2 t.all t.some t.sum t.low.f0 t.low.f1 t.low.f2 t.high.f0 t.high.f1 t.high.f2 = some (joinS s t).tup := by
 unfold fold_Join.f fold_ends.f St.tup joinS
 by_cases e : s.some = 0
 ·simp only [if_pos e, Option.bind_some]
 ·by_cases e' : t.some = 0
  ·simp only [if_neg e, if_pos e', Option.bind_some]
  ·simp only [if_neg e, if_neg e']
   rw [lesser_is k hk, Option.bind_some, greater_is k hk, Option.bind_some, Option.bind_some]
def Ok (x : S23) : Prop := -9223372036854775808 ≤ x.f1 ∧ x.f1 < 9223372036854775808
def oneS (c : S23) : St := if c.f0 = true then ⟨1, 0, 0, z, z⟩ else ⟨1, 1, c.f1, c, c⟩
theorem oneS_is {c : S23} (h : Ok c) : Is [c] (oneS c) := by
 unfold oneS
 cases hc : c.f0 with
 | true =>
  have hn : nn [c] = [] := by simp [nn, hc]
  rw [if_pos rfl]
  exact ⟨rfl, by rw [hn]; rfl, by rw [hn]; decide +kernel, Or.inl ⟨hn, rfl, rfl⟩⟩
 | false =>
  have hn : nn [c] = [c] := by simp [nn, hc]
  rw [if_neg (by decide)]
  refine ⟨rfl, by rw [hn]; rfl, ?_, Or.inr ⟨?_, ?_⟩⟩
  ·rw [hn, sumL, sumL, w64 (by have := h.1; omega) (by have := h.2; omega)]; show c.f1 = _; omega
  ·rw [hn]; exact ⟨by simp, fun y hy => by rw [List.mem_singleton.mp hy]; exact Int.le_of_eq (o_self c)⟩
  ·rw [hn]; exact ⟨by simp, fun y hy => by rw [List.mem_singleton.mp hy]; exact Int.le_of_eq (o_self c).symm⟩
theorem add_eq (k : Nat) (hk : 4 < k) (s : St) (c : S23) : fold_State_Add.f k s.all s.some s.sum s.low.f0 s.low.f1 s.low.f2 s.high.f0 s.high.f1 s.high.f2 c.f0 c.f1 c.f2 = some (joinS s (oneS c)).tup := by
 unfold fold_State_Add.f
 have hj := join_eq k hk s (oneS c)
 unfold oneS at hj ⊢
 cases hc : c.f0 with
 | true =>
  rw [hc, if_pos rfl] at hj
  rw [if_pos rfl, if_pos rfl]
  show (fold_Join.f k s.all s.some s.sum s.low.f0 s.low.f1 s.low.f2 s.high.f0 s.high.f1 s.high.f2 1 0 0 z.f0 z.f1 z.f2 z.f0 z.f1 z.f2).bind _ = _
  rw [hj]; rfl
 | false =>
  rw [hc, if_neg (by decide)] at hj
  rw [if_neg (by decide), if_neg (by decide)]
  rw [show (false : Bool) = c.f0 from hc.symm, hj]; rfl
theorem new_is : Is [] (⟨0, 0, 0, z, z⟩ : St) := ⟨rfl, rfl, by decide +kernel, Or.inl ⟨rfl, rfl, rfl⟩⟩
theorem rd_nat (l : List S23) (i : Nat) (h : i < l.length) : rd_T23 l (i : Int) = l[i] := by
 rw [rd_T23, Int.toNat_natCast, List.getD_eq_getElem?_getD, List.getElem?_eq_getElem h]; rfl
theorem of_loop (l : List S23) (hl : l.length ≤ 1000000) (ho : ∀ x ∈ l, Ok x) (d : Nat) : ∀ (k i : Nat) (s : St), i + d = l.length → d + 6 ≤ k → Is (l.take i) s → ∃ s' : St, firkinlaw22_of.l0 k l (i : Int) s.all s.some s.sum s.low.f0 s.low.f1 s.low.f2 s.high.f0 s.high.f1 s.high.f2 = some s'.tup ∧ Is l s' := by
 induction d with
 | zero =>
  intro k i s hi hk h
  obtain ⟨k, rfl⟩ : ∃ m, k = m + 1 := ⟨k - 1, by omega⟩
  refine ⟨s, ?_, ?_⟩
  ·rw [firkinlaw22_of.l0, if_neg (by omega)]; rfl
  ·rwa [List.take_of_length_le (by omega)] at h
 | succ d ih =>
  intro k i s hi hk h
  obtain ⟨k, rfl⟩ : ∃ m, k = m + 1 := ⟨k - 1, by omega⟩
  have hlt : i < l.length := by omega
  have hn : Is (l.take (i + 1)) (joinS s (oneS l[i])) := by
   rw [List.take_succ_eq_append_getElem hlt]
   exact joinS_is h (oneS_is (ho _ (List.getElem_mem hlt))) (by rw [List.length_take]; show _ + 1 ≤ _; omega)
  obtain ⟨s', h1, h2⟩ := ih k (i + 1) _ (by omega) (by omega) hn
  refine ⟨s', ?_, h2⟩
  rw [firkinlaw22_of.l0, if_pos (by omega), if_pos (by omega), rd_nat l i hlt, add_eq k (by omega), Option.bind_some, w64 (by omega) (by omega)]
  exact h1
theorem of_is (l : List S23) (hl : l.length ≤ 1000000) (ho : ∀ x ∈ l, Ok x) (k : Nat) (hk : l.length + 6 ≤ k) : ∃ s : St, firkinlaw22_of.f k l = some s.tup ∧ Is l s := by
 unfold firkinlaw22_of.f fold_New.f
 exact of_loop l hl ho l.length k 0 ⟨0, 0, 0, z, z⟩ (by omega) hk new_is
/-- The document's fold. -/
def nx (op : Int) (b x : S23) : S23 := if op = 4 then (if o x b < 0 then x else b) else if op = 5 then (if o x b > 0 then x else b) else b
theorem ref_step (k : Nat) (op : Int) (xs : List S23) (sm : Int) (i : Nat) (b : S23) (hi : i < xs.length) (hl : xs.length ≤ 1000000) :
  firkinref22_Value.l1 (k + 2) op xs sm (i : Int) b.f0 b.f1 b.f2 = firkinref22_Value.l1 (k + 1) op xs (wrap64 (sm + xs[i].f1)) ((i + 1 : Nat) : Int) (nx op b xs[i]).f0 (nx op b xs[i]).f1 (nx op b xs[i]).f2 := by
 rw [firkinref22_Value.l1, if_pos (by omega), if_pos (by omega), rd_nat xs i hi, w64 (x := (i : Int) + 1) (by omega) (by omega), rorder_is, show ((i : Int) + 1) = ((i + 1 : Nat) : Int) from rfl]
 generalize xs[i] = x
 show (if op = 4 then ((some (o x b)).bind _) else _) = _
 unfold nx
 by_cases h4 : op = 4
 ·subst h4
  rw [if_pos rfl, if_pos rfl, Option.bind_some]
  by_cases hc : o x b < 0
  ·rw [if_pos hc, if_pos hc]
  ·rw [if_neg hc, if_neg hc, if_neg (by decide)]
 ·rw [if_neg h4, if_neg h4]
  by_cases h5 : op = 5
  ·rw [if_pos h5, if_pos h5, Option.bind_some]
   show (if o x b > 0 then _ else _) = _
   by_cases hc : o x b > 0
   ·rw [if_pos hc, if_pos hc]
   ·rw [if_neg hc, if_neg hc]
  ·rw [if_neg h5, if_neg h5]
theorem ref_loop (op : Int) (xs : List S23) (hl : xs.length ≤ 1000000) (d : Nat) : ∀ (k i : Nat) (b : S23), i + d = xs.length → d + 2 ≤ k →
  firkinref22_Value.l1 k op xs (wrap64 (sumL (xs.take i))) (i : Int) b.f0 b.f1 b.f2 = if op = 3 then some (false, wrap64 (sumL xs), ⟨#[]⟩) else some (((xs.drop i).foldl (nx op) b).f0, ((xs.drop i).foldl (nx op) b).f1, ((xs.drop i).foldl (nx op) b).f2) := by
 induction d with
 | zero =>
  intro k i b hi hk
  obtain ⟨k, rfl⟩ : ∃ m, k = m + 1 := ⟨k - 1, by omega⟩
  rw [firkinref22_Value.l1, if_neg (by omega), List.take_of_length_le (by omega), List.drop_eq_nil_of_le (by omega)]
  rfl
 | succ d ih =>
  intro k i b hi hk
  obtain ⟨k, rfl⟩ : ∃ m, k = m + 2 := ⟨k - 2, by omega⟩
  have hlt : i < xs.length := by omega
  rw [ref_step k op xs _ i b hlt hl, wrap_add', List.drop_eq_getElem_cons hlt, List.foldl_cons]
  have := ih (k + 1) (i + 1) (nx op b xs[i]) (by omega) (by omega)
  rw [List.take_succ_eq_append_getElem hlt, sumL_app] at this
  simp only [sumL, Int.add_zero] at this
  exact this
theorem fold_low (xs : List S23) : ∀ b, (xs.foldl (nx 4) b = b ∨ xs.foldl (nx 4) b ∈ xs) ∧ o (xs.foldl (nx 4) b) b ≤ 0 ∧ ∀ y ∈ xs, o (xs.foldl (nx 4) b) y ≤ 0 := by
 induction xs with
 | nil => intro b; exact ⟨Or.inl rfl, by rw [List.foldl_nil, o_self]; exact Int.le_refl _, by simp⟩
 | cons x xs ih =>
  intro b
  rw [List.foldl_cons]
  obtain ⟨h1, h2, h3⟩ := ih (nx 4 b x)
  have hn : nx 4 b x = if o x b < 0 then x else b := rfl
  by_cases hc : o x b < 0
  ·rw [hn, if_pos hc] at h1 h2 h3 ⊢
   refine ⟨Or.inr ?_, o_trans h2 (by omega), fun y hy => ?_⟩
   ·rcases h1 with h1 | h1
    ·rw [h1]; exact List.mem_cons_self
    ·exact List.mem_cons_of_mem _ h1
   ·rcases List.mem_cons.mp hy with rfl | hy
    ·exact h2
    ·exact h3 y hy
  ·rw [hn, if_neg hc] at h1 h2 h3 ⊢
   refine ⟨h1.imp id (List.mem_cons_of_mem _), h2, fun y hy => ?_⟩
   rcases List.mem_cons.mp hy with rfl | hy
   ·exact o_trans h2 (by rw [o_swap]; omega)
   ·exact h3 y hy
theorem fold_high (xs : List S23) : ∀ b, (xs.foldl (nx 5) b = b ∨ xs.foldl (nx 5) b ∈ xs) ∧ 0 ≤ o (xs.foldl (nx 5) b) b ∧ ∀ y ∈ xs, 0 ≤ o (xs.foldl (nx 5) b) y := by
 have ht : ∀ {p q r : S23}, 0 ≤ o p q → 0 ≤ o q r → 0 ≤ o p r := by
  intro p q r h1 h2
  have := o_trans (x := r) (y := q) (z := p) (by rw [o_swap q r]; omega) (by rw [o_swap p q]; omega)
  rw [o_swap p r] at this; omega
 induction xs with
 | nil => intro b; exact ⟨Or.inl rfl, by rw [List.foldl_nil, o_self]; exact Int.le_refl _, by simp⟩
 | cons x xs ih =>
  intro b
  rw [List.foldl_cons]
  obtain ⟨h1, h2, h3⟩ := ih (nx 5 b x)
  have hn : nx 5 b x = if o x b > 0 then x else b := rfl
  by_cases hc : o x b > 0
  ·rw [hn, if_pos hc] at h1 h2 h3 ⊢
   refine ⟨Or.inr ?_, ht h2 (by omega), fun y hy => ?_⟩
   ·rcases h1 with h1 | h1
    ·rw [h1]; exact List.mem_cons_self
    ·exact List.mem_cons_of_mem _ h1
   ·rcases List.mem_cons.mp hy with rfl | hy
    ·exact h2
    ·exact h3 y hy
  ·rw [hn, if_neg hc] at h1 h2 h3 ⊢
   refine ⟨h1.imp id (List.mem_cons_of_mem _), h2, fun y hy => ?_⟩
   rcases List.mem_cons.mp hy with rfl | hy
   ·exact ht h2 (by rw [o_swap]; omega)
   ·exact h3 y hy
theorem nn_take (l : List S23) (i : Nat) (h : i < l.length) : nn (l.take (i + 1)) = if l[i].f0 = true then nn (l.take i) else nn (l.take i) ++ [l[i]] := by
 rw [List.take_succ_eq_append_getElem h, nn_app]
 cases hc : l[i].f0 <;> simp [nn, hc]
theorem ref_some (op : Int) (l : List S23) (hl : l.length ≤ 1000000) (d : Nat) : ∀ (m i : Nat), i + d = l.length → firkinref22_Value.l0 (m + d + 1) op l (nn (l.take i)) (i : Int) = firkinref22_Value.l0 (m + 1) op l (nn l) (l.length : Int) := by
 induction d with
 | zero =>
  intro m i hi
  obtain rfl : i = l.length := by omega
  rw [List.take_length]
 | succ d ih =>
  intro m i hi
  have hlt : i < l.length := by omega
  have hq : (nn (l.take i)).length < 4398046511104 := by have := nn_le (l.take i); rw [List.length_take] at this; omega
  have hn := nn_take l i hlt
  rw [show m + (d + 1) + 1 = (m + d + 1) + 1 by omega, firkinref22_Value.l0, if_pos (by omega), if_pos (by omega), rd_nat l i hlt, w64 (by omega) (by omega), show ((i : Int) + 1) = ((i + 1 : Nat) : Int) from rfl, ← ih m (i + 1) (by omega), hn]
  by_cases hc : l[i].f0 = true
  ·rw [if_pos hc, if_pos hc]
  ·rw [if_neg hc, if_neg hc, if_pos hq]
theorem value_eq {l : List S23} {s : St} (h : Is l s) (hl : l.length ≤ 1000000) (op : Int) (k : Nat) (hk : 2 * l.length + 20 ≤ k) :
  ∃ r, firkinref22_Value.f k op l = some r ∧ fold_State_Value.f s.all s.some s.sum s.low.f0 s.low.f1 s.low.f2 s.high.f0 s.high.f1 s.high.f2 op = some r := by
 obtain ⟨m, rfl⟩ : ∃ m, k = m + l.length + 1 := ⟨k - l.length - 1, by omega⟩
 have hnl := nn_le l
 unfold firkinref22_Value.f fold_State_Value.f
 have h0 := ref_some op l hl l.length m 0 (by omega)
 rw [List.take_zero] at h0
 rw [show firkinref22_Value.l0 (m + l.length + 1) op l [] 0 = _ from h0, firkinref22_Value.l0, if_neg (by omega)]
 by_cases h1 : op = 1
 ·rw [if_pos h1, if_pos h1, h.all]; exact ⟨_, rfl, rfl⟩
 rw [if_neg h1, if_neg h1]
 by_cases h2 : op = 2
 ·rw [if_pos h2, if_pos h2, h.some]; exact ⟨_, rfl, rfl⟩
 rw [if_neg h2, if_neg h2]
 obtain ⟨m, rfl⟩ : ∃ n, m = n + 1 := ⟨m - 1, by omega⟩
 have hj : firkinref22_Value.j1 (m + 1) op (nn l) true = some (false, 0, ⟨#[]⟩) := by rw [firkinref22_Value.j1, if_pos rfl]
 by_cases hlo : op < 1
 ·rw [if_pos hlo, hj, if_neg (by omega), if_neg (by omega), if_neg (by omega)]; exact ⟨_, rfl, rfl⟩
 rw [if_neg hlo]
 by_cases hhi : op > 5
 ·rw [decide_eq_true hhi, hj, if_neg (by omega), if_neg (by omega), if_neg (by omega)]; exact ⟨_, rfl, rfl⟩
 rw [decide_eq_false hhi, firkinref22_Value.j1, if_neg (by decide)]
 unfold foldTold
 by_cases hz : (nn l).length = 0
 ·have hs : s.some = 0 := by rw [h.some]; omega
  rw [if_pos (by omega), if_pos hs, if_pos hs, if_pos hs]
  refine ⟨_, rfl, ?_⟩
  by_cases h3 : op = 3
  ·rw [if_pos h3]
  rw [if_neg h3]
  by_cases h4 : op = 4
  ·rw [if_pos h4]
  rw [if_neg h4, if_pos (by omega)]
 ·have hs : s.some ≠ 0 := by rw [h.some]; omega
  have hp : 0 < (nn l).length := by omega
  rw [if_neg (by omega), if_pos (by omega), if_neg hs, if_neg hs, if_neg hs]
  have hr := ref_loop op (nn l) (by omega) (nn l).length m 0 ((nn l)[0]) (by omega) (by omega)
  rw [List.take_zero, List.drop_zero, show wrap64 (sumL []) = 0 from by decide +kernel, show ((0 : Nat) : Int) = 0 from rfl] at hr
  have e0 : rd_T23 (nn l) 0 = (nn l)[0] := rd_nat (nn l) 0 hp
  rw [e0, hr]
  by_cases h3 : op = 3
  ·rw [if_pos h3, if_pos h3, h.sum]; exact ⟨_, rfl, rfl⟩
  rw [if_neg h3, if_neg h3]
  obtain ⟨hl, hh⟩ : IsLow (nn l) s.low ∧ IsHigh (nn l) s.high := by
   rcases h.ends with ⟨hn, _⟩ | h9
   ·rw [hn] at hz; exact absurd rfl hz
   ·exact h9
  by_cases h4 : op = 4
  ·subst h4
   obtain ⟨g1, g2, g3⟩ := fold_low (nn l) ((nn l)[0])
   have : IsLow (nn l) ((nn l).foldl (nx 4) (nn l)[0]) := ⟨by rcases g1 with g1 | g1; (rw [g1]; exact List.getElem_mem hp); exact g1, g3⟩
   rw [hl.one this]
   exact ⟨_, rfl, rfl⟩
  ·obtain rfl : op = 5 := by omega
   obtain ⟨g1, g2, g3⟩ := fold_high (nn l) ((nn l)[0])
   have : IsHigh (nn l) ((nn l).foldl (nx 5) (nn l)[0]) := ⟨by rcases g1 with g1 | g1; (rw [g1]; exact List.getElem_mem hp); exact g1, g3⟩
   rw [hh.one this]
   exact ⟨_, rfl, rfl⟩
theorem small_loop (l : List S23) (d : Nat) : ∀ (k i : Nat), i + d = 201 → 2 * d + 2 ≤ k → ∃ b, firkinlaw10_Small.l0 k l (i : Int) = some b ∧ (b = true → l.length ≤ 100) := by
 induction d with
 | zero =>
  intro k i hi hk
  obtain ⟨k, rfl⟩ : ∃ m, k = m + 2 := ⟨k - 2, by omega⟩
  rw [firkinlaw10_Small.l0]
  have h30 : decide ((i : Int) < 200) = false := decide_eq_false (by omega)
  rw [h30]
  simp only [ite_self]
  rw [firkinlaw10_Small.j1, if_neg (by decide)]
  exact ⟨_, rfl, fun h => by have := of_decide_eq_true h; omega⟩
 | succ d ih =>
  intro k i hi hk
  obtain ⟨k, rfl⟩ : ∃ m, k = m + 2 := ⟨k - 2, by omega⟩
  rw [firkinlaw10_Small.l0]
  by_cases hl : (i : Int) < (l.length : Int)
  ·rw [if_pos hl]
   by_cases h30 : (i : Int) < 200
   ·rw [decide_eq_true h30, firkinlaw10_Small.j1, if_pos rfl, if_pos (by omega), if_pos hl]
    by_cases h100 : (((rd_T23 l (i : Int)).f2).size : Int) > 60
    ·rw [if_pos h100]; exact ⟨_, rfl, fun h => by cases h⟩
    ·rw [if_neg h100, w64 (by omega) (by omega)]
     exact ih k (i + 1) (by omega) (by omega)
   ·rw [decide_eq_false h30, firkinlaw10_Small.j1, if_neg (by decide)]
    exact ⟨_, rfl, fun h => by have := of_decide_eq_true h; omega⟩
  ·rw [if_neg hl, firkinlaw10_Small.j1, if_neg (by decide)]
   exact ⟨_, rfl, fun h => by have := of_decide_eq_true h; omega⟩
theorem small_get (l : List S23) (k : Nat) (hk : 500 ≤ k) : ∃ b, firkinlaw10_Small.f k l = some b ∧ (b = true → l.length ≤ 100) := by
 unfold firkinlaw10_Small.f
 exact small_loop l 201 k 0 (by omega) (by omega)
theorem type_is (k : Nat) (op ty : Int) : fold_Type.f (k + 3) op ty = some (if 1 ≤ op ∧ op ≤ 3 then 1 else if op = 4 ∨ op = 5 then ty else 0) := by
 unfold fold_Type.f
 have hj : ∀ b : Bool, fold_Type.j0 (k + 3) ty op b = if b = true then some 1 else if op = 4 then some ty else if op = 5 then some ty else some 0 := fun b => by rw [fold_Type.j0]
 simp only [hj]
 by_cases h1 : op = 1
 ·subst h1; simp
 by_cases h2 : op = 2
 ·subst h2; simp
 by_cases h3 : op = 3
 ·subst h3; simp
 by_cases h4 : op = 4
 ·subst h4; simp
 by_cases h5 : op = 5
 ·subst h5; simp
 have hn : ¬ (1 ≤ op ∧ op ≤ 3) := by omega
 simp [h1, h2, h3, h4, h5, hn]
set_option maxRecDepth 100000 in
theorem live_20 : firkinlaw22_live.f 20 = some true := by decide +kernel
theorem live_is (d : Nat) : firkinlaw22_live.f (20 + d) = some true := by
 induction d with
 | zero => exact live_20
 | succ d ih => exact firkinlaw22_live.mono _ _ ih
theorem live_k (k : Nat) (hk : 20 ≤ k) : firkinlaw22_live.f k = some true := by
 obtain ⟨d, rfl⟩ : ∃ d, k = 20 + d := ⟨k - 20, by omega⟩
 exact live_is d
theorem ok_of {x : S23} (h : (Lit.int .i64 x.f1).wf = true) : Ok x := by
 have := Wf.i64 h
 exact this
end Go.Proofs.Ytkdlfejokahohaa.Fold
