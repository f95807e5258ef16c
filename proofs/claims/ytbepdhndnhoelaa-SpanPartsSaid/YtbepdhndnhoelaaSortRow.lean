/- Rows of whole numbers that the library's Sort, Compact and DeleteFunc have written: what their contracts say ('putRow', 'grow'), said as rows of the call's own. -/
import Derived.Test.YtbepdhndnhoelaaWMore
import Derived.Sort.OwnSortedInts
namespace Go.Proofs.Ytbepdhndnhoelaa.SortRow
open Go Go.Sort Go.RowKit Go.Proofs.YtbepdhndnhoelaaW.PrintWords Go.Proofs.YtbepdhndnhoelaaW.PrintLast Go.Proofs.YtbepdhndnhoelaaW.PrintMore
set_option linter.unusedVariables false
set_option linter.unusedSimpArgs false
/-- Numbers' cells are their row. -/
theorem reps_nums (w : World) (base : Nat) (ok : Nat → Prop) (xs : List Int) : Reps ((Kd.int .i64).M w base ok) 1 xs (xs.map (Value.int .i64)) := by
  refine ⟨by simp, fun j p hj => ?_⟩
  have hjl := (List.getElem?_eq_some_iff.1 hj).1
  have e : (((xs.map (Value.int .i64)).drop (j * 1)).take 1) = [Value.int .i64 p] := by
    rw [Nat.mul_one, List.drop_eq_getElem_cons (by simpa using hjl)]
    have := (List.getElem?_eq_some_iff.1 hj).2
    simp [this]
  rw [e]; rfl
/-- A row of numbers in a block of the call's own, behind a write of its cells. -/
theorem R_put {w : World} {e base : Nat} {ok : Nat → Prop} {g cap : Nat} {ss : List Int} (h : (Kd.int .i64).R e w base ok (.slice (some ⟨g, 0, none⟩) ss.length cap) ss) (us : List Int) (hl : us.length = ss.length) (t : Nat) (ht : t ≤ us.length) (n : Nat) (os : Array Obj) :
    (Kd.int .i64).R e (grow (putRow (Value.int .i64) (Sort.ahead w n) g 0 us.toArray) os) base ok (.slice (some ⟨g, 0, none⟩) t cap) (us.take t) := by
  obtain ⟨h0, inner, ⟨h1, h2⟩, hr⟩ := h
  rcases h2 with ⟨h2, _⟩ | ⟨g', cap', cur, eq, hg, hh, c1, c2, c3, c4⟩
  · simp at h2
  · simp only [Value.slice.injEq, Option.some.injEq, Addr.mk.injEq, true_and, and_true] at eq
    obtain ⟨rfl, rfl⟩ := eq
    have c3' : cur.size = cap * 1 := c3
    refine ⟨fun k hk => h0 k hk, (us.take t).map (Value.int .i64), ⟨?_, .inr ⟨g, cap, _, ?_, hg, heap_sortedI _ hh, ?_, c2, ?_, ?_⟩⟩, reps_nums _ _ _ _⟩
    · show _ = _ * 1; simp
    · rw [List.length_take, Nat.min_eq_left ht]
    · rw [List.length_take, Nat.min_eq_left ht]; omega
    · show _ = cap * 1; simp [putCells, c3']
    · have := take_putCellsI cur us (by omega)
      show (List.take (_ * 1) _) = _
      rw [Nat.mul_one, List.length_take, Nat.min_eq_left ht]
      have e2 := congrArg (List.take t) this
      rw [List.take_take, Nat.min_eq_left ht] at e2
      rw [e2, List.map_take]
/-- The row is what the contract asks for. -/
theorem R_holds {w : World} {e base : Nat} {ok : Nat → Prop} {g cap : Nat} {ss : List Int} (h : (Kd.int .i64).R e w base ok (.slice (some ⟨g, 0, none⟩) ss.length cap) ss) : Holds (Value.int .i64) w g 0 ss.toArray ∧ g < w.heap.size ∧ base ≤ g ∧ ss.length ≤ cap ∧ cap ≤ maxLen := by
  obtain ⟨h0, inner, ⟨h1, h2⟩, hr⟩ := h
  rcases h2 with ⟨h2, _⟩ | ⟨g', cap', cur, eq, hg, hh, c1, c2, c3, c4⟩
  · simp at h2
  · simp only [Value.slice.injEq, Option.some.injEq, Addr.mk.injEq, true_and, and_true] at eq
    obtain ⟨rfl, rfl⟩ := eq
    have hi : inner = ss.map (Value.int .i64) := by
      obtain ⟨hlen, hall⟩ := hr
      have hlen' : inner.length = ss.length := by have : inner.length = ss.length * 1 := hlen; omega
      apply List.ext_getElem? 
      intro j
      by_cases hj : j < ss.length
      · have hp := hall j ss[j] (List.getElem?_eq_getElem hj)
        have hp' : ((inner.drop (j * 1)).take 1) = [Value.int .i64 ss[j]] := hp
        rw [Nat.mul_one, List.drop_eq_getElem_cons (by omega), List.take_succ_cons, List.take_zero] at hp'
        have hp' := (List.cons.inj hp').1
        rw [List.getElem?_eq_getElem (by omega), List.getElem?_map, List.getElem?_eq_getElem hj, hp']; rfl
      · rw [List.getElem?_eq_none (by omega), List.getElem?_eq_none (by simp; omega)]
    have c4' : cur.toList.take (ss.length * 1) = inner := c4
    rw [Nat.mul_one, hi] at c4'
    exact ⟨holds_of_blockI hh c4', (Array.getElem?_eq_some_iff.1 hh).1, hg, c1, c2⟩
/-- What is below the row's base stays. -/
theorem below_put {w0 w : World} {B g : Nat} (hB : Below B w0 w) (hg : B ≤ g) (hsz : B ≤ w.heap.size) (us : List Int) (n : Nat) (os : Array Obj) : Below B w0 (grow (putRow (Value.int .i64) (Sort.ahead w n) g 0 us.toArray) os) := by
  have hgr := grownBy_sortedI (w := w) (g := g) (n := n) (os := os) us.toArray
  exact hB.grown hgr hsz (fun k hk => by obtain rfl := Option.some.inj hk; exact hg)
end Go.Proofs.Ytbepdhndnhoelaa.SortRow
