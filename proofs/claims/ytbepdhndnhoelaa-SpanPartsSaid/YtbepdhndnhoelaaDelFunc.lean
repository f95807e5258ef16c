/- slices.DeleteFunc over []int with span.Runs' own function (p < 0), and slices.Sort, slices.Compact over []int: the shelf's contracts (laid at this seat), said as rows of the call's own. -/
import Derived.Test.YtbepdhndnhoelaaShPlain
import Derived.Test.YtbepdhndnhoelaaShDfPlain
import Derived.Test.YtbepdhndnhoelaaSortRow
import Derived.Test.YtbepdhndnhoelaaWKept
-- slices.DeleteFunc number 19 here (wip/layspan lays it)
namespace Go.Proofs.Ytbepdhndnhoelaa.SortRow
open Go Go.Shelf Go.RowKit Go.Lib Go.Sort Go.Proofs.YtbepdhndnhoelaaW.PrintWords Go.Proofs.YtbepdhndnhoelaaW.PrintLast Go.Proofs.YtbepdhndnhoelaaW.PrintMore
set_option linter.unusedVariables false
set_option linter.unusedSimpArgs false
theorem kept_put {w : World} {e base : Nat} {ok : Nat → Prop} {g n cap : Nat} {ss : List Int} (h : (Kd.int .i64).R e w base ok (.slice (some ⟨g, 0, none⟩) n cap) ss) (us : List Int) (q : Nat) (os : Array Obj) : Kept w (grow (putRow (Value.int .i64) (Sort.ahead w q) g 0 us.toArray) os) ok :=
  Kept.of_grown (grownBy_sortedI (w := w) (g := g) (n := q) (os := os) us.toArray) (Kept.refl w ok) (fun k hk => by obtain rfl := Option.some.inj hk; exact .inl (h.1 _ rfl))
theorem neg_gives (x : Int) (W : World) : FnGives Try.prog 21 #[] #[.int .i64 x] (.bool (decide (x < 0))) W := by
  show Calls Try.prog 21 #[.int .i64 x] W _
  go_enter Try.func21, Try.ntmps21
  go_wp2
  all_goals (go_ret; exact ⟨by simp_all, 0, rfl⟩)
theorem del_calls {w0 w : World} {B : Nat} {ok : Nat → Prop} {g cap : Nat} {ss : List Int} (h : (Kd.int .i64).R 3 w B ok (.slice (some ⟨g, 0, none⟩) ss.length cap) ss) (hb : Below B w0 w) (hB : B ≤ w.heap.size) :
    Calls Try.prog 19 #[.slice (some ⟨g, 0, none⟩) ss.length cap, .func (.func 21) #[] #[]] w fun e w' => e = .returned (.slice (some ⟨g, 0, none⟩) (ss.filter fun x => !decide (x < 0)).length cap) ∧ (Kd.int .i64).R 3 w' B ok (.slice (some ⟨g, 0, none⟩) (ss.filter fun x => !decide (x < 0)).length cap) (ss.filter fun x => !decide (x < 0)) ∧ Below B w0 w' ∧ B ≤ w'.heap.size ∧ Kept w w' ok := by
  have eg : ∀ args w, (callFunc 21 args).run Try.prog w = .ok (.enter 21 args) w := enters_of Try.func21 (by kernel_rfl) rfl
  obtain ⟨hH, hlt, hBg, hc, hm⟩ := R_holds h
  have hml : maxLen = 9223372036854775807 := rfl
  have hcon := AnyE.slices_DeleteFunc Try.l10 (Value.int .i64) (fun _ => rfl) (fun x => decide (x < 0)) 21 #[] eg 0 Try.zeroValue3 g 0 cap ss.toArray w
    (fun W x _ => neg_gives x W) (fun n os dk x _ => neg_gives x _) hH (by simp; omega) (by simp; omega)
  have e1 : ss.toArray.size = ss.length := by simp
  have e2 : ss.toArray.toList = ss := rfl
  rw [e1, e2] at hcon
  change Calls Try.prog 19 _ _ _ at hcon
  refine hcon.mono ?_
  rintro e w' ⟨rfl, q, rfl⟩
  have hfl : (ss.filter fun x => !decide (x < 0)).length ≤ ss.length := List.length_filter_le _ _
  have hR := R_put h ((ss.filter fun x => !decide (x < 0)) ++ List.replicate (ss.length - (ss.filter fun x => !decide (x < 0)).length) 0) (by rw [List.length_append, List.length_replicate]; omega) (ss.filter fun x => !decide (x < 0)).length (by rw [List.length_append]; omega) q #[]
  rw [grow_empty, List.take_left'] at hR
  · refine ⟨rfl, hR, ?_, ?_⟩
    · have := below_put hb hBg hB ((ss.filter fun x => !decide (x < 0)) ++ List.replicate (ss.length - (ss.filter fun x => !decide (x < 0)).length) 0) q #[]
      rwa [grow_empty] at this
    · rw [size_putRow]; exact ⟨hB, by have := kept_put h ((ss.filter fun x => !decide (x < 0)) ++ List.replicate (ss.length - (ss.filter fun x => !decide (x < 0)).length) 0) q #[]; rwa [grow_empty] at this⟩
  · rfl
theorem del_none (w : World) : Calls Try.prog 19 #[.slice none 0 0, .func (.func 21) #[] #[]] w fun e w' => e = .returned (.slice none 0 0) ∧ Below w.heap.size w w' := by
  have hcon : ∀ W, Calls Try.prog 28 #[.slice none 0 0, .func (.func 21) #[] #[]] W fun e w' => e = .returned (.int .i64 (-1)) ∧ ∃ n, w' = W.drewN n := fun W => (AnyE.slices_IndexFunc_empty (P := Try.prog) (ρ := Try.l10_ren) { Try.l10 with } none 0 (.func (.func 21) #[] #[]) W).mono (by rintro e w' ⟨rfl, h⟩; exact ⟨rfl, by first | exact h | (subst h; exact ⟨0, rfl⟩)⟩)
  go_enter Try.func19, Try.ntmps19
  go_wp2_with (go_at_call 28; refine (hcon _).mono ?_; rintro e w' ⟨rfl, n, rfl⟩)
  go_ret
  exact ⟨rfl, by repeat (first | exact Below.refl _ _ | apply pw_below_drewN | apply below_drew1)⟩
theorem sort_calls {w0 w : World} {B : Nat} {ok : Nat → Prop} {g cap : Nat} {ss : List Int} (hs : ss.length < 4611686018427387904) (h : (Kd.int .i64).R 3 w B ok (.slice (some ⟨g, 0, none⟩) ss.length cap) ss) (hb : Below B w0 w) (hB : B ≤ w.heap.size) :
    Calls Try.prog 22 #[.slice (some ⟨g, 0, none⟩) ss.length cap] w fun e w' => e = .returned (.tuple #[]) ∧ (Kd.int .i64).R 3 w' B ok (.slice (some ⟨g, 0, none⟩) ss.length cap) (ss.mergeSort fun x y => decide (x ≤ y)) ∧ Below B w0 w' ∧ B ≤ w'.heap.size ∧ Kept w w' ok := by
  obtain ⟨hH, hlt, hBg, hc, hm⟩ := R_holds h
  have hml : maxLen = 9223372036854775807 := rfl
  refine (Try.slices_Sort_int g 0 cap ss w hH hlt (by omega)).mono ?_
  rintro e w' ⟨rfl, n, os, rfl⟩
  have hl : (ss.mergeSort fun x y => decide (x ≤ y)).length = ss.length := List.length_mergeSort _
  have hR := R_put h (ss.mergeSort fun x y => decide (x ≤ y)) hl ss.length (by omega) n os
  rw [List.take_of_length_le (by omega)] at hR
  exact ⟨rfl, hR, below_put hb hBg hB _ n os, by rw [size_grow, size_putRow]; show B ≤ w.heap.size + _; omega, kept_put h _ n os⟩
theorem compact_calls {w0 w : World} {B : Nat} {ok : Nat → Prop} {g cap : Nat} {ss : List Int} (h : (Kd.int .i64).R 3 w B ok (.slice (some ⟨g, 0, none⟩) ss.length cap) ss) (hb : Below B w0 w) (hB : B ≤ w.heap.size) :
    Calls Try.prog 23 #[.slice (some ⟨g, 0, none⟩) ss.length cap] w fun e w' => e = .returned (.slice (some ⟨g, 0, none⟩) (Lib.compact ss).length cap) ∧ (Kd.int .i64).R 3 w' B ok (.slice (some ⟨g, 0, none⟩) (Lib.compact ss).length cap) (Lib.compact ss) ∧ Below B w0 w' ∧ B ≤ w'.heap.size ∧ Kept w w' ok := by
  obtain ⟨hH, hlt, hBg, hc, hm⟩ := R_holds h
  have hml : maxLen = 9223372036854775807 := rfl
  refine (Try.slices_Compact_int g 0 cap ss w hH (by omega) hc).mono ?_
  rintro e w' ⟨rfl, q, rfl⟩
  have hfl : (Lib.compact ss).length ≤ ss.length := Lib.compact_length_le ss
  have hR := R_put h (Lib.compact ss ++ List.replicate (ss.length - (Lib.compact ss).length) 0) (by rw [List.length_append, List.length_replicate]; omega) (Lib.compact ss).length (by rw [List.length_append]; omega) q #[]
  rw [grow_empty, List.take_left'] at hR
  · refine ⟨rfl, hR, ?_, ?_⟩
    · have := below_put hb hBg hB (Lib.compact ss ++ List.replicate (ss.length - (Lib.compact ss).length) 0) q #[]
      rwa [grow_empty] at this
    · rw [size_putRow]; exact ⟨hB, by have := kept_put h (Lib.compact ss ++ List.replicate (ss.length - (Lib.compact ss).length) 0) q #[]; rwa [grow_empty] at this⟩
  · rfl
theorem R_cases {w : World} {e base : Nat} {ok : Nat → Prop} {v : Value} {ss : List Int} (h : (Kd.int .i64).R e w base ok v ss) : (v = .slice none 0 0 ∧ ss = []) ∨ ∃ g cap, v = .slice (some ⟨g, 0, none⟩) ss.length cap := by
  obtain ⟨h0, inner, ⟨h1, h2⟩, hr⟩ := h
  rcases h2 with ⟨h2, h3⟩ | ⟨g, cap, cur, rfl, _⟩
  · exact .inl ⟨h2, List.eq_nil_of_length_eq_zero h3⟩
  · exact .inr ⟨g, cap, rfl⟩
theorem below_more {w0 w w' : World} {B : Nat} (hb : Below B w0 w) (hB : B ≤ w.heap.size) (h : Below w.heap.size w w') : Below B w0 w' ∧ B ≤ w'.heap.size :=
  ⟨hb.trans (h.mono hB), Nat.le_trans hB h.size⟩
theorem slices_DeleteFunc_int.calls {w0 w : World} {B : Nat} {ok : Nat → Prop} {v : Value} {ss : List Int} (h : (Kd.int .i64).R 3 w B ok v ss) (hb : Below B w0 w) (hB : B ≤ w.heap.size) :
    Calls Try.prog 19 #[v, .func (.func 21) #[] #[]] w fun e w' => ∃ v', e = .returned v' ∧ (Kd.int .i64).R 3 w' B ok v' (ss.filter fun x => !decide (x < 0)) ∧ Below B w0 w' ∧ B ≤ w'.heap.size ∧ Kept w w' ok := by
  rcases R_cases h with ⟨rfl, rfl⟩ | ⟨g, cap, rfl⟩
  · refine (del_none w).mono ?_
    rintro e w' ⟨rfl, b⟩
    exact ⟨_, rfl, Kd.R_nil _ _ _ _ _, (below_more hb hB b).1, (below_more hb hB b).2, Kept.of_below b _⟩
  · refine (del_calls h hb hB).mono ?_
    rintro e w' ⟨rfl, r⟩
    exact ⟨_, rfl, r⟩
theorem slices_Sort_int.calls {w0 w : World} {B : Nat} {ok : Nat → Prop} {v : Value} {ss : List Int} (hs : ss.length < 4611686018427387904) (h : (Kd.int .i64).R 3 w B ok v ss) (hb : Below B w0 w) (hB : B ≤ w.heap.size) :
    Calls Try.prog 22 #[v] w fun e w' => e = .returned (.tuple #[]) ∧ (Kd.int .i64).R 3 w' B ok v (ss.mergeSort fun x y => decide (x ≤ y)) ∧ Below B w0 w' ∧ B ≤ w'.heap.size ∧ Kept w w' ok := by
  rcases R_cases h with ⟨rfl, rfl⟩ | ⟨g, cap, rfl⟩
  · refine (Try.slices_Sort_int_none none 0 w).mono ?_
    rintro e w' ⟨rfl, rfl⟩
    exact ⟨rfl, by simpa using h, hb, hB, Kept.refl _ _⟩
  · exact sort_calls hs h hb hB
theorem slices_Compact_int.calls {w0 w : World} {B : Nat} {ok : Nat → Prop} {v : Value} {ss : List Int} (h : (Kd.int .i64).R 3 w B ok v ss) (hb : Below B w0 w) (hB : B ≤ w.heap.size) :
    Calls Try.prog 23 #[v] w fun e w' => ∃ v', e = .returned v' ∧ (Kd.int .i64).R 3 w' B ok v' (Lib.compact ss) ∧ Below B w0 w' ∧ B ≤ w'.heap.size ∧ Kept w w' ok := by
  rcases R_cases h with ⟨rfl, rfl⟩ | ⟨g, cap, rfl⟩
  · refine (Try.slices_Compact_int_empty none 0 w).mono ?_
    rintro e w' ⟨rfl, rfl⟩
    exact ⟨_, rfl, Kd.R_nil _ _ _ _ _, hb, hB, Kept.refl _ _⟩
  · refine (compact_calls h hb hB).mono ?_
    rintro e w' ⟨rfl, r⟩
    exact ⟨_, rfl, r⟩
end Go.Proofs.Ytbepdhndnhoelaa.SortRow
