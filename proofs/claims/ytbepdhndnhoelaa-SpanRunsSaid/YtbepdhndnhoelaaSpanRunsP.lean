/- span.Runs, plain law: runs of what is listed, each number in one. -/
import Derived.Test.YtbepdhndnhoelaaX11
import Derived.Test.YtbepdhndnhoelaaSpanSort
namespace Go.Proofs.Ytbepdhndnhoelaa.SpanP
open Go Go.RowKit Go.Lib Go.Proofs.Ytbepdhndnhoelaa.X Go.Proofs.YtbepdhndnhoelaaW.PrintWords Go.Proofs.YtbepdhndnhoelaaW.PrintLast Go.Proofs.YtbepdhndnhoelaaW.PrintMore
set_option linter.unusedVariables false
set_option linter.unusedSimpArgs false
abbrev Rn := S27
/-- One number more: it widens the last run, or begins one. -/
def runStep (g : Int) (out : List Rn) (p : Int) : List Rn :=
  match out.getLast? with
  | some r => if p - r.f1 - 1 ≤ g then out.dropLast ++ [⟨r.f0, p⟩] else out ++ [⟨p, p⟩]
  | none => [⟨p, p⟩]
theorem runStep_nil (g p : Int) : runStep g [] p = [⟨p, p⟩] := rfl
theorem runStep_last (g p : Int) (out : List Rn) (r : Rn) : runStep g (out ++ [r]) p = if p - r.f1 - 1 ≤ g then out ++ [⟨r.f0, p⟩] else (out ++ [r]) ++ [⟨p, p⟩] := by
  unfold runStep; simp
theorem set_last (o : List Rn) (r q : Rn) : (o ++ [r]).set o.length q = o ++ [q] := by
  rw [List.set_append_right _ _ (Nat.le_refl _)]; simp
/-- Bounds of what lies in runs. -/
def Bnd (out : List Rn) : Prop := ∀ r ∈ out, 0 ≤ r.f1 ∧ r.f1 < 9223372036854775808
theorem runs_loop (g : Int) (c : List Int) (hc : ∀ x ∈ c, 0 ≤ x ∧ x < 9223372036854775808) (hl : c.length ≤ 1000) (up : c.Pairwise (· < ·)) :
    ∀ (d k i : Nat) (out : List Rn), i + d = c.length → d < k → out.length ≤ i → Bnd out → (∀ r ∈ out, ∀ x ∈ c.drop i, r.f1 < x) → span_Runs.l0 k g out c (c.length : Int) (i : Int) = some ((c.drop i).foldl (runStep (mx g 0)) out) := by
  intro d
  induction d with
  | zero =>
    intro k i out h hk ho hb hr
    obtain ⟨k, rfl⟩ : ∃ m, k = m + 1 := ⟨k - 1, by omega⟩
    rw [span_Runs.l0, if_neg (by omega), List.drop_eq_nil_of_le (by omega)]; rfl
  | succ d ih =>
    intro k i out h hk ho hb hr
    obtain ⟨k, rfl⟩ : ∃ m, k = m + 1 := ⟨k - 1, by omega⟩
    have hi : i < c.length := by omega
    have ep : rd c (i : Int) = c[i] := by unfold rd; simp [hi]
    have ew : wrap64 ((i : Int) + 1) = ((i + 1 : Nat) : Int) := by unfold wrap64; omega
    have ed : c.drop i = c[i] :: c.drop (i + 1) := List.drop_eq_getElem_cons hi
    have pb := hc _ (List.getElem_mem hi)
    have hup : ∀ x ∈ c.drop (i + 1), c[i] < x := by
      intro x hx
      have h9 := up.sublist (List.drop_sublist i c)
      rw [ed] at h9
      exact (List.pairwise_cons.mp h9).1 x hx
    rw [ed, List.foldl_cons, span_Runs.l0, if_pos (by omega), if_pos (by omega), if_pos (by omega), ep, ew]
    rcases List.eq_nil_or_concat out with rfl | ⟨o, r, rfl⟩
    · rw [if_neg (by unfold wrap64; simp), if_pos (by simp), runStep_nil, ← ih k (i + 1) [⟨c[i], c[i]⟩] (by omega) (by omega) (by simp) (by intro r hr; obtain rfl := List.mem_singleton.mp hr; exact pb) (by intro r hr x hx; obtain rfl := List.mem_singleton.mp hr; exact hup x hx)]
      rfl
    · rw [List.concat_eq_append] at *
      have hrl : r.f1 < c[i] := hr r (by simp) _ (by rw [ed]; exact List.mem_cons_self)
      have hrb := hb r (by simp)
      rw [List.length_append, List.length_singleton] at ho
      have e1 : wrap64 (((o ++ [r]).length : Int) - 1) = (o.length : Int) := by rw [List.length_append, List.length_singleton]; unfold wrap64; omega
      have e2 : rd_T27 (o ++ [r]) (o.length : Int) = r := by unfold rd_T27; simp
      have e3 : span_Run_near.f r.f0 r.f1 c[i] (mx g 0) = some (decide (c[i] - r.f1 - 1 ≤ mx g 0)) := by
        unfold span_Run_near.f
        rw [show wrap64 (wrap64 (c[i] - r.f1) - 1) = c[i] - r.f1 - 1 by unfold wrap64; omega]
      rw [e1, if_pos (by omega), if_pos (by omega), if_pos (by rw [List.length_append, List.length_singleton]; omega), e2, e3, Option.bind_some, runStep_last]
      by_cases hn : c[i] - r.f1 - 1 ≤ mx g 0
      · rw [decide_eq_true hn, if_pos rfl, if_pos hn, ← ih k (i + 1) (o ++ [(⟨r.f0, c[i]⟩ : Rn)]) (by omega) (by omega) (by simp; omega) ?_ ?_]
        · rw [Int.toNat_natCast]; exact congrArg (fun z => span_Runs.l0 k g z c (c.length : Int) ((i + 1 : Nat) : Int)) (set_last o r _)
        · intro s hs
          rcases List.mem_append.mp hs with hs | hs
          · exact hb s (by simp [hs])
          · obtain rfl := List.mem_singleton.mp hs; exact pb
        · intro s hs x hx
          rcases List.mem_append.mp hs with hs | hs
          · exact hr s (by simp [hs]) x (by rw [ed]; exact List.mem_cons_of_mem _ hx)
          · obtain rfl := List.mem_singleton.mp hs; exact hup x hx
      · rw [decide_eq_false hn, if_neg (by decide), if_neg hn, if_pos (by rw [List.length_append, List.length_singleton]; omega), ← ih k (i + 1) (o ++ [r] ++ [(⟨c[i], c[i]⟩ : Rn)]) (by omega) (by omega) (by simp; omega) ?_ ?_]
        · intro s hs
          rcases List.mem_append.mp hs with hs | hs
          · exact hb s hs
          · obtain rfl := List.mem_singleton.mp hs; exact pb
        · intro s hs x hx
          rcases List.mem_append.mp hs with hs | hs
          · exact hr s hs x (by rw [ed]; exact List.mem_cons_of_mem _ hx)
          · obtain rfl := List.mem_singleton.mp hs; exact hup x hx
theorem runsOf_step (g : Int) (out : List Rn) (done : List Int) (p : Int) (h : RunsOf (·.f0) (·.f1) out done) (hp : ∀ x ∈ done, x < p) : RunsOf (·.f0) (·.f1) (runStep g out p) (done ++ [p]) := by
  rcases List.eq_nil_or_concat out with rfl | ⟨o, r, rfl⟩
  · rw [runStep_nil]; exact RunsOf.more _ _ h hp rfl rfl
  · rw [List.concat_eq_append] at *
    rw [runStep_last]
    split
    · exact RunsOf.wide _ _ h hp rfl rfl
    · exact RunsOf.more _ _ h hp rfl rfl
theorem runsOf_fold (g : Int) : ∀ (c : List Int) (out : List Rn) (done : List Int), (done ++ c).Pairwise (· < ·) → RunsOf (·.f0) (·.f1) out done → RunsOf (·.f0) (·.f1) (c.foldl (runStep g) out) (done ++ c)
  | [], out, done, _, h => by rw [List.append_nil]; exact h
  | p :: c, out, done, hu, h => by
    rw [List.foldl_cons, show done ++ p :: c = (done ++ [p]) ++ c by simp]
    refine runsOf_fold g c _ _ (by simpa using hu) (runsOf_step g out done p h ?_)
    intro x hx
    exact (List.pairwise_append.mp hu).2.2 x hx p (by simp)
def runsL (l : List Int) (g : Int) : List Rn := (upL l).foldl (runStep (mx g 0)) []
theorem runsL_of (l : List Int) (g : Int) : RunsOf (·.f0) (·.f1) (runsL l g) (upL l) := by
  have := runsOf_fold (mx g 0) (upL l) [] [] (by simpa using upL_up l) (RunsOf.nil _ _)
  simpa [runsL] using this
theorem upL_len (l : List Int) : (upL l).length ≤ l.length := by
  unfold upL
  refine Nat.le_trans (compact_length_le _) ?_
  rw [List.length_mergeSort]
  exact List.length_filter_le _ _
theorem foldl_len (g : Int) : ∀ (c : List Int) (out : List Rn), (c.foldl (runStep g) out).length ≤ out.length + c.length
  | [], out => by simp
  | p :: c, out => by
    rw [List.foldl_cons, List.length_cons]
    refine Nat.le_trans (foldl_len g c _) ?_
    have : (runStep g out p).length ≤ out.length + 1 := by
      rcases List.eq_nil_or_concat out with rfl | ⟨o, r, rfl⟩
      · rw [runStep_nil]; simp
      · rw [List.concat_eq_append, runStep_last]; split <;> simp
    omega
theorem runsL_len (l : List Int) (g : Int) : (runsL l g).length ≤ l.length := by
  have := foldl_len (mx g 0) (upL l) []
  have := upL_len l
  simp only [runsL, List.length_nil] at *
  omega
theorem runs_is (l : List Int) (g : Int) (hl : l.length ≤ 500) (hw : ∀ z ∈ l, z < 9223372036854775808) (k : Nat) (hk : 500 < k) : span_Runs.f k l g = some (runsL l g) := by
  have hn : (upL l).length ≤ l.length := upL_len l
  have h1 : slices_Clone_int.f l = some l := by unfold slices_Clone_int.f; rw [if_pos (by omega)]
  have h3 : slices_Sort_int.f (l.filter fun x => !decide (x < 0)) = some ((l.filter fun x => !decide (x < 0)).mergeSort fun x y => decide (x ≤ y)) := by
    unfold slices_Sort_int.f; rw [if_pos (by have := List.length_filter_le (fun x : Int => !decide (x < 0)) l; omega)]
  unfold span_Runs.f
  rw [h1, Option.bind_some, slices_DeleteFunc_neg.f, Option.bind_some, h3, Option.bind_some, slices_Compact_int.f, Option.bind_some]
  have := runs_loop g (upL l) (fun x hx => by have h := (upL_mem l x).mp hx; exact ⟨h.2, hw x h.1⟩) (by omega) (upL_up l) (upL l).length k 0 [] (by omega) (by omega) (by simp) (by intro r hr; cases hr) (by intro r hr; cases hr)
  simpa [runsL, upL] using this
end Go.Proofs.Ytbepdhndnhoelaa.SpanP
