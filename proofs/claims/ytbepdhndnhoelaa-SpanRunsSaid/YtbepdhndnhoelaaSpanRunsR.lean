/- firkinref26.Runs and Bytes, plain law: they are the program's. -/
import Derived.Test.YtbepdhndnhoelaaX14
import Derived.Test.YtbepdhndnhoelaaX15
import Derived.Test.YtbepdhndnhoelaaX15
import Derived.Test.YtbepdhndnhoelaaSpanRunsP
namespace Go.Proofs.Ytbepdhndnhoelaa.SpanP
open Go Go.RowKit Go.Lib Go.Proofs.Ytbepdhndnhoelaa.X Go.Proofs.YtbepdhndnhoelaaW.PrintWords Go.Proofs.YtbepdhndnhoelaaW.PrintLast Go.Proofs.YtbepdhndnhoelaaW.PrintMore
set_option linter.unusedVariables false
set_option linter.unusedSimpArgs false
/-- Rising lists of the same numbers are the same. -/
theorem up_same : ∀ a b : List Int, a.Pairwise (· < ·) → b.Pairwise (· < ·) → (∀ x, x ∈ a ↔ x ∈ b) → a = b
  | [], [], _, _, _ => rfl
  | [], y :: b, _, _, h => by have := (h y).mpr List.mem_cons_self; cases this
  | x :: a, [], _, _, h => by have := (h x).mp List.mem_cons_self; cases this
  | x :: a, y :: b, h1, h2, h => by
    obtain ⟨p1, q1⟩ := List.pairwise_cons.mp h1
    obtain ⟨p2, q2⟩ := List.pairwise_cons.mp h2
    have e : x = y := by
      rcases List.mem_cons.mp ((h x).mp List.mem_cons_self) with h3 | h3
      · exact h3
      · rcases List.mem_cons.mp ((h y).mpr List.mem_cons_self) with h4 | h4
        · exact h4.symm
        · have := p2 x h3; have := p1 y h4; omega
    subst e
    congr 1
    refine up_same a b q1 q2 (fun z => ?_)
    constructor
    · intro hz
      rcases List.mem_cons.mp ((h z).mp (List.mem_cons_of_mem _ hz)) with h5 | h5
      · have := p1 z hz; omega
      · exact h5
    · intro hz
      rcases List.mem_cons.mp ((h z).mpr (List.mem_cons_of_mem _ hz)) with h5 | h5
      · have := p2 z hz; omega
      · exact h5
theorem insPos_spec : ∀ (l : List Int) (x : Int), insPos l x ≤ l.length ∧ (∀ y ∈ l.take (insPos l x), y < x) ∧ (∀ h : insPos l x < l.length, ¬ l[insPos l x] < x)
  | [], x => ⟨Nat.le_refl _, by simp [insPos], by simp [insPos]⟩
  | y :: t, x => by
    obtain ⟨h1, h2, h3⟩ := insPos_spec t x
    by_cases h : y < x
    · have e : insPos (y :: t) x = insPos t x + 1 := by rw [insPos, if_pos h]
      refine ⟨by rw [e, List.length_cons]; omega, ?_, ?_⟩
      · rw [e, List.take_succ_cons]
        intro z hz
        rcases List.mem_cons.mp hz with rfl | hz
        · exact h
        · exact h2 z hz
      · intro hl
        have hl' : insPos t x < t.length := by rw [e, List.length_cons] at hl; omega
        have := h3 hl'
        simpa [e] using this
    · have e : insPos (y :: t) x = 0 := by rw [insPos, if_neg h]
      refine ⟨by rw [e]; omega, by rw [e]; simp, ?_⟩
      intro hl
      simpa [e] using h
theorem insS_up (out : List Int) (x : Int) (h : out.Pairwise (· < ·)) : (insS out x).Pairwise (· < ·) ∧ ∀ z, z ∈ insS out x ↔ z ∈ out ∨ (z = x ∧ 0 ≤ x) := by
  obtain ⟨h1, h2, h3⟩ := insPos_spec out x
  have hs : out = out.take (insPos out x) ++ out.drop (insPos out x) := (List.take_append_drop _ _).symm
  have hge : ∀ y ∈ out.drop (insPos out x), ¬ y < x := by
    intro y hy
    have hl : insPos out x < out.length := by
      rcases Nat.lt_or_ge (insPos out x) out.length with h9 | h9
      · exact h9
      · rw [List.drop_eq_nil_of_le h9] at hy; cases hy
    have h4 := h3 hl
    rw [List.drop_eq_getElem_cons hl] at hy
    rcases List.mem_cons.mp hy with rfl | hy
    · exact h4
    · have h5 := h
      rw [hs, List.drop_eq_getElem_cons hl] at h5
      have h6 := (List.pairwise_cons.mp (List.pairwise_append.mp h5).2.1).1 y hy
      omega
  unfold insS
  by_cases hc : 0 ≤ x ∧ (insPos out x = out.length ∨ rd out (insPos out x : Int) ≠ x)
  · rw [if_pos hc]
    have hne : ∀ y ∈ out.drop (insPos out x), x < y := by
      intro y hy
      have hl : insPos out x < out.length := by
        rcases Nat.lt_or_ge (insPos out x) out.length with h9 | h9
        · exact h9
        · rw [List.drop_eq_nil_of_le h9] at hy; cases hy
      have h4 := h3 hl
      have hn : out[insPos out x] ≠ x := by
        rcases hc.2 with h9 | h9
        · omega
        · simpa [rd, hl] using h9
      rw [List.drop_eq_getElem_cons hl] at hy
      rcases List.mem_cons.mp hy with rfl | hy
      · omega
      · have h5 := h
        rw [hs, List.drop_eq_getElem_cons hl] at h5
        have h6 := (List.pairwise_cons.mp (List.pairwise_append.mp h5).2.1).1 y hy
        omega
    constructor
    · rw [List.append_assoc, List.pairwise_append]
      refine ⟨h.sublist (List.take_sublist _ _), ?_, ?_⟩
      · rw [List.singleton_append, List.pairwise_cons]
        exact ⟨hne, h.sublist (List.drop_sublist _ _)⟩
      · intro a ha b hb
        rw [List.singleton_append] at hb
        rcases List.mem_cons.mp hb with rfl | hb
        · exact h2 a ha
        · have := h2 a ha; have := hne b hb; omega
    · intro z
      have e : z ∈ out ↔ z ∈ out.take (insPos out x) ∨ z ∈ out.drop (insPos out x) := by
        constructor
        · intro hz; rw [hs] at hz; exact List.mem_append.mp hz
        · rintro (hz | hz)
          · exact List.mem_of_mem_take hz
          · exact List.mem_of_mem_drop hz
      rw [List.mem_append, List.mem_append, List.mem_singleton, e]
      constructor
      · rintro ((hz | rfl) | hz)
        · exact Or.inl (Or.inl hz)
        · exact Or.inr ⟨rfl, hc.1⟩
        · exact Or.inl (Or.inr hz)
      · rintro ((hz | hz) | hz)
        · exact Or.inl (Or.inl hz)
        · exact Or.inr hz
        · exact Or.inl (Or.inr hz.1)
  · rw [if_neg hc]
    refine ⟨h, fun z => ⟨Or.inl, ?_⟩⟩
    rintro (hz | ⟨rfl, h0⟩)
    · exact hz
    · have h5 : ¬ (insPos out z = out.length ∨ rd out (insPos out z : Int) ≠ z) := fun h9 => hc ⟨h0, h9⟩
      rw [not_or] at h5
      have hl : insPos out z < out.length := by omega
      have h6 : rd out (insPos out z : Int) = z := Classical.byContradiction (fun h9 => h5.2 h9)
      have h7 : out[insPos out z] = z := by simpa [rd, hl] using h6
      rw [← h7]
      exact List.getElem_mem hl
theorem foldl_ins : ∀ (l out : List Int), out.Pairwise (· < ·) → (l.foldl insS out).Pairwise (· < ·) ∧ ∀ z, z ∈ l.foldl insS out ↔ z ∈ out ∨ (z ∈ l ∧ 0 ≤ z)
  | [], out, h => ⟨h, fun z => by simp⟩
  | x :: l, out, h => by
    obtain ⟨h1, h2⟩ := insS_up out x h
    obtain ⟨h3, h4⟩ := foldl_ins l _ h1
    refine ⟨h3, fun z => ?_⟩
    rw [List.foldl_cons, h4, h2, List.mem_cons]
    constructor
    · rintro ((hz | ⟨rfl, hz⟩) | ⟨hz, h0⟩)
      · exact Or.inl hz
      · exact Or.inr ⟨Or.inl rfl, hz⟩
      · exact Or.inr ⟨Or.inr hz, h0⟩
    · rintro (hz | ⟨rfl | hz, h0⟩)
      · exact Or.inl (Or.inl hz)
      · exact Or.inl (Or.inr ⟨rfl, h0⟩)
      · exact Or.inr ⟨hz, h0⟩
theorem sorted_is (l : List Int) (h : l.length < 100000) : firkinref26_sorted.f l = some (upL l) := by
  unfold firkinref26_sorted.f
  rw [if_pos h]
  obtain ⟨h1, h2⟩ := foldl_ins l [] List.Pairwise.nil
  congr 1
  refine up_same _ _ h1 (upL_up l) (fun z => ?_)
  rw [h2, upL_mem]
  simp
abbrev RRn := S33
def toR (r : Rn) : RRn := ⟨r.f0, r.f1⟩
theorem rset_last (o : List RRn) (r q : RRn) : (o ++ [r]).set o.length q = o ++ [q] := by
  rw [List.set_append_right _ _ (Nat.le_refl _)]; simp
theorem rruns_loop (g : Int) (c : List Int) (hc : ∀ x ∈ c, 0 ≤ x ∧ x < 9223372036854775808) (hl : c.length ≤ 1000) (up : c.Pairwise (· < ·)) :
    ∀ (d k i : Nat) (out : List Rn), i + d = c.length → d < k → out.length ≤ i → (0 < i → ∃ o r, out = o ++ [r] ∧ r.f1 = rd c ((i - 1 : Nat) : Int)) → (i = 0 → out = []) → firkinref26_Runs.l0 k g c (out.map toR) (i : Int) = some (((c.drop i).foldl (runStep (mx g 0)) out).map toR) := by
  intro d
  induction d with
  | zero =>
    intro k i out h hk ho hb h0
    obtain ⟨k, rfl⟩ : ∃ m, k = m + 1 := ⟨k - 1, by omega⟩
    rw [firkinref26_Runs.l0, if_neg (by omega), List.drop_eq_nil_of_le (by omega)]; rfl
  | succ d ih =>
    intro k i out h hk ho hb h0
    obtain ⟨k, rfl⟩ : ∃ m, k = m + 1 := ⟨k - 1, by omega⟩
    have hi : i < c.length := by omega
    have ep : rd c (i : Int) = c[i] := by unfold rd; simp [hi]
    have ew : wrap64 ((i : Int) + 1) = ((i + 1 : Nat) : Int) := by unfold wrap64; omega
    have ed : c.drop i = c[i] :: c.drop (i + 1) := List.drop_eq_getElem_cons hi
    have pb := hc _ (List.getElem_mem hi)
    rw [ed, List.foldl_cons, firkinref26_Runs.l0, if_pos (by omega), ep, ew]
    by_cases hi0 : 0 < i
    · obtain ⟨o, r, rfl, hr1⟩ := hb hi0
      have e1 : wrap64 ((((o ++ [r]).map toR).length : Int) - 1) = (o.length : Int) := by rw [List.length_map, List.length_append, List.length_singleton]; rw [List.length_append, List.length_singleton] at ho; unfold wrap64; omega
      have e2 : rd_T33 ((o ++ [r]).map toR) (o.length : Int) = toR r := by unfold rd_T33; simp
      have e3 : wrap64 ((i : Int) - 1) = ((i - 1 : Nat) : Int) := by unfold wrap64; omega
      have e4 : rd c ((i - 1 : Nat) : Int) = c[i - 1] := by unfold rd; rw [Int.toNat_natCast, List.getD_eq_getElem?_getD, List.getElem?_eq_getElem (by omega)]; rfl
      have lt : c[i - 1] < c[i] := List.pairwise_iff_getElem.mp up (i - 1) i (by omega) hi (by omega)
      have pb1 := hc _ (List.getElem_mem (show i - 1 < c.length by omega))
      have e5 : wrap64 (wrap64 (c[i] - c[i - 1]) - 1) = c[i] - r.f1 - 1 := by rw [hr1, e4]; unfold wrap64; omega
      rw [List.length_append, List.length_singleton] at ho
      rw [if_pos (by omega), if_pos (by omega), e3, if_pos (by omega), if_pos (by omega), e4, e5, e1, runStep_last, e2]
      by_cases hn : c[i] - r.f1 - 1 ≤ mx g 0
      · rw [if_pos hn, if_pos hn, if_pos (by omega), if_pos (by rw [List.length_map, List.length_append, List.length_singleton]; omega), ← ih k (i + 1) (o ++ [(⟨r.f0, c[i]⟩ : Rn)]) (by omega) (by omega) (by simp; omega) (fun _ => ⟨o, _, rfl, ep.symm⟩) (by omega)]
        rw [Int.toNat_natCast, List.map_append, List.map_append]
        have := rset_last (o.map toR) (toR r) ⟨r.f0, c[i]⟩
        rw [List.length_map] at this
        exact congrArg (fun z => firkinref26_Runs.l0 k g c z ((i + 1 : Nat) : Int)) this
      · rw [if_neg hn, if_neg hn, if_pos (by rw [List.length_map, List.length_append, List.length_singleton]; omega), ← ih k (i + 1) (o ++ [r] ++ [(⟨c[i], c[i]⟩ : Rn)]) (by omega) (by omega) (by simp; omega) (fun _ => ⟨o ++ [r], _, rfl, ep.symm⟩) (by omega)]
        have e9 : (o ++ [r]).map toR ++ [(⟨c[i], c[i]⟩ : RRn)] = (o ++ [r] ++ [(⟨c[i], c[i]⟩ : Rn)]).map toR := by rw [List.map_append (l₁ := o ++ [r])]; rfl
        exact congrArg (fun z => firkinref26_Runs.l0 k g c z ((i + 1 : Nat) : Int)) e9
    · obtain rfl : i = 0 := by omega
      obtain rfl := h0 rfl
      rw [if_neg (by omega), if_pos (by omega), if_pos (by simp), runStep_nil, ← ih k (0 + 1) [(⟨c[0], c[0]⟩ : Rn)] (by omega) (by omega) (by simp) (fun _ => ⟨[], _, rfl, ep.symm⟩) (by omega)]; rfl
theorem rruns_is (l : List Int) (g : Int) (hl : l.length ≤ 500) (hw : ∀ z ∈ l, z < 9223372036854775808) (k : Nat) (hk : 500 < k) : firkinref26_Runs.f k l g = some ((runsL l g).map toR) := by
  have hn : (upL l).length ≤ l.length := upL_len l
  unfold firkinref26_Runs.f
  rw [sorted_is l (by omega), Option.bind_some]
  have := rruns_loop g (upL l) (fun x hx => by have h := (upL_mem l x).mp hx; exact ⟨h.2, hw x h.1⟩) (by omega) (upL_up l) (upL l).length k 0 [] (by omega) (by omega) (by simp) (by omega) (fun _ => rfl)
  simpa [runsL] using this
theorem tdiv_nn (a : Int) (h : 0 ≤ a) : Int.tdiv a 192 = a / 192 := Int.tdiv_eq_ediv_of_nonneg h
/-- The bytes of a run: both are one. -/
theorem bytes_same (k : Nat) (a b n : Int) (a0 : -9223372036854775808 ≤ a) (a1 : a < 9223372036854775808) (b0 : -9223372036854775808 ≤ b) (b1 : b < 9223372036854775808) (n0 : -9223372036854775808 ≤ n) : ∃ r, span_Bytes.f (k + 1) a b n = some r ∧ firkinref26_Bytes.f (k + 1) a b n = some r := by
  have hj : ∀ t, t = true → span_Bytes.j0 (k + 1) n t a b = some (0, 0, false) := by rintro t rfl; rw [span_Bytes.j0, if_pos rfl]
  have hr : ∀ t, t = true → firkinref26_Bytes.j0 (k + 1) n t a b = some (0, 0, false) := by rintro t rfl; rw [firkinref26_Bytes.j0, if_pos rfl]
  unfold span_Bytes.f firkinref26_Bytes.f
  by_cases h1 : a < 0
  · rw [if_pos h1, if_pos h1]; exact ⟨_, hj _ rfl, hr _ rfl⟩
  rw [if_neg h1, if_neg h1]
  by_cases h2 : b < a
  · rw [if_pos h2, if_pos h2]; exact ⟨_, hj _ rfl, hr _ rfl⟩
  rw [if_neg h2, if_neg h2]
  by_cases h3 : n > 1048576
  · rw [if_pos h3, if_pos h3]; exact ⟨_, hj _ rfl, hr _ rfl⟩
  rw [if_neg h3, if_neg h3]
  by_cases h4 : n < 1
  · refine ⟨_, by rw [if_pos h4]; exact hj _ rfl, ?_⟩
    by_cases h5 : a ≥ wrap64 (wrap64 (Int.tdiv n 192) + 1)
    · rw [if_pos h5]; exact hr _ rfl
    · rw [if_neg h5]
      refine hr _ ?_
      have h6 : Int.tdiv n 192 ≤ 0 := by
        have h7 : Int.tdiv n 192 = - ((-n) / 192) := by
          have := Int.neg_tdiv n 192
          rw [← tdiv_nn (-n) (by omega), this]; omega
        omega
      have h8 : -4611686018427387904 ≤ Int.tdiv n 192 := by
        have h7 : Int.tdiv n 192 = - ((-n) / 192) := by
          have := Int.neg_tdiv n 192
          rw [← tdiv_nn (-n) (by omega), this]; omega
        omega
      have h9 : a = 0 := by
        generalize Int.tdiv n 192 = q at *
        unfold wrap64 at h5; omega
      subst h9
      have : wrap64 (0 * 192) = 0 := by decide +kernel
      rw [this]; exact decide_eq_true (by omega)
  rw [if_neg h4]
  have q1 : wrap64 (Int.tdiv (wrap64 (n - 1)) 192) = (n - 1) / 192 := by
    rw [show wrap64 (n - 1) = n - 1 by unfold wrap64; omega, tdiv_nn _ (by omega)]; unfold wrap64; omega
  have q2 : wrap64 (Int.tdiv n 192) = n / 192 := by rw [tdiv_nn _ (by omega)]; unfold wrap64; omega
  have q3 : wrap64 (n / 192 + 1) = n / 192 + 1 := by unfold wrap64; omega
  rw [q1, q2, q3]
  by_cases h5 : a > (n - 1) / 192
  · refine ⟨_, hj _ (decide_eq_true h5), ?_⟩
    by_cases h6 : a ≥ n / 192 + 1
    · rw [if_pos h6]; exact hr _ rfl
    · rw [if_neg h6, show wrap64 (a * 192) = a * 192 by unfold wrap64; omega]
      exact hr _ (decide_eq_true (by omega))
  · have q4 : wrap64 (a * 192) = a * 192 := by unfold wrap64; omega
    rw [decide_eq_false h5, if_neg (by omega), q4, decide_eq_false (show ¬ a * 192 ≥ n by omega), span_Bytes.j0, firkinref26_Bytes.j0, if_neg (show ¬ (false = true) by decide), if_neg (show ¬ (false = true) by decide), q2, q4]
    have q5 : wrap64 (n - a * 192) = n - a * 192 := by unfold wrap64; omega
    have q6 : wrap64 (Int.tdiv (n - a * 192) 192) = n / 192 - a := by
      rw [tdiv_nn _ (by omega)]; unfold wrap64; omega
    have q7 : wrap64 (b - a) = b - a := by unfold wrap64; omega
    rw [q5, q6, q7]
    by_cases h7 : b < n / 192
    · have q8 : wrap64 (wrap64 (wrap64 (b + 1) * 192) - a * 192) = wrap64 (wrap64 (b - a + 1) * 192) := by unfold wrap64; omega
      exact ⟨_, if_pos h7, by rw [if_pos (by omega), q8]⟩
    · exact ⟨_, if_neg h7, by rw [if_neg (by omega)]⟩
end Go.Proofs.Ytbepdhndnhoelaa.SpanP
