/- SpanParts: each range of an object's bytes is that part of its pages, which its runs have. No condition. -/
import Derived.Test.YtbepdhndnhoelaaX20
import Derived.Test.YtbepdhndnhoelaaSpanLive
import Derived.Test.YtbepdhndnhoelaaWf
namespace Go.Proofs.Ytbepdhndnhoelaa.True_
open Go Go.RowKit Go.Proofs.Ytbepdhndnhoelaa.X Go.Proofs.Ytbepdhndnhoelaa.SpanLive Go.Proofs.YtbepdhndnhoelaaW.PrintWords Go.Proofs.YtbepdhndnhoelaaW.PrintLast Go.Proofs.YtbepdhndnhoelaaW.PrintMore
set_option linter.unusedVariables false
set_option linter.unusedSimpArgs false
/-- n pieces of 192 numbers at most. -/
def cutP : Nat → List Int → List (List Int)
  | 0, _ => []
  | n + 1, l => l.take 192 :: cutP n (l.drop 192)
theorem cutP_len : ∀ n l, (cutP n l).length = n
  | 0, _ => rfl
  | n + 1, l => by rw [cutP, List.length_cons, cutP_len n]
theorem cutP_flat : ∀ n l, (cutP n l).flatten = l.take (192 * n)
  | 0, l => by simp [cutP]
  | n + 1, l => by
    rw [cutP, List.flatten_cons, cutP_flat n, show 192 * (n + 1) = 192 + 192 * n by omega, List.take_add]
theorem cutP_take : ∀ n j l, j ≤ n → (cutP n l).take j = cutP j l
  | n, 0, l, _ => by simp [cutP]
  | 0, j + 1, l, h => by omega
  | n + 1, j + 1, l, h => by rw [cutP, List.take_succ_cons, cutP_take n j _ (by omega), cutP]
theorem cutP_drop : ∀ n i l, i ≤ n → (cutP n l).drop i = cutP (n - i) (l.drop (192 * i))
  | n, 0, l, _ => by simp
  | 0, i + 1, l, h => by omega
  | n + 1, i + 1, l, h => by
    rw [cutP, List.drop_succ_cons, cutP_drop n i _ (by omega), List.drop_drop, show 192 + 192 * i = 192 * (i + 1) by omega, show n + 1 - (i + 1) = n - i by omega]
theorem part_loop (d : Nat) : ∀ (k i n : Nat) (x : List Int) (acc : List (List Int)), i + d = n → n ≤ 100 → d < k → x.length ≤ 2000 → acc.length ≤ 100 + i → span_Cut.l0 k x acc (n : Int) (i : Int) = some (acc ++ cutP d x) := by
  induction d with
  | zero =>
    intro k i n x acc h hn hk hx ha
    obtain ⟨k, rfl⟩ : ∃ m, k = m + 1 := ⟨k - 1, by omega⟩
    rw [span_Cut.l0, if_neg (by omega)]; simp [cutP]
  | succ d ih =>
    intro k i n x acc h hn hk hx ha
    obtain ⟨k, rfl⟩ : ∃ m, k = m + 1 := ⟨k - 1, by omega⟩
    obtain ⟨m, hm⟩ : ∃ m : Nat, mn (x.length : Int) 192 = (m : Int) ∧ m ≤ x.length ∧ (m = 192 ∨ m = x.length ∧ m ≤ 192) := by
      by_cases h : x.length ≤ 192
      · exact ⟨x.length, by unfold mn; split <;> omega, by omega, by omega⟩
      · exact ⟨192, by unfold mn; split <;> omega, by omega, by omega⟩
    obtain ⟨e, h1, h2⟩ := hm
    have et : x.take m = x.take 192 := by
      rcases h2 with rfl | ⟨rfl, h2⟩
      · rfl
      · rw [List.take_of_length_le (Nat.le_refl _), List.take_of_length_le h2]
    have ed : x.drop m = x.drop 192 := by
      rcases h2 with rfl | ⟨rfl, h2⟩
      · rfl
      · rw [List.drop_eq_nil_of_le (Nat.le_refl _), List.drop_eq_nil_of_le h2]
    rw [span_Cut.l0, e, if_pos (by omega), if_pos (by omega), if_pos (by omega), Int.toNat_natCast, et, ed]
    unfold slices_Clone_byte.f
    rw [if_pos (by rw [List.length_take]; omega), Option.bind_some, if_pos (by omega), show wrap64 ((i : Int) + 1) = ((i + 1 : Nat) : Int) by unfold wrap64; omega,
      ih k (i + 1) n _ _ (by omega) hn (by omega) (by rw [List.length_drop]; omega) (by rw [List.length_append]; simp; omega), cutP, List.append_assoc]; rfl
theorem cut_is (k N : Nat) (x : List Int) (hN : N < 100) (hk : 200 < k) (hx : x.length ≤ 2000) : span_Cut.f k 0 (N : Int) x = some (cutP (N + 1) x) := by
  obtain ⟨k, rfl⟩ : ∃ m, k = m + 1 := ⟨k - 1, by omega⟩
  unfold span_Cut.f
  rw [if_neg (by omega), if_neg (by omega), decide_eq_false (by omega), span_Cut.j0, if_neg (by decide), show wrap64 (wrap64 ((N : Int) - 0) + 1) = ((N + 1 : Nat) : Int) by unfold wrap64; omega]
  have := part_loop (N + 1) k 0 (N + 1) x [] (by omega) (by omega) (by omega) hx (by simp)
  simpa using this
theorem pages_in (a b : Int) (h : 0 ≤ a ∧ 1 ≤ b ∧ a ≤ 1048576 ∧ b ≤ 1048576 - a) : span_Pages.f a b = some (a / 192, (a + b - 1) / 192, true) := by
  unfold span_Pages.f
  rw [if_neg (by omega), if_neg (by omega), if_neg (by omega), show wrap64 (1048576 - a) = 1048576 - a by unfold wrap64; omega, if_neg (by omega)]
  rw [Int.tdiv_eq_ediv_of_nonneg (by omega), show wrap64 (wrap64 (a + b) - 1) = a + b - 1 by unfold wrap64; omega, Int.tdiv_eq_ediv_of_nonneg (by omega), show wrap64 (a / 192) = a / 192 by unfold wrap64; omega, show wrap64 ((a + b - 1) / 192) = (a + b - 1) / 192 by unfold wrap64; omega]
theorem pages_out (a b : Int) (a0 : -9223372036854775808 ≤ a) (h : ¬ (0 ≤ a ∧ 1 ≤ b ∧ a ≤ 1048576 ∧ b ≤ 1048576 - a)) : span_Pages.f a b = some (0, 0, false) := by
  unfold span_Pages.f
  split
  · rfl
  split
  · rfl
  split
  · rfl
  rw [if_pos (by unfold wrap64; omega)]
theorem whole_is (k n : Nat) (h0 : 1 ≤ n) (h1 : n ≤ 2000) : span_Bytes.f (k + 1) 0 (((n - 1) / 192 : Nat) : Int) (n : Int) = some (0, (n : Int), true) := by
  unfold span_Bytes.f
  have q1 : wrap64 (Int.tdiv (wrap64 ((n : Int) - 1)) 192) = (((n - 1) / 192 : Nat) : Int) := by
    rw [show wrap64 ((n : Int) - 1) = ((n - 1 : Nat) : Int) by unfold wrap64; omega, Int.tdiv_eq_ediv_of_nonneg (by omega)]; unfold wrap64; omega
  have q2 : wrap64 (Int.tdiv (n : Int) 192) = ((n / 192 : Nat) : Int) := by
    rw [Int.tdiv_eq_ediv_of_nonneg (by omega)]; unfold wrap64; omega
  rw [if_neg (by omega), if_neg (by omega), if_neg (by omega), if_neg (by omega), q1, decide_eq_false (by omega), span_Bytes.j0, if_neg (show ¬ (false = true) by decide), q2, show wrap64 (0 * 192) = 0 by decide +kernel]
  by_cases h : (n - 1) / 192 < n / 192
  · rw [if_pos (by omega), show wrap64 (wrap64 (wrap64 ((((n - 1) / 192 : Nat) : Int) + 1) * 192) - 0) = (n : Int) by unfold wrap64; omega]
  · rw [if_neg (by omega), show wrap64 ((n : Int) - 0) = (n : Int) by unfold wrap64; omega]
theorem flat_all (x : List Int) (N : Nat) (h : x.length ≤ 192 * N) : (cutP N x).flatten = x := by
  rw [cutP_flat, List.take_of_length_le h]
/-- What is no range of the object is no part of it. -/
theorem part_out (x : List Int) (a b : Int) (N : Nat) (hx : x.length ≤ 2000) (hN : x.length ≤ 192 * N) (a0 : a < 9223372036854775808) : ∃ l t, span_Part.f a b 0 (cutP N x) = some (l, t) ∧ (t = true → 0 ≤ a ∧ 0 ≤ b ∧ a ≤ (x.length : Int) ∧ b ≤ (x.length : Int) - a) := by
  unfold span_Part.f
  by_cases h : a < 0 ∨ b < 0 ∨ (0 : Int) < 0 ∨ (0 : Int) > 1048576
  · exact ⟨_, _, if_pos h, by intro h; cases h⟩
  · rw [if_neg h]
    unfold slices_Concat_byte.f
    rw [flat_all x N hN, if_pos (by omega), Option.bind_some, show wrap64 (0 * 192) = 0 by decide +kernel, show wrap64 (a - 0) = a by unfold wrap64; omega]
    by_cases h2 : a < 0 ∨ a > (x.length : Int) ∨ b > wrap64 ((x.length : Int) - a)
    · exact ⟨_, _, if_pos h2, by intro h; cases h⟩
    · refine ⟨_, _, if_neg h2, fun _ => ?_⟩
      have h3 : ¬ a < 0 := fun h9 => h2 (Or.inl h9)
      have h4 : ¬ a > (x.length : Int) := fun h9 => h2 (Or.inr (Or.inl h9))
      have h5 : ¬ b > wrap64 ((x.length : Int) - a) := fun h9 => h2 (Or.inr (Or.inr h9))
      rw [show wrap64 ((x.length : Int) - a) = (x.length : Int) - a by unfold wrap64; omega] at h5
      omega
/-- A range of the object is that part. -/
theorem part_in (x : List Int) (a b N : Nat) (hx : x.length ≤ 2000) (hb : 1 ≤ b) (hab : a + b ≤ x.length) (hN : (a + b - 1) / 192 + 1 ≤ N) : span_Part.f (a : Int) (b : Int) ((a / 192 : Nat) : Int) (((cutP N x).take ((a + b - 1) / 192 + 1)).drop (a / 192)) = some ((x.take (a + b)).drop a, true) := by
  have hflat : (((cutP N x).take ((a + b - 1) / 192 + 1)).drop (a / 192)).flatten = (x.drop (192 * (a / 192))).take (192 * ((a + b - 1) / 192 + 1 - a / 192)) := by
    rw [cutP_take _ _ _ hN, cutP_drop _ _ _ (by omega), cutP_flat]
  have hl : ((x.drop (192 * (a / 192))).take (192 * ((a + b - 1) / 192 + 1 - a / 192))).length ≤ 2000 ∧ a + b - 192 * (a / 192) ≤ ((x.drop (192 * (a / 192))).take (192 * ((a + b - 1) / 192 + 1 - a / 192))).length := by
    rw [List.length_take, List.length_drop]; omega
  unfold span_Part.f
  rw [if_neg (by omega)]
  unfold slices_Concat_byte.f
  rw [hflat]
  obtain ⟨L, hL⟩ : ∃ L, (x.drop (192 * (a / 192))).take (192 * ((a + b - 1) / 192 + 1 - a / 192)) = L := ⟨_, rfl⟩
  rw [hL] at hl ⊢
  rw [if_pos (by omega), Option.bind_some, show wrap64 (((a / 192 : Nat) : Int) * 192) = ((192 * (a / 192) : Nat) : Int) by unfold wrap64; omega, show wrap64 ((a : Int) - ((192 * (a / 192) : Nat) : Int)) = ((a - 192 * (a / 192) : Nat) : Int) by unfold wrap64; omega,
    show wrap64 ((L.length : Int) - ((a - 192 * (a / 192) : Nat) : Int)) = (L.length : Int) - ((a - 192 * (a / 192) : Nat) : Int) by unfold wrap64; omega, if_neg (by omega), Int.toNat_natCast, Int.toNat_natCast, ← hL, List.take_take, show min (a - 192 * (a / 192) + b) (192 * ((a + b - 1) / 192 + 1 - a / 192)) = a - 192 * (a / 192) + b by omega,
    List.drop_take, List.drop_drop, List.drop_take, show 192 * (a / 192) + (a - 192 * (a / 192)) = a by omega, show a - 192 * (a / 192) + b - (a - 192 * (a / 192)) = a + b - a by omega]
theorem SpanParts : ∀ (x0 : List Int) (x1 : Int) (x2 : Int), (x0.length ≤ maxLen ∧ ∀ z ∈ x0, (Lit.int .u8 z).wf = true) → (Lit.int .i64 x1).wf = true → (Lit.int .i64 x2).wf = true → ∃ k, firkinlaw26_SpanParts.f k x0 x1 x2 = some true := by
  intro x0 x1 x2 h0 h1 h2
  obtain ⟨a0, a1⟩ := Wf.i64 h1
  obtain ⟨b0, b1⟩ := Wf.i64 h2
  have lv : ∀ k, 100 ≤ k → ((firkinlaw26_live.f k).bind fun t => some t) = some true := fun k hk => by rw [live_at k hk]; rfl
  refine ⟨1000, ?_⟩
  have ht : ∀ b, b = true → firkinlaw26_SpanParts.j0 1000 x0 x1 x2 b = some true := by
    rintro b rfl
    rw [firkinlaw26_SpanParts.j0, if_pos rfl]; exact lv _ (by decide)
  unfold firkinlaw26_SpanParts.f
  by_cases hl : (x0.length : Int) > 1500
  · rw [if_pos hl]; exact ht _ rfl
  rw [if_neg hl]
  by_cases hz : x0.length = 0
  · exact ht _ (by rw [hz]; rfl)
  rw [show ((x0.length : Int) == 0) = false from beq_eq_false_iff_ne.mpr (by omega), firkinlaw26_SpanParts.j0, if_neg (by decide), pages_in 0 (x0.length : Int) (by omega), Option.bind_some]
  have eN : ((0 : Int) + (x0.length : Int) - 1) / 192 = (((x0.length - 1) / 192 : Nat) : Int) := by omega
  simp only [eN, show (0 : Int) / 192 = 0 from rfl]
  rw [whole_is 998 x0.length (by omega) (by omega), Option.bind_some]
  simp only [if_true]
  rw [show ((x0.length : Int) != (x0.length : Int)) = false by simp, firkinlaw26_SpanParts.j1, if_neg (by decide), cut_is 998 _ x0 (by omega) (by omega) (by omega), Option.bind_some, cutP_len, if_pos (by unfold wrap64; omega)]
  have j2t : ∀ b p q, b = true → ¬ (0 ≤ x1 ∧ 1 ≤ x2 ∧ x1 ≤ (x0.length : Int) ∧ x2 ≤ (x0.length : Int) - x1) → firkinlaw26_SpanParts.j2 998 x0 x1 x2 (cutP ((x0.length - 1) / 192 + 1) x0) b p q = some true := by
    rintro b p q rfl hn
    obtain ⟨l, t, e, ht⟩ := part_out x0 x1 x2 ((x0.length - 1) / 192 + 1) (by omega) (by omega) a1
    rw [firkinlaw26_SpanParts.j2, if_pos rfl, e, Option.bind_some]
    simp only
    by_cases g1 : x2 = 0
    · rw [if_pos g1]
      by_cases g2 : x1 ≥ 0
      · rw [if_pos g2]
        by_cases g3 : x1 ≤ (x0.length : Int)
        · rw [if_pos g3]; exact lv _ (by decide)
        · rw [if_neg g3, if_neg (fun h9 => g3 (ht h9).2.2.1)]; exact lv _ (by decide)
      · rw [if_neg g2, if_neg (fun h9 => g2 (ht h9).1)]; exact lv _ (by decide)
    · rw [if_neg g1, if_neg (fun h9 => hn (by have := ht h9; omega))]; exact lv _ (by decide)
  by_cases hp : 0 ≤ x1 ∧ 1 ≤ x2 ∧ x1 ≤ 1048576 ∧ x2 ≤ 1048576 - x1
  · rw [pages_in x1 x2 hp, Option.bind_some]
    simp only [if_true]
    by_cases g1 : x1 > (x0.length : Int)
    · rw [if_pos g1]; exact j2t _ _ _ rfl (by omega)
    · rw [if_neg g1, show wrap64 ((x0.length : Int) - x1) = (x0.length : Int) - x1 by unfold wrap64; omega]
      by_cases g2 : x2 > (x0.length : Int) - x1
      · exact j2t _ _ _ (decide_eq_true g2) (by omega)
      · obtain ⟨a, rfl⟩ : ∃ a : Nat, x1 = (a : Int) := ⟨x1.toNat, by omega⟩
        obtain ⟨b, rfl⟩ : ∃ b : Nat, x2 = (b : Int) := ⟨x2.toNat, by omega⟩
        have p1 : (0 : Int) ≤ ((a / 192 : Nat) : Int) := Int.natCast_nonneg _
        have p2 : ((a / 192 : Nat) : Int) ≤ (((a + b - 1) / 192 + 1 : Nat) : Int) := by omega
        have p3 : (((a + b - 1) / 192 + 1 : Nat) : Int) ≤ (((x0.length - 1) / 192 + 1 : Nat) : Int) := by omega
        have p4 : (0 : Int) ≤ (a : Int) := Int.natCast_nonneg _
        have p5 : (a : Int) ≤ ((a + b : Nat) : Int) := by omega
        have p6 : ((a + b : Nat) : Int) ≤ (x0.length : Int) := by omega
        have p7 : 1 ≤ b := by omega
        have p8 : a + b ≤ x0.length := by omega
        have p9 : (a + b - 1) / 192 + 1 ≤ (x0.length - 1) / 192 + 1 := by omega
        have p0 : x0.length ≤ 2000 := by omega
        have e1 : (a : Int) / 192 = ((a / 192 : Nat) : Int) := by omega
        have e2 : ((a : Int) + (b : Int) - 1) / 192 = (((a + b - 1) / 192 : Nat) : Int) := by omega
        have e3 : wrap64 ((((a + b - 1) / 192 : Nat) : Int) + 1) = (((a + b - 1) / 192 + 1 : Nat) : Int) := by unfold wrap64; omega
        have e4 : wrap64 ((a : Int) + (b : Int)) = ((a + b : Nat) : Int) := by unfold wrap64; omega
        rw [decide_eq_false g2, e1, e2, firkinlaw26_SpanParts.j2, if_neg (show ¬ (false = true) by decide), if_pos p1, e3, if_pos p2, cutP_len, if_pos p3, Int.toNat_natCast, Int.toNat_natCast,
          part_in x0 a b _ p0 p7 p8 p9, Option.bind_some]
        simp only [if_true]
        rw [if_pos p4, e4, if_pos p5, if_pos p6, Int.toNat_natCast, Int.toNat_natCast]
        unfold firkinref01_Same.f
        rw [Option.bind_some, if_pos (by simp)]
        exact lv _ (by decide)
  · rw [pages_out x1 x2 a0 hp, Option.bind_some]
    simp only
    rw [if_neg (by decide)]
    exact j2t _ _ _ rfl (by omega)
end Go.Proofs.Ytbepdhndnhoelaa.True_
