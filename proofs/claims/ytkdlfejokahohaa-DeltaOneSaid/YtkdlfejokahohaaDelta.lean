/- Plain facts on layer 6 (delta): numbers as differences, written and read. -/
import Derived.Test.YtkdlfejokahohaaRound
import Derived.Test.YtkdlfejokahohaaX7
import Derived.Test.YtkdlfejokahohaaX8
import Derived.Laws.BitsAllLaws
namespace Go.Proofs.Ytkdlfejokahohaa.Delta
open Go.RowKit Go.Proofs.Ytkdlfejokahohaa.X Go.Proofs.Ytkdlfejokahohaa.Dec Go.Proofs.Ytkdlfejokahohaa.Enc Go.Proofs.Ytkdlfejokahohaa.Round Go.Proofs.YtkdlfejokahohaaW.PrintWords Go.Proofs.YtkdlfejokahohaaW.PrintLast Go.Proofs.YtkdlfejokahohaaW.PrintMore
set_option linter.unusedVariables false
set_option linter.unusedSimpArgs false
def I64 (x : Int) : Prop := -9223372036854775808 ≤ x ∧ x < 9223372036854775808
theorem i64_bounds {x : Int} (h : (Lit.int .i64 x).wf = true) : I64 x := by
  have h' : (decide ((-9223372036854775808 : Int) ≤ x) && decide (x ≤ 9223372036854775807)) = true := h
  rw [Bool.and_eq_true, decide_eq_true_eq, decide_eq_true_eq] at h'
  exact ⟨h'.1, by omega⟩
theorem wrap_i64 (x : Int) : I64 (wrap64 x) := by unfold I64 wrap64; omega
theorem back {x last : Int} (hx : I64 x) : wrap64 (last + wrap64 (x - last)) = x := by unfold I64 at hx; unfold wrap64; omega
theorem forth {d last : Int} (hd : I64 d) : wrap64 (wrap64 (last + d) - last) = d := by unfold I64 at hd; unfold wrap64; omega
/-- The bytes of the differences. -/
def dl : Int → List Int → List Int
  | _, [] => []
  | last, x :: l => enc (zig (wrap64 (x - last))) ++ dl x l
theorem enc_length (n : Nat) : (enc n).length = grp n := encL_length _ _
theorem enc_le {n : Nat} (h : n < 18446744073709551616) : (enc n).length ≤ 10 := by rw [enc_length]; exact grp_le h
theorem dl_le (l : List Int) : ∀ last, (dl last l).length ≤ 10 * l.length := by
  induction l with
  | nil => intro last; simp [dl]
  | cons x l ih =>
    intro last
    have h1 := ih x
    have hw := wrap_i64 (x - last)
    have h2 := enc_le (zig_lt hw.1 hw.2)
    rw [dl, List.length_append, List.length_cons]
    omega
theorem dl_bytes (l : List Int) : ∀ last, IsBytes (dl last l) := by
  induction l with
  | nil => intro last x hx; simp [dl] at hx
  | cons x l ih =>
    intro last y hy
    rw [dl] at hy
    rcases List.mem_append.mp hy with h | h
    · exact enc_bytes _ y h
    · exact ih x y h
theorem put_go (l : List Int) : ∀ last acc, acc.length + 10 * l.length < 140737488355328 → delta_Put.go l last acc = some (acc ++ dl last l) := by
  induction l with
  | nil => intro last acc h; rw [delta_Put.go, dl, List.append_nil]
  | cons x l ih =>
    intro last acc h
    have hw := wrap_i64 (x - last)
    have h2 := enc_le (zig_lt hw.1 hw.2)
    rw [List.length_cons] at h
    rw [delta_Put.go, int_is _ hw.1 hw.2 40 (by omega), Option.bind_some, if_pos (by omega), ih x _ (by rw [List.length_append]; omega), dl, List.append_assoc]
theorem put_is (l : List Int) (h : l.length < 1000000) : delta_Put.f l = some (dl 0 l) := by
  unfold delta_Put.f
  rw [put_go l 0 [] (by rw [List.length_nil]; omega), List.nil_append]
theorem rput_loop (l : List Int) (hl : l.length < 1000000) (d : Nat) : ∀ (k i : Nat) (acc : List Int) (last : Int), i + d = l.length → d + 13 < k → acc.length ≤ 10 * i →
    firkinref06_Put.l0 k l acc last (i : Int) = some (acc ++ dl last (l.drop i)) := by
  induction d with
  | zero =>
    intro k i acc last h1 h2 h3
    obtain ⟨k, rfl⟩ : ∃ m, k = m + 1 := ⟨k - 1, by omega⟩
    rw [firkinref06_Put.l0, if_neg (by omega), List.drop_eq_nil_of_le (by omega), dl, List.append_nil]
  | succ d ih =>
    intro k i acc last h1 h2 h3
    obtain ⟨k, rfl⟩ : ∃ m, k = m + 1 := ⟨k - 1, by omega⟩
    have hwi : wrap64 ((i : Int) + 1) = ((i + 1 : Nat) : Int) := by rw [w64 (by omega) (by omega)]; omega
    have hr : rd l (i : Int) = l.getD i 0 := rfl
    have hw := wrap_i64 (l.getD i 0 - last)
    have hel := enc_le (zig_lt hw.1 hw.2)
    have hlt : acc.length + (enc (zig (wrap64 (l.getD i 0 - last)))).length < 140737488355328 := by omega
    have hle : (acc ++ enc (zig (wrap64 (l.getD i 0 - last)))).length ≤ 10 * (i + 1) := by rw [List.length_append]; omega
    rw [firkinref06_Put.l0, if_pos (by omega), if_pos (by omega), hr, rint_is _ hw.1 hw.2 k (by omega), Option.bind_some, if_pos hlt, hwi,
      ih k (i + 1) _ _ (by omega) (by omega) hle, drop_get (show i < l.length by omega), dl, List.append_assoc]
theorem rput_is (l : List Int) (hl : l.length < 1000000) (k : Nat) (hk : l.length + 13 < k) : firkinref06_Put.f k l = some (dl 0 l) := by
  unfold firkinref06_Put.f
  have := rput_loop l hl l.length k 0 [] 0 (by omega) hk (by simp)
  rw [List.drop_zero, List.nil_append] at this
  exact this
/-- The number that bytes begin with, and so many numbers that bytes are. -/
def fst (l : List Int) : Int := zag (valS 0 (l.take (szS 0 l)))
def rdn : Nat → Int → List Int → Option (List Int)
  | 0, _, l => if l = [] then some [] else none
  | n + 1, last, l => if szS 0 l = 0 then none else (rdn n (wrap64 (last + fst l)) (l.drop (szS 0 l))).map (wrap64 (last + fst l) :: ·)
theorem fst_i64 {l : List Int} (hb : IsBytes l) : I64 (fst l) := zag_range (val_lt hb (Nat.le_refl _))
theorem rdn_le (n : Nat) : ∀ last l y, rdn n last l = some y → n ≤ l.length ∧ y.length = n := by
  induction n with
  | zero =>
    intro last l y h
    rw [rdn] at h
    split at h
    · obtain rfl := Option.some.inj h; simp
    · cases h
  | succ n ih =>
    intro last l y h
    rw [rdn] at h
    split at h
    · cases h
    · obtain ⟨y', hy, rfl⟩ := Option.map_eq_some_iff.mp h
      have h1 := ih _ _ _ hy
      have h2 := (szS_le l 0 (by decide)).1
      rw [List.length_drop] at h1
      rw [List.length_cons]; omega
theorem rdn_dl (l : List Int) (hl : ∀ x ∈ l, I64 x) : ∀ last, rdn l.length last (dl last l) = some l := by
  induction l with
  | nil => intro last; rfl
  | cons x l ih =>
    intro last
    have hw := wrap_i64 (x - last)
    have hz := zig_lt hw.1 hw.2
    have hs := size_enc hz (dl x l)
    have hg := (grp_has (n := zig (wrap64 (x - last))) hz).1
    rw [List.length_cons, rdn, dl, hs, if_neg (by omega)]
    have ht : (enc (zig (wrap64 (x - last))) ++ dl x l).take (grp (zig (wrap64 (x - last)))) = enc (zig (wrap64 (x - last))) := by
      rw [List.take_append_of_le_length (by rw [enc_length]; omega), List.take_of_length_le (by rw [enc_length]; omega)]
    have hd : (enc (zig (wrap64 (x - last))) ++ dl x l).drop (grp (zig (wrap64 (x - last)))) = dl x l := by
      rw [← enc_length, List.drop_left]
    have hf : fst (enc (zig (wrap64 (x - last))) ++ dl x l) = wrap64 (x - last) := by
      unfold fst
      rw [hs, ht, val_all hz, zag_zig]
    rw [hf, hd, back (hl x (List.mem_cons_self ..)), ih (fun z hz => hl z (List.mem_cons_of_mem _ hz))]
    rfl
theorem dl_rdn (n : Nat) : ∀ last l y, IsBytes l → rdn n last l = some y → dl last y = l := by
  induction n with
  | zero =>
    intro last l y hb h
    rw [rdn] at h
    split at h
    · obtain rfl := Option.some.inj h; rename_i hl; rw [hl, dl]
    · cases h
  | succ n ih =>
    intro last l y hb h
    rw [rdn] at h
    split at h
    · cases h
    · rename_i hs
      obtain ⟨y', hy, rfl⟩ := Option.map_eq_some_iff.mp h
      rw [dl, forth (fst_i64 hb), ih _ _ _ (hb.drop _) hy]
      unfold fst
      rw [zig_zag, enc_num hb hs, List.take_append_drop]
theorem rdn_uniq (n : Nat) : ∀ m last l y z, rdn n last l = some y → rdn m last l = some z → n = m := by
  induction n with
  | zero =>
    intro m last l y z h h'
    rw [rdn] at h
    split at h
    · rename_i hl; subst hl
      cases m with
      | zero => rfl
      | succ m => rw [rdn, if_pos (by rfl)] at h'; cases h'
    · cases h
  | succ n ih =>
    intro m last l y z h h'
    cases m with
    | zero =>
      rw [rdn] at h'
      split at h'
      · rename_i hl; subst hl; rw [rdn, if_pos (by rfl)] at h; cases h
      · cases h'
    | succ m =>
      rw [rdn] at h h'
      split at h
      · cases h
      · rename_i hs
        rw [if_neg hs] at h'
        obtain ⟨y', hy, _⟩ := Option.map_eq_some_iff.mp h
        obtain ⟨z', hz, _⟩ := Option.map_eq_some_iff.mp h'
        rw [ih m _ _ _ _ hy hz]
def res (acc : List Int) : Option (List Int) → List Int × Bool
  | some y => (acc ++ y, true)
  | none => ([], false)
theorem sint_is (l : List Int) (hf : Fit l) : vint_Source_Int.f l false = some (if szS 0 l = 0 then (0, [], true) else (fst l, l.drop (szS 0 l), false)) := by
  unfold vint_Source_Int.f vint_Source_Num.f
  rw [if_pos hf, Option.bind_some]
  unfold numS
  rw [if_neg (by decide)]
  split
  · have := int_val 0 (by decide)
    simp only [Int.natCast_zero] at this
    simp only [this]
    rfl
  · have := int_val _ (val_lt hf.1 (Nat.le_refl (szS 0 l)))
    simp only [this]
    rfl
theorem sint_bad (l : List Int) (hf : Fit l) : vint_Source_Int.f l true = some (0, l, true) := by
  unfold vint_Source_Int.f vint_Source_Num.f
  rw [if_pos hf, Option.bind_some]
  unfold numS
  rw [if_pos rfl]
  have := int_val 0 (by decide)
  simp only [Int.natCast_zero] at this
  simp only [this]
  rfl
theorem get_bad (N : Nat) (hN : N < 1000000) (d : Nat) : ∀ (k i : Nat) (out : List Int) (last : Int) (l : List Int), Fit l → i + d = N → d < k → out.length = N →
    delta_Get.l0 k out last (N : Int) (i : Int) l true = some ([], false) := by
  induction d with
  | zero =>
    intro k i out last l hf h1 h2 h3
    obtain ⟨k, rfl⟩ : ∃ m, k = m + 1 := ⟨k - 1, by omega⟩
    rw [delta_Get.l0, if_neg (by omega)]
    rfl
  | succ d ih =>
    intro k i out last l hf h1 h2 h3
    obtain ⟨k, rfl⟩ : ∃ m, k = m + 1 := ⟨k - 1, by omega⟩
    have hwi : wrap64 ((i : Int) + 1) = ((i + 1 : Nat) : Int) := by rw [w64 (by omega) (by omega)]; omega
    rw [delta_Get.l0, if_pos (by omega), sint_bad l hf, Option.bind_some, if_pos (by omega), if_pos (by omega), hwi, ih k (i + 1) _ _ _ hf (by omega) (by omega) (by rw [List.length_set]; omega)]
theorem get_loop (N : Nat) (hN : N < 1000000) (d : Nat) : ∀ (k i : Nat) (out : List Int) (last : Int) (l : List Int), Fit l → i + d = N → d < k → out.length = N →
    delta_Get.l0 k out last (N : Int) (i : Int) l false = some (res (out.take i) (rdn d last l)) := by
  induction d with
  | zero =>
    intro k i out last l hf h1 h2 h3
    obtain ⟨k, rfl⟩ : ∃ m, k = m + 1 := ⟨k - 1, by omega⟩
    rw [delta_Get.l0, if_neg (by omega), rdn]
    cases l with
    | nil =>
      have : out.take i = out := List.take_of_length_le (by omega)
      rw [if_pos rfl, res, List.append_nil, this]; rfl
    | cons c l =>
      rw [if_neg (by simp), res]
      unfold vint_Source_End.f vint_Source_Ok.f
      rw [Option.bind_some]
      have : ((((c :: l).length : Nat) : Int) == 0) = false := by rw [beq_eq_false_iff_ne, List.length_cons]; omega
      simp [this]
      omega
  | succ d ih =>
    intro k i out last l hf h1 h2 h3
    obtain ⟨k, rfl⟩ : ∃ m, k = m + 1 := ⟨k - 1, by omega⟩
    have hwi : wrap64 ((i : Int) + 1) = ((i + 1 : Nat) : Int) := by rw [w64 (by omega) (by omega)]; omega
    rw [delta_Get.l0, if_pos (by omega), sint_is l hf, Option.bind_some, if_pos (by omega), if_pos (by omega), hwi, rdn]
    by_cases hs : szS 0 l = 0
    · rw [if_pos hs, if_pos hs, get_bad N hN d k (i + 1) _ _ _ Fit.nil (by omega) (by omega) (by rw [List.length_set]; omega)]; rfl
    · rw [if_neg hs, if_neg hs, ih k (i + 1) _ _ _ (hf.drop _) (by omega) (by omega) (by rw [List.length_set]; omega), Int.toNat_natCast]
      have ht : (out.set i (wrap64 (last + fst l))).take (i + 1) = out.take i ++ [wrap64 (last + fst l)] := by
        rw [List.take_succ_eq_append_getElem (by rw [List.length_set]; omega), List.getElem_set_self, List.take_set_of_le (Nat.le_refl i)]
      rw [ht]
      cases rdn d (wrap64 (last + fst l)) (l.drop (szS 0 l)) with
      | none => rfl
      | some y => simp [res]
theorem get_is (b : List Int) (hf : Fit b) (hl : b.length < 1000000) (n : Int) (hn : I64 n) (k : Nat) (hk : b.length + 2 < k) :
    delta_Get.f k b n = some (if n < 0 then ([], false) else res [] (rdn n.toNat 0 b)) := by
  obtain ⟨k, rfl⟩ : ∃ m, k = m + 1 := ⟨k - 1, by omega⟩
  unfold delta_Get.f
  by_cases h0 : n < 0
  · rw [if_pos h0, if_pos h0, delta_Get.j0, if_pos rfl]
  · rw [if_neg h0, if_neg h0, delta_Get.j0]
    by_cases h1 : n > (b.length : Int)
    · rw [decide_eq_true h1, if_pos rfl]
      cases hr : rdn n.toNat 0 b with
      | none => rfl
      | some y => have := (rdn_le _ _ _ _ hr).1; omega
    · rw [decide_eq_false h1, if_neg (by decide)]
      unfold vint_From.f
      rw [Option.bind_some, if_pos (by omega), if_pos (by omega), Option.bind_some, List.length_replicate]
      have := get_loop n.toNat (by omega) n.toNat k 0 (List.replicate n.toNat 0) 0 b hf (by omega) (by omega) (by simp)
      rw [List.take_zero] at this
      exact this
theorem rint_val (n : Nat) (h : n < 18446744073709551616) :
    (if Int.tmod (n : Int) 2 = 1 then wrap64 ((wrap64 (-(wrap64 (IntKind.u64.wrap (Int.tdiv (n : Int) 2))))) - 1) else wrap64 (IntKind.u64.wrap (Int.tdiv (n : Int) 2))) = zag n := by
  have h1 : Int.tmod (n : Int) 2 = ((n % 2 : Nat) : Int) := by rw [Int.tmod_eq_emod_of_nonneg (by omega)]; omega
  have h2 : Int.tdiv (n : Int) 2 = ((n / 2 : Nat) : Int) := by rw [Int.tdiv_eq_ediv_of_nonneg (by omega)]; omega
  have h3 : IntKind.u64.wrap ((n / 2 : Nat) : Int) = ((n / 2 : Nat) : Int) := by rw [IntKind.wrap_u64]; omega
  rw [h1, h2, h3]
  unfold zag
  by_cases hm : n % 2 = 1
  · rw [if_pos hm, if_pos (by omega)]; unfold wrap64; omega
  · rw [if_neg hm, if_neg (by omega)]; unfold wrap64; omega
theorem rsint_is (l : List Int) (hf : Fit l) : firkinref01_S_Int.f l false = some (if szS 0 l = 0 then (0, [], true) else (fst l, l.drop (szS 0 l), false)) := by
  unfold firkinref01_S_Int.f firkinref01_S_Num.f
  rw [if_pos hf, Option.bind_some]
  unfold rnumS
  split
  · have := rint_val 0 (by decide)
    simp only [Int.natCast_zero] at this
    have h2 : (Int.tmod 0 2 = 1) = False := by simp
    simp only [h2, if_false] at this ⊢
    rw [this]; rfl
  · have := rint_val _ (val_lt hf.1 (Nat.le_refl (szS 0 l)))
    unfold fst
    rw [← this]
    split <;> rfl
theorem rget_loop (n : Nat) (hn : n < 1000000) (m : Nat) : ∀ (k : Nat) (acc : List Int) (last : Int) (l : List Int), Fit l → l.length ≤ m → m < k → acc.length ≤ n →
    firkinref06_Get.l0 k (n : Int) acc last l false = some (res acc (rdn (n - acc.length) last l)) := by
  induction m with
  | zero =>
    intro k acc last l hf h1 h2 h3
    obtain ⟨k, rfl⟩ : ∃ m, k = m + 1 := ⟨k - 1, by omega⟩
    obtain rfl := List.eq_nil_of_length_eq_zero (Nat.le_zero.mp h1)
    rw [firkinref06_Get.l0, if_neg (by simp), if_neg (by decide)]
    by_cases he : acc.length = n
    · rw [if_pos (by omega), he, Nat.sub_self, rdn, if_pos rfl, res, List.append_nil]
    · obtain ⟨d, hd⟩ : ∃ d, n - acc.length = d + 1 := ⟨n - acc.length - 1, by omega⟩
      rw [if_neg (by omega), hd, rdn, if_pos (by rfl), res]
  | succ m ih =>
    intro k acc last l hf h1 h2 h3
    obtain ⟨k, rfl⟩ : ∃ m, k = m + 1 := ⟨k - 1, by omega⟩
    by_cases hl : l.length = 0
    · obtain rfl := List.eq_nil_of_length_eq_zero hl
      rw [firkinref06_Get.l0, if_neg (by simp), if_neg (by decide)]
      by_cases he : acc.length = n
      · rw [if_pos (by omega), he, Nat.sub_self, rdn, if_pos rfl, res, List.append_nil]
      · obtain ⟨d, hd⟩ : ∃ d, n - acc.length = d + 1 := ⟨n - acc.length - 1, by omega⟩
        rw [if_neg (by omega), hd, rdn, if_pos (by rfl), res]
    · have hnil : l ≠ [] := by rintro rfl; exact hl rfl
      rw [firkinref06_Get.l0, if_pos (by omega), rsint_is l hf, Option.bind_some]
      by_cases hs : szS 0 l = 0
      · rw [if_pos hs, if_pos rfl]
        have : rdn (n - acc.length) last l = none := by
          cases n - acc.length with
          | zero => rw [rdn, if_neg hnil]
          | succ d => rw [rdn, if_pos hs]
        rw [this, res]
      · rw [if_neg hs, if_neg (show ¬ false = true by decide)]
        by_cases hge : (acc.length : Int) ≥ (n : Int)
        · have : n - acc.length = 0 := by omega
          rw [if_pos hge, this, rdn, if_neg hnil, res]
        · obtain ⟨d, hd⟩ : ∃ d, n - acc.length = d + 1 := ⟨n - acc.length - 1, by omega⟩
          rw [if_neg hge, if_pos (by omega), ih k _ _ _ (hf.drop _) (by rw [List.length_drop]; omega) (by omega) (by simp; omega), hd, rdn, if_neg hs]
          have : n - (acc ++ [wrap64 (last + fst l)]).length = d := by simp; omega
          rw [this]
          cases rdn d (wrap64 (last + fst l)) (l.drop (szS 0 l)) with
          | none => rfl
          | some y => simp [res]
theorem rget_is (b : List Int) (hf : Fit b) (hl : b.length < 1000000) (n : Int) (hn : n < 1000000) (k : Nat) (hk : b.length + 2 < k) :
    firkinref06_Get.f k b n = some (if n < 0 then ([], false) else res [] (rdn n.toNat 0 b)) := by
  unfold firkinref06_Get.f new45.f
  rw [Option.bind_some]
  show firkinref06_Get.l0 k n [] 0 b false = _
  by_cases h0 : n < 0
  · obtain ⟨k, rfl⟩ : ∃ m, k = m + 1 := ⟨k - 1, by omega⟩
    have hlen : (([] : List Int).length : Int) = 0 := rfl
    rw [if_pos h0, firkinref06_Get.l0]
    by_cases hb : b.length = 0
    · rw [if_neg (by omega), if_neg (show ¬ false = true by decide), hlen, if_neg (by omega)]
    · rw [if_pos (by omega), rsint_is b hf, Option.bind_some]
      by_cases hs : szS 0 b = 0
      · rw [if_pos hs, if_pos rfl]
      · rw [if_neg hs, if_neg (show ¬ false = true by decide), hlen, if_pos (by omega)]
  · have := rget_loop n.toNat (by omega) b.length k [] 0 b hf (Nat.le_refl _) (by omega) (by simp)
    rw [if_neg h0]
    rw [show ((n.toNat : Nat) : Int) = n by omega] at this
    simpa using this
theorem same_loop (l : List Int) (hl : l.length < 100000000) (d : Nat) : ∀ (k i : Nat), i + d = l.length → d < k → firkinref06_Same.l0 k l l (i : Int) = some true := by
  induction d with
  | zero =>
    intro k i h1 h2
    obtain ⟨k, rfl⟩ : ∃ m, k = m + 1 := ⟨k - 1, by omega⟩
    rw [firkinref06_Same.l0, if_neg (by omega)]
  | succ d ih =>
    intro k i h1 h2
    obtain ⟨k, rfl⟩ : ∃ m, k = m + 1 := ⟨k - 1, by omega⟩
    have hw : wrap64 ((i : Int) + 1) = ((i + 1 : Nat) : Int) := by rw [w64 (by omega) (by omega)]; omega
    rw [firkinref06_Same.l0, if_pos (by omega), if_pos (by omega), if_pos (by omega), if_pos rfl, hw, ih k (i + 1) (by omega) (by omega)]
theorem same_refl (l : List Int) (hl : l.length < 100000000) (k : Nat) (hk : l.length < k) : firkinref06_Same.f k l l = some true := by
  unfold firkinref06_Same.f; rw [if_pos rfl]; exact same_loop l hl l.length k 0 (by omega) hk
theorem same_bytes (l : List Int) : firkinref01_Same.f l l = some true := by unfold firkinref01_Same.f; simp
theorem live_is : firkinlaw06_live.f = some true := by
  unfold firkinlaw06_live.f
  rw [put_is _ (by simp), Option.bind_some]
  have : dl 0 [5, 7, 6] = [10, 4, 1] := by decide +kernel
  rw [this, same_bytes]; rfl
end Go.Proofs.Ytkdlfejokahohaa.Delta
