/- DictGets: for every input the call returns true, and each argument reads behind the call as it read before it. No condition. (Part 7 of 7: this session's texts, laid together by wip/merge.py.) -/
import Derived.Test.YtbbffnlefmogbaaWordsSame
import Derived.Laws.BitsAllLaws
import Derived.Test.YtbbffnlefmogbaaWf
import Derived.Test.YtbbffnlefmogbaaRows
import Derived.Test.YtbbffnlefmogbaaOpens
import Derived.WalkKit
import Derived.ProofKit
import Derived.OpenShut
import Derived.ShutString
import Derived.ChangeOld
import Derived.Below
import Derived.SizedLaws
import Derived.Test.YtbbffnlefmogbaaMDictGets0
import Derived.Test.YtbbffnlefmogbaaMDictGets1
import Derived.Test.YtbbffnlefmogbaaMDictGets2
import Derived.Test.YtbbffnlefmogbaaMDictGets3
import Derived.Test.YtbbffnlefmogbaaMDictGets4
import Derived.Test.YtbbffnlefmogbaaMDictGets5
/- dict, plain law: texts one behind the other, how they are read, and the bytes of texts by a dictionary. -/
namespace Go.Proofs.Ytbbffnlefmogbaa.DictP
open Go Go.RowKit Go.Proofs.Ytbbffnlefmogbaa.X Go.Proofs.Ytbbffnlefmogbaa.Dec Go.Proofs.Ytbbffnlefmogbaa.Enc Go.Proofs.Ytbbffnlefmogbaa.Round Go.Proofs.Ytbbffnlefmogbaa.Read Go.Proofs.Ytbbffnlefmogbaa.EncText Go.Proofs.Ytbbffnlefmogbaa.Tight Go.Proofs.YtbbffnlefmogbaaW.PrintWords Go.Proofs.YtbbffnlefmogbaaW.PrintLast Go.Proofs.YtbbffnlefmogbaaW.PrintMore
set_option linter.unusedVariables false
set_option linter.unusedSimpArgs false
def plainL (l : List ByteArray) : List Int := (l.map encT).flatten
def Sm (l : List ByteArray) : Prop := ∀ s ∈ l, s.size ≤ 1000000
theorem rd_at (l : List ByteArray) (i : Nat) (hi : i < l.length) : rdOf ByteArray.empty l (i : Int) = l[i] := by unfold rdOf; simp [hi]
theorem plainL_cons (l : List ByteArray) (i : Nat) (hi : i < l.length) : plainL (l.drop i) = encT l[i] ++ plainL (l.drop (i + 1)) := by
  unfold plainL
  rw [List.drop_eq_getElem_cons hi, List.map_cons, List.flatten_cons]
theorem wr1 (a : Nat) (h : a < 1000000000) : wrap64 ((a : Int) + 1) = ((a + 1 : Nat) : Int) := by unfold wrap64; omega
theorem plain_loop (l : List ByteArray) (hl : l.length ≤ 4096) (hs : Sm l) : ∀ (d i k : Nat) (acc : List Int), i + d = l.length → d + 13 < k → acc.length ≤ 1000010 * i → dict_Plain.l0 k acc l (l.length : Int) (i : Int) = some (acc ++ plainL (l.drop i))
  | 0, i, k, acc, h, hk, ha => by
    obtain ⟨k, rfl⟩ : ∃ q, k = q + 1 := ⟨k - 1, by omega⟩
    rw [dict_Plain.l0, if_neg (by omega), show i = l.length by omega, List.drop_length]
    simp [plainL]
  | d + 1, i, k, acc, h, hk, ha => by
    obtain ⟨k, rfl⟩ : ∃ q, k = q + 1 := ⟨k - 1, by omega⟩
    have hi : i < l.length := by omega
    have hz := hs l[i] (List.getElem_mem hi)
    have he := encT_len l[i] (by omega)
    rw [dict_Plain.l0, if_pos (by omega), if_pos (by omega), if_pos (by omega), rd_at l i hi, text_is _ (by omega) k (by omega), Option.bind_some, if_pos (by omega), wr1 i (by omega), plain_loop l hl hs d (i + 1) k _ (by omega) (by omega) (by rw [List.length_append]; omega), plainL_cons l i hi, List.append_assoc]
theorem plain_is (l : List ByteArray) (hl : l.length ≤ 4096) (hs : Sm l) (k : Nat) (hk : 4200 ≤ k) : dict_Plain.f k l = some (plainL l) := by
  unfold dict_Plain.f
  have h := plain_loop l hl hs l.length 0 k [] (by omega) (by omega) (by simp)
  simpa using h
theorem rplain_loop (l : List ByteArray) (hl : l.length ≤ 4096) (hs : Sm l) : ∀ (d i k : Nat) (acc : List Int), i + d = l.length → d + 13 < k → acc.length ≤ 1000010 * i → firkinref08_Plain.l0 k l acc (i : Int) = some (acc ++ plainL (l.drop i))
  | 0, i, k, acc, h, hk, ha => by
    obtain ⟨k, rfl⟩ : ∃ q, k = q + 1 := ⟨k - 1, by omega⟩
    rw [firkinref08_Plain.l0, if_neg (by omega), show i = l.length by omega, List.drop_length]
    simp [plainL]
  | d + 1, i, k, acc, h, hk, ha => by
    obtain ⟨k, rfl⟩ : ∃ q, k = q + 1 := ⟨k - 1, by omega⟩
    have hi : i < l.length := by omega
    have hz := hs l[i] (List.getElem_mem hi)
    have he := encT_len l[i] (by omega)
    rw [firkinref08_Plain.l0, if_pos (by omega), if_pos (by omega), rd_at l i hi, rtext_is _ (by omega) k (by omega), Option.bind_some, if_pos (by omega), wr1 i (by omega), rplain_loop l hl hs d (i + 1) k _ (by omega) (by omega) (by rw [List.length_append]; omega), plainL_cons l i hi, List.append_assoc]
theorem rplain_is (l : List ByteArray) (hl : l.length ≤ 4096) (hs : Sm l) (k : Nat) (hk : 4200 ≤ k) : firkinref08_Plain.f k l = some (plainL l) := by
  unfold firkinref08_Plain.f
  have h := rplain_loop l hl hs l.length 0 k [] (by omega) (by omega) (by simp)
  simpa using h
theorem plainL_len : ∀ (l : List ByteArray), Sm l → (plainL l).length ≤ 1000010 * l.length
  | [], _ => by simp [plainL]
  | s :: l, h => by
    have h1 := plainL_len l (fun x hx => h x (List.mem_cons_of_mem _ hx))
    have h2 := encT_len s (by have := h s List.mem_cons_self; omega)
    have h3 := h s List.mem_cons_self
    unfold plainL at h1 ⊢
    rw [List.map_cons, List.flatten_cons, List.length_append, List.length_cons]
    omega
theorem grp_one (n : Nat) : 1 ≤ grp n := by unfold grp; omega
theorem encT_pos (s : ByteArray) : 1 ≤ (encT s).length := by
  unfold encT
  rw [List.length_append, show (enc s.size).length = grp s.size from encL_length _ _]
  have := grp_one s.size
  omega
theorem plainL_ge : ∀ (l : List ByteArray), l.length ≤ (plainL l).length
  | [] => by simp [plainL]
  | s :: l => by
    have h1 := plainL_ge l
    have h2 := encT_pos s
    unfold plainL at h1 ⊢
    rw [List.map_cons, List.flatten_cons, List.length_append, List.length_cons]
    omega
/-- So many texts, up to one that fails. -/
def gTexts (most : Int) : Nat → List ByteArray → List Int → Bool → List ByteArray × List Int × Bool
  | 0, out, l, b => (out, l, b)
  | n + 1, out, l, b => if b = true then (out, l, b) else gTexts most n (out ++ [(gText l b most).1]) (gText l b most).2.1 (gText l b most).2.2
theorem gTexts_bad (most : Int) : ∀ n out l, gTexts most n out l true = (out, l, true)
  | 0, out, l => rfl
  | n + 1, out, l => by rw [gTexts, if_pos rfl]
theorem gTexts_good (most : Int) : ∀ n out l b, GoodS l b → GoodS (gTexts most n out l b).2.1 (gTexts most n out l b).2.2
  | 0, out, l, b, h => h
  | n + 1, out, l, b, h => by
    rw [gTexts]
    split
    · exact h
    · exact gTexts_good most n _ _ _ (gText_good h most)
theorem gTexts_len (most : Int) : ∀ n out l b, (gTexts most n out l b).2.1.length ≤ l.length
  | 0, out, l, b => Nat.le_refl _
  | n + 1, out, l, b => by
    rw [gTexts]
    split
    · exact Nat.le_refl _
    · exact Nat.le_trans (gTexts_len most n _ _ _) (gText_len l b most)
theorem gTexts_out (most : Int) : ∀ n out l b, (gTexts most n out l b).1.length ≤ out.length + n ∧ ((gTexts most n out l b).2.2 = false → (gTexts most n out l b).1.length = out.length + n)
  | 0, out, l, b => ⟨Nat.le_refl _, fun _ => rfl⟩
  | n + 1, out, l, b => by
    rw [gTexts]
    split
    · rename_i hb
      subst hb
      exact ⟨by show out.length ≤ _; omega, fun h => by cases h⟩
    · have h := gTexts_out most n (out ++ [(gText l b most).1]) (gText l b most).2.1 (gText l b most).2.2
      rw [List.length_append, List.length_singleton] at h
      exact ⟨by omega, fun h9 => by have := h.2 h9; omega⟩
theorem gNum_own {l : List Int} (hb : IsBytes l) (h : (gNum l false).2.2 = false) : enc (gNum l false).1.toNat ++ (gNum l false).2.1 = l := by
  unfold gNum at h ⊢
  split at h
  · cases h
  · rename_i h1
    rw [if_neg h1]
    have h2 : szS 0 l ≠ 0 := fun e => h1 (Or.inr e)
    show enc ((valS 0 (l.take (szS 0 l)) : Nat) : Int).toNat ++ l.drop (szS 0 l) = l
    rw [Int.toNat_natCast, enc_num hb h2, List.take_append_drop]
theorem bytesOf_str (l : List Int) (hb : IsBytes l) : bytesOf (strOfNums l) = l := by
  unfold strOfNums bytesOf
  rw [show (⟨(l.map fun n : Int => UInt8.ofNat n.toNat).toArray⟩ : ByteArray).data.toList = l.map fun n : Int => UInt8.ofNat n.toNat by simp, List.map_map]
  conv => rhs; rw [← List.map_id l]
  refine List.map_congr_left fun x hx => ?_
  have := hb x hx
  simp only [Function.comp, id]
  rw [UInt8.toNat_ofNat']
  omega
theorem gText_own {l : List Int} (hf : Fit l) (most : Int) (h : (gText l false most).2.2 = false) : encT (gText l false most).1 ++ (gText l false most).2.1 = l ∧ ((gText l false most).1.size : Int) ≤ most ∧ (gText l false most).1.size ≤ l.length := by
  unfold gText at h ⊢
  split at h
  · cases h
  · rename_i h1
    rw [if_neg h1]
    simp only [not_or] at h1
    have hn : (gNum l false).2.2 = false := by cases e : (gNum l false).2.2 with | false => rfl | true => exact absurd e h1.1
    have ho := gNum_own hf.1 hn
    have hg := gNum_good (GoodS.of hf)
    have hr := gNum_range (GoodS.of hf)
    have hle := gNum_len l false
    generalize gNum l false = g at ho hn h1 hg hr hle ⊢
    obtain ⟨x, r, b⟩ := g
    simp only at ho hn h1 hg hr hle ⊢
    obtain ⟨n, rfl⟩ : ∃ n : Nat, x = (n : Int) := ⟨x.toNat, by omega⟩
    rw [Int.toNat_natCast] at ho ⊢
    have hlen : (r.take n).length = n := by rw [List.length_take]; omega
    have hsz : (strOfNums (r.take n)).size = n := by
      have h5 := bytesOf_str (r.take n) (hg.1.1.take n)
      have h6 := congrArg List.length h5
      rw [bytesOf_length, hlen] at h6
      exact h6
    refine ⟨?_, by rw [hsz]; omega, by rw [hsz]; omega⟩
    unfold encT
    rw [hsz, bytesOf_str _ (hg.1.1.take n), List.append_assoc, List.take_append_drop]
    exact ho
theorem gTexts_own (most : Int) : ∀ n out l, Fit l → (gTexts most n out l false).2.2 = false → plainL (gTexts most n out l false).1 ++ (gTexts most n out l false).2.1 = plainL out ++ l
  | 0, out, l, _, _ => rfl
  | n + 1, out, l, hf, h => by
    rw [gTexts, if_neg (by decide)] at h ⊢
    cases hb : (gText l false most).2.2 with
    | true => rw [hb, gTexts_bad] at h; cases h
    | false =>
      have ho := gText_own hf most hb
      have hg := (gText_good (GoodS.of hf) most).1
      rw [hb] at h
      rw [gTexts_own most n _ _ hg h]
      unfold plainL
      rw [List.map_append, List.flatten_append, List.map_cons, List.map_nil, List.flatten_cons, List.flatten_nil, List.append_nil, List.append_assoc, ho.1]
theorem gText_size (l : List Int) (b : Bool) (hl : GoodS l b) (most : Int) : (gText l b most).1.size ≤ l.length := by
  cases b with
  | true =>
    have : gText l true most = (⟨#[]⟩, [], true) := by unfold gText gNum; rw [if_pos (Or.inl (by rw [if_pos (Or.inl rfl)]))]
    rw [this]; exact Nat.zero_le _
  | false =>
    cases h : (gText l false most).2.2 with
    | false => exact (gText_own hl.1 most h).2.2
    | true =>
      unfold gText at h ⊢
      split at h
      · rename_i h1; rw [if_pos h1]; exact Nat.zero_le _
      · cases h
theorem gTexts_size (most : Int) (M : Nat) : ∀ n out l b, GoodS l b → l.length ≤ M → (∀ s ∈ out, s.size ≤ M) → ∀ s ∈ (gTexts most n out l b).1, s.size ≤ M
  | 0, out, l, b, _, _, h => h
  | n + 1, out, l, b, hg, hl, h => by
    rw [gTexts]
    split
    · exact h
    · refine gTexts_size most M n _ _ _ (gText_good hg most) (Nat.le_trans (gText_len l b most) hl) ?_
      intro s hs
      rcases List.mem_append.1 hs with h1 | h1
      · exact h s h1
      · rw [List.mem_singleton.1 h1]
        exact Nat.le_trans (gText_size l b hg most) hl
theorem gTexts_enc (m : Int) (hm : m < 9223372036854775808) (rest : List Int) : ∀ (l out : List ByteArray), (∀ s ∈ l, (s.size : Int) ≤ m) → gTexts m l.length out (plainL l ++ rest) false = (out ++ l, rest, false)
  | [], out, _ => by simp [gTexts, plainL]
  | s :: l, out, h => by
    have e : plainL (s :: l) ++ rest = encT s ++ (plainL l ++ rest) := by unfold plainL; rw [List.map_cons, List.flatten_cons, List.append_assoc]
    rw [List.length_cons, gTexts, if_neg (by decide), e, gText_enc (h s List.mem_cons_self) hm]
    simp only
    rw [gTexts_enc m hm rest l _ (fun x hx => h x (List.mem_cons_of_mem _ hx))]
    simp
theorem read_loop (most : Int) (hm : most < 9223372036854775808) (n : Nat) (hn : n ≤ 1000000) : ∀ (d k : Nat) (out : List ByteArray) (l : List Int) (b : Bool), GoodS l b → out.length + d = n → d + 2 ≤ k → dict_read.l0 k (n : Int) most out l b = some (gTexts most d out l b)
  | 0, k, out, l, b, hg, h, hk => by
    obtain ⟨k, rfl⟩ : ∃ q, k = q + 1 := ⟨k - 1, by omega⟩
    rw [dict_read.l0, if_neg (by omega)]; rfl
  | d + 1, k, out, l, b, hg, h, hk => by
    obtain ⟨k, rfl⟩ : ∃ q, k = q + 2 := ⟨k - 2, by omega⟩
    rw [dict_read.l0, if_pos (by omega), show vint_Source_Ok.f l b = some (!b, l, b) from rfl, Option.bind_some]
    cases b with
    | true => rw [if_neg (show ¬ (!true) = true by decide), gTexts_bad]
    | false =>
      rw [if_pos (show (!false) = true from rfl)]
      simp only
      rw [text_g hg most hm k, Option.bind_some, if_pos (by omega), read_loop most hm n hn d (k + 1) _ _ _ (gText_good hg most) (by rw [List.length_append, List.length_singleton]; omega) (by omega), gTexts, if_neg (by decide)]
theorem read_is (most : Int) (hm : most < 9223372036854775808) (n : Nat) (hn : n ≤ 1000000) (l : List Int) (b : Bool) (hg : GoodS l b) (k : Nat) (hk : n + 2 ≤ k) : dict_read.f k l b (n : Int) most = some (gTexts most n [] l b) := by
  unfold dict_read.f
  have hl := hg.1.2
  rw [left_g hg, Option.bind_some]
  simp only
  have h1 : 0 ≤ mn (n : Int) (l.length : Int) ∧ (mn (n : Int) (l.length : Int)).toNat ≤ 17592186044416 := by unfold mn; split <;> omega
  rw [if_pos h1.1, if_pos h1.2]
  exact read_loop most hm n hn n k [] l b hg (by simp) hk
theorem names_loop (l : List ByteArray) (hl : l.length ≤ 4096) : ∀ (d i k : Nat), i + d = l.length → d < k → firkinref01_Names.l0 k l l (i : Int) = some true
  | 0, i, k, h, hk => by
    obtain ⟨k, rfl⟩ : ∃ q, k = q + 1 := ⟨k - 1, by omega⟩
    rw [firkinref01_Names.l0, if_neg (by omega)]
  | d + 1, i, k, h, hk => by
    obtain ⟨k, rfl⟩ : ∃ q, k = q + 1 := ⟨k - 1, by omega⟩
    rw [firkinref01_Names.l0, if_pos (by omega), if_pos (by omega), if_pos (by omega), if_pos rfl, wr1 i (by omega)]
    exact names_loop l hl d (i + 1) k (by omega) (by omega)
theorem names_is (l : List ByteArray) (hl : l.length ≤ 4096) (k : Nat) (hk : 4096 < k) : firkinref01_Names.f k l l = some true := by
  unfold firkinref01_Names.f
  rw [if_pos rfl]
  exact names_loop l hl l.length 0 k (by omega) (by omega)
/-- Where each text stands among the words. -/
def atL (l : List ByteArray) : List Int := l.map fun s => (dpIx (dpL l) s : Int)
def dputL (l : List ByteArray) : List Int := enc (dpL l).length ++ (plainL (dpL l) ++ putL (atL l))
theorem Sm.dpL {l : List ByteArray} (h : Sm l) : Sm (dpL l) := fun s hs => h s ((dpL_mem l s).1 hs)
theorem findIdx_le' (l : List ByteArray) (s : ByteArray) : dpIx l s ≤ l.length := List.findIdx_le_length
theorem atL_i64 {l : List ByteArray} (hl : l.length ≤ 4096) : ∀ x ∈ atL l, I64 x := by
  intro x hx
  obtain ⟨s, hs, rfl⟩ := List.mem_map.1 hx
  have h1 := dpL_len l
  have h2 := findIdx_le' (dpL l) s
  unfold I64; omega
theorem putL_len (l : List Int) (hl : l.length ≤ 4096) (hz : ∀ x ∈ l, I64 x) : (putL l).length ≤ 40000 := by
  unfold putL
  split
  · simp
  · rename_i h0
    have hr := low_high l h0 hz
    have hw := wide_le l
    have he := enc_le (zig (lowOf l)) (zig_lt hr.1.1 hr.1.2)
    have hp := putGo_len (lowOf l) (wideOf l) l [] 0 (by simp)
    have hm : l.length * wideOf l ≤ 4096 * 64 := Nat.mul_le_mul hl hw
    rw [List.length_append, List.length_cons, hp]
    omega
theorem dput_is (l : List ByteArray) (hl : l.length ≤ 4096) (hs : Sm l) (k : Nat) (hk : 5000 ≤ k) : dict_Put.f k l = some (dputL l) := by
  unfold dict_Put.f
  have h1 := dpL_len l
  rw [if_pos ⟨by omega, List.all_eq_true.mpr fun s h => decide_eq_true (hs s h)⟩, num_is _ (by omega) k (by omega), Option.bind_some, plain_is _ (by omega) hs.dpL k (by omega), Option.bind_some]
  have hz := atL_i64 hl
  have hlen : (atL l).length = l.length := List.length_map ..
  rw [show (l.map fun s => (dpIx (dpL l) s : Int)) = atL l from rfl, put_is _ (by omega) hz k (by omega), Option.bind_some]
  unfold slices_Concat_byte.f
  have e : [enc (dpL l).length, plainL (dpL l), putL (atL l)].flatten = dputL l := by simp [dputL]
  rw [e, if_pos]
  unfold dputL
  have h2 := enc_le (dpL l).length (by omega)
  have h3 := plainL_len (dpL l) hs.dpL
  have h4 := putL_len (atL l) (by omega) hz
  rw [List.length_append, List.length_append]
  omega
theorem live_words : dpL [⟨#[98]⟩, ⟨#[97]⟩, ⟨#[98]⟩] = [⟨#[97]⟩, ⟨#[98]⟩] := by
  rw [← words_same]
  decide +kernel
end Go.Proofs.Ytbbffnlefmogbaa.DictP
/- dict.Texts, plain law: which texts whatever bytes are; the document says the same. -/
namespace Go.Proofs.Ytbbffnlefmogbaa.DictP
open Go Go.RowKit Go.Proofs.Ytbbffnlefmogbaa.X Go.Proofs.Ytbbffnlefmogbaa.Dec Go.Proofs.Ytbbffnlefmogbaa.Enc Go.Proofs.Ytbbffnlefmogbaa.Round Go.Proofs.Ytbbffnlefmogbaa.Read Go.Proofs.Ytbbffnlefmogbaa.EncText Go.Proofs.Ytbbffnlefmogbaa.Tight Go.Proofs.YtbbffnlefmogbaaW.PrintWords Go.Proofs.YtbbffnlefmogbaaW.PrintLast Go.Proofs.YtbbffnlefmogbaaW.PrintMore
set_option linter.unusedVariables false
set_option linter.unusedSimpArgs false
/-- What Texts answers. -/
def textsA (g : List ByteArray × List Int × Bool) : List ByteArray × Bool := if gEnd g.2.1 g.2.2 = true then (g.1, true) else ([], false)
theorem texts_is (b : List Int) (hf : Fit b) (n : Nat) (hn : n ≤ 4096) (most : Int) (hm : most < 9223372036854775808) (k : Nat) (hk : 5000 ≤ k) : dict_Texts.f k b (n : Int) most = some (textsA (gTexts most n [] b false)) := by
  obtain ⟨k, rfl⟩ : ∃ q, k = q + 1 := ⟨k - 1, by omega⟩
  unfold dict_Texts.f
  rw [if_neg (by omega), decide_eq_false (by omega), dict_Texts.j0, if_neg (by decide), show vint_From.f b = some (b, false) from rfl, Option.bind_some]
  simp only
  rw [read_is most hm n (by omega) b false (GoodS.of hf) k (by omega), Option.bind_some, end_g, Option.bind_some]
  unfold textsA
  split <;> rfl
theorem texts_neg (b : List Int) (n most : Int) (h : n < 0) (k : Nat) (hk : 1 ≤ k) : dict_Texts.f k b n most = some ([], false) := by
  obtain ⟨k, rfl⟩ : ∃ q, k = q + 1 := ⟨k - 1, by omega⟩
  unfold dict_Texts.f
  rw [if_pos h, dict_Texts.j0, if_pos rfl]
def rfin (n : Int) (g : List ByteArray × List Int × Bool) : Option (List ByteArray × Bool) := if gEnd g.2.1 g.2.2 = true then (if n = (g.1.length : Int) then (some (g.1, true)) else (some (([] : List ByteArray), false))) else (some (([] : List ByteArray), false))
theorem rtexts_loop (most : Int) (hm : most < 9223372036854775808) (n : Nat) (hn : n ≤ 400) : ∀ (d k : Nat) (out : List ByteArray) (l : List Int) (b : Bool), GoodS l b → out.length + d = n → d + 2 ≤ k → firkinref08_Texts.l0 k (n : Int) most out (out.length : Int) l b = rfin n (gTexts most d out l b)
  | 0, k, out, l, b, hg, h, hk => by
    obtain ⟨k, rfl⟩ : ∃ q, k = q + 1 := ⟨k - 1, by omega⟩
    rw [firkinref08_Texts.l0, if_neg (by omega), rend_g, Option.bind_some]; rfl
  | d + 1, k, out, l, b, hg, h, hk => by
    obtain ⟨k, rfl⟩ : ∃ q, k = q + 2 := ⟨k - 2, by omega⟩
    rw [firkinref08_Texts.l0, if_pos (by omega), if_pos (by omega)]
    cases b with
    | true => rw [if_pos rfl, rend_g, Option.bind_some, gTexts_bad]; rfl
    | false =>
      rw [if_neg (by decide), rtext_g hg most hm k, Option.bind_some, if_pos (by omega), wr1 _ (by omega), gTexts, if_neg (by decide)]
      have h2 := rtexts_loop most hm n hn d (k + 1) (out ++ [(gText l false most).1]) _ _ (gText_good hg most) (by rw [List.length_append, List.length_singleton]; omega) (by omega)
      rw [List.length_append, List.length_singleton] at h2
      exact h2
theorem rtexts_is (b : List Int) (hf : Fit b) (n : Nat) (hn : n ≤ 400) (most : Int) (hm : most < 9223372036854775808) (k : Nat) (hk : 5000 ≤ k) : firkinref08_Texts.f k b (n : Int) most = some (textsA (gTexts most n [] b false)) := by
  unfold firkinref08_Texts.f
  rw [show new39.f b = some (b, false) from rfl, Option.bind_some]
  have h := rtexts_loop most hm n hn n k [] b false (GoodS.of hf) (by simp) (by omega)
  rw [List.length_nil] at h
  refine h.trans ?_
  unfold rfin textsA
  have ho := gTexts_out most n [] b false
  split
  · rename_i he
    unfold gEnd at he
    have hb : (gTexts most n [] b false).2.2 = false := by cases e : (gTexts most n [] b false).2.2 with | false => rfl | true => rw [e] at he; simp at he
    rw [if_pos (by rw [ho.2 hb]; simp)]
  · rfl
theorem rtexts_neg (b : List Int) (n most : Int) (h : n < 0) (k : Nat) (hk : 1 ≤ k) : firkinref08_Texts.f k b n most = some ([], false) := by
  obtain ⟨k, rfl⟩ : ∃ q, k = q + 1 := ⟨k - 1, by omega⟩
  unfold firkinref08_Texts.f
  rw [show new39.f b = some (b, false) from rfl, Option.bind_some]
  simp only
  rw [firkinref08_Texts.l0, if_neg (by omega), rend_g, Option.bind_some]
  split
  · rw [if_neg (by simp; omega)]
  · rfl
/-- What was read to the end is put again. -/
theorem texts_own (b : List Int) (hf : Fit b) (n : Nat) (most : Int) (h : gEnd (gTexts most n [] b false).2.1 (gTexts most n [] b false).2.2 = true) : plainL (gTexts most n [] b false).1 = b := by
  unfold gEnd at h
  rw [Bool.and_eq_true, Bool.not_eq_true', List.isEmpty_iff] at h
  have ho := gTexts_own most n [] b hf h.1
  rw [h.2, List.append_nil] at ho
  exact ho
theorem live_is : firkinlaw08_live.f 5000 = some true := by
  unfold firkinlaw08_live.f
  rw [dput_is _ (by decide) (by unfold Sm; decide) 5000 (by decide), Option.bind_some]
  unfold dputL atL
  rw [live_words]
  decide +kernel
theorem live_at (k : Nat) (h : 5000 ≤ k) : firkinlaw08_live.f k = some true := by
  obtain ⟨d, rfl⟩ : ∃ d, k = 5000 + d := ⟨k - 5000, by omega⟩
  clear h
  induction d with
  | zero => exact live_is
  | succ d ih => exact firkinlaw08_live.mono _ _ ih
end Go.Proofs.Ytbbffnlefmogbaa.DictP
/- tight, plain law: the bits of what Put writes, as one number; what is read of them. -/
namespace Go.Proofs.Ytbbffnlefmogbaa.TightB
open Go Go.RowKit Go.Proofs.Ytbbffnlefmogbaa.X Go.Proofs.YtbbffnlefmogbaaW.PrintWords Go.Proofs.YtbbffnlefmogbaaW.PrintLast Go.Proofs.YtbbffnlefmogbaaW.PrintMore
set_option linter.unusedVariables false
set_option linter.unusedSimpArgs false
def Byte (b : List Int) : Prop := ∀ x ∈ b, 0 ≤ x ∧ x < 256
/-- Bytes as one number, the least first. -/
def valL : List Int → Nat
  | [] => 0
  | x :: l => x.toNat + 256 * valL l
theorem valL_append : ∀ (b : List Int) (y : Int), valL (b ++ [y]) = valL b + y.toNat * 256 ^ b.length
  | [], y => by simp [valL]
  | x :: b, y => by
    rw [List.cons_append, valL, valL_append b y, valL, List.length_cons, Nat.pow_succ]
    have : 256 * (y.toNat * 256 ^ b.length) = y.toNat * (256 ^ b.length * 256) := by rw [Nat.mul_comm 256, Nat.mul_assoc]
    rw [Nat.mul_add, this]; omega
theorem valL_byte : ∀ (b : List Int) (q : Nat), Byte b → q < b.length → valL b / 256 ^ q % 256 = (rd b (q : Int)).toNat
  | [], q, _, h => by simp at h
  | x :: b, 0, hb, _ => by
    have h := hb x List.mem_cons_self
    have e : rd (x :: b) ((0 : Nat) : Int) = x := rfl
    rw [e, valL, Nat.pow_zero, Nat.div_one]; omega
  | x :: b, q + 1, hb, h => by
    have hx := hb x List.mem_cons_self
    have e : rd (x :: b) ((q + 1 : Nat) : Int) = rd b (q : Int) := by unfold rd; simp
    rw [e, valL, Nat.pow_succ, Nat.mul_comm (256 ^ q) 256, ← Nat.div_div_eq_div_mul, show (x.toNat + 256 * valL b) / 256 = valL b by omega]
    exact valL_byte b q (fun y hy => hb y (List.mem_cons_of_mem _ hy)) (by simpa using h)
/-- Bytes that have just a bits, as one number. -/
structure Pk (b : List Int) (a N : Nat) : Prop where
  len : b.length = (a + 7) / 8
  byte : Byte b
  val : valL b = N
  lt : N < 2 ^ a
theorem pow8 (a : Nat) : 2 ^ a = 2 ^ (a % 8) * 256 ^ (a / 8) := by
  have h : a = a % 8 + 8 * (a / 8) := by omega
  conv => lhs; rw [h, Nat.pow_add, Nat.pow_mul]
theorem pow_lt8 {r : Nat} (h : r < 8) : 2 ^ r ≤ 128 := by
  have : (2 : Nat) ^ r ≤ 2 ^ 7 := Nat.pow_le_pow_right (by decide) (by omega)
  simpa using this
/-- The byte that the next bit goes into. -/
theorem Pk.open {b : List Int} {a N : Nat} (h : Pk b a N) : ∃ (b0 : List Int) (y : Nat), (if a % 8 = 0 then b ++ [0] else b) = b0 ++ [(y : Int)] ∧ b0.length = a / 8 ∧ y < 2 ^ (a % 8) ∧ Byte b0 ∧ valL b0 + y * 256 ^ (a / 8) = N := by
  obtain ⟨h1, h2, h3, h4⟩ := h
  by_cases h8 : a % 8 = 0
  · refine ⟨b, 0, by rw [if_pos h8]; rfl, by omega, by rw [h8]; decide, h2, by rw [h3]; simp⟩
  · rw [if_neg h8]
    rcases List.eq_nil_or_concat b with rfl | ⟨b0, z, rfl⟩
    · simp at h1; omega
    · rw [List.concat_eq_append] at *
      rw [List.length_append, List.length_singleton] at h1
      have hz := h2 z (by simp)
      have hl : b0.length = a / 8 := by omega
      have hv := h3
      rw [valL_append, hl] at hv
      refine ⟨b0, z.toNat, by rw [Int.toNat_of_nonneg hz.1], hl, ?_, fun x hx => h2 x (by simp [hx]), hv⟩
      rw [pow8 a, ← hv] at h4
      have h5 : z.toNat * 256 ^ (a / 8) < 2 ^ (a % 8) * 256 ^ (a / 8) := by omega
      exact Nat.lt_of_mul_lt_mul_right h5
theorem Pk.put {b0 : List Int} {a N y t : Nat} (hl : b0.length = a / 8) (hy : y < 2 ^ (a % 8)) (hb : Byte b0) (hv : valL b0 + y * 256 ^ (a / 8) = N) (hN : N < 2 ^ a) (ht : t ≤ 1) : Pk (b0 ++ [((y + t * 2 ^ (a % 8) : Nat) : Int)]) (a + 1) (N + t * 2 ^ a) := by
  have hp := pow_lt8 (show a % 8 < 8 by omega)
  have hm : t * 2 ^ (a % 8) ≤ 1 * 2 ^ (a % 8) := Nat.mul_le_mul_right _ ht
  have hm2 : t * 2 ^ a ≤ 1 * 2 ^ a := Nat.mul_le_mul_right _ ht
  refine ⟨by rw [List.length_append, List.length_singleton]; omega, ?_, ?_, by rw [Nat.pow_succ]; omega⟩
  · intro x hx
    rcases List.mem_append.mp hx with hx | hx
    · exact hb x hx
    · obtain rfl := List.mem_singleton.mp hx; omega
  · rw [valL_append, Int.toNat_natCast, hl, Nat.add_mul, Nat.mul_assoc, ← pow8 a]; omega
theorem bit_of (u : Int) (h0 : 0 ≤ u) (h1 : u < 18446744073709551616) (k : Nat) (hk : k < 64) : Go.bits .and .u64 (u / 2 ^ min k 64) 1 % 256 = ((u.toNat / 2 ^ k % 2 : Nat) : Int) := by
  have e : u / 2 ^ min k 64 = ((u.toNat / 2 ^ k : Nat) : Int) := by
    rw [show min k 64 = k by omega]
    obtain ⟨n, rfl⟩ := Int.eq_ofNat_of_zero_le h0
    clear h1
    rw [show ((n : Int)).toNat = n from rfl, Int.natCast_ediv, Int.natCast_pow]; rfl
  have hlt : u.toNat / 2 ^ k < 18446744073709551616 := Nat.lt_of_le_of_lt (Nat.div_le_self _ _) (by omega)
  have h9 : Go.bits .and .u64 ((u.toNat / 2 ^ k : Nat) : Int) 1 = ((u.toNat / 2 ^ k &&& 1 : Nat) : Int) := u64_and_nat (u.toNat / 2 ^ k) 1 hlt (by decide)
  rw [e, h9, Nat.and_one_is_mod]
  generalize u.toNat / 2 ^ k = z
  omega
theorem or_bit (y t r : Nat) (hy : y < 2 ^ r) (ht : t ≤ 1) (hr : r < 8) : Go.bits .or .u8 (y : Int) ((t : Int) * 2 ^ r % 256) = ((y + t * 2 ^ r : Nat) : Int) := by
  have hp := pow_lt8 hr
  have hm : t * 2 ^ r ≤ 1 * 2 ^ r := Nat.mul_le_mul_right _ ht
  have e : (t : Int) * 2 ^ r % 256 = ((t * 2 ^ r : Nat) : Int) := by
    have : (t : Int) * 2 ^ r = ((t * 2 ^ r : Nat) : Int) := by norm_cast
    rw [this]; omega
  have hj := nat_join r (t * 2 ^ r) y (Nat.mul_mod_left _ _) hy
  rw [e, u8_or_nat _ _ (by omega) (by omega), Nat.or_comm, hj, Nat.add_comm]
theorem step_eq {b : List Int} {a N : Nat} (h : Pk b a N) (u : Int) (h0 : 0 ≤ u) (h1 : u < 18446744073709551616) (k : Nat) (hk : k < 64) : ∃ (b0 : List Int) (y : Nat), (if a % 8 = 0 then b ++ [0] else b) = b0 ++ [(y : Int)] ∧ b0.length = a / 8 ∧ y < 2 ^ (a % 8) ∧ bitStep u b a k = b0 ++ [((y + (u.toNat / 2 ^ k % 2) * 2 ^ (a % 8) : Nat) : Int)] ∧ Pk (bitStep u b a k) (a + 1) (N + (u.toNat / 2 ^ k % 2) * 2 ^ a) := by
  obtain ⟨b0, y, e, hl, hy, hb, hv⟩ := h.open
  have ht : u.toNat / 2 ^ k % 2 ≤ 1 := by omega
  have hs : bitStep u b a k = b0 ++ [((y + (u.toNat / 2 ^ k % 2) * 2 ^ (a % 8) : Nat) : Int)] := by
    unfold bitStep
    simp only [e]
    have e1 : (b0 ++ [(y : Int)]).length - 1 = b0.length := by simp
    have e2 : rd (b0 ++ [(y : Int)]) ((b0.length : Nat) : Int) = (y : Int) := by unfold rd; simp
    rw [e1, e2, bit_of u h0 h1 k hk, or_bit y _ _ hy ht (by omega), List.set_append_right _ _ (Nat.le_refl _)]
    simp
  exact ⟨b0, y, e, hl, hy, hs, by rw [hs]; exact Pk.put hl hy hb hv h.lt ht⟩
theorem step_pk {b : List Int} {a N : Nat} (h : Pk b a N) (u : Int) (h0 : 0 ≤ u) (h1 : u < 18446744073709551616) (k : Nat) (hk : k < 64) : Pk (bitStep u b a k) (a + 1) (N + (u.toNat / 2 ^ k % 2) * 2 ^ a) := by
  obtain ⟨_, _, _, _, _, _, h⟩ := step_eq h u h0 h1 k hk
  exact h
theorem mod_succ (x d : Nat) : x % 2 ^ (d + 1) = x % 2 + 2 * (x / 2 % 2 ^ d) := by
  rw [Nat.pow_succ, Nat.mul_comm, Nat.mod_mul]
theorem bits_pk (u : Int) (h0 : 0 ≤ u) (h1 : u < 18446744073709551616) : ∀ (d k : Nat) (b : List Int) (a N : Nat), k + d ≤ 64 → Pk b a N → Pk (bitsGo u d k b a) (a + d) (N + (u.toNat / 2 ^ k % 2 ^ d) * 2 ^ a)
  | 0, k, b, a, N, _, h => by rw [bitsGo, Nat.pow_zero, Nat.mod_one, Nat.zero_mul, Nat.add_zero, Nat.add_zero]; exact h
  | d + 1, k, b, a, N, hk, h => by
    have h2 := bits_pk u h0 h1 d (k + 1) _ _ _ (by omega) (step_pk h u h0 h1 k (by omega))
    rw [bitsGo, mod_succ, show u.toNat / 2 ^ k / 2 = u.toNat / 2 ^ (k + 1) by rw [Nat.div_div_eq_div_mul, Nat.pow_succ]]
    rw [show a + 1 + d = a + (d + 1) by omega, Nat.pow_succ 2 a] at h2
    have e : N + u.toNat / 2 ^ k % 2 * 2 ^ a + u.toNat / 2 ^ (k + 1) % 2 ^ d * (2 ^ a * 2) = N + (u.toNat / 2 ^ k % 2 + 2 * (u.toNat / 2 ^ (k + 1) % 2 ^ d)) * 2 ^ a := by
      rw [Nat.add_mul, Nat.mul_assoc 2, Nat.mul_comm 2, Nat.mul_assoc _ (2 ^ a)]; omega
    rw [e] at h2
    exact h2
/-- All numbers as one. -/
def sumL (lo : Int) (m : Nat) : List Int → Nat
  | [] => 0
  | x :: l => (above x lo).toNat + 2 ^ m * sumL lo m l
theorem above_range (x low : Int) : 0 ≤ above x low ∧ above x low < 18446744073709551616 := by unfold above; rw [IntKind.wrap_u64]; omega
theorem put_pk (lo : Int) (m : Nat) (hm : m ≤ 64) : ∀ (l b : List Int) (a N : Nat), (∀ x ∈ l, (above x lo).toNat < 2 ^ m) → Pk b a N → Pk (putGo lo m l b a) (a + l.length * m) (N + sumL lo m l * 2 ^ a)
  | [], b, a, N, _, h => by rw [putGo, sumL, List.length_nil, Nat.zero_mul, Nat.zero_mul, Nat.add_zero, Nat.add_zero]; exact h
  | x :: l, b, a, N, hx, h => by
    have hr := above_range x lo
    have h2 := bits_pk (above x lo) hr.1 hr.2 m 0 b a N (by omega) h
    rw [Nat.pow_zero, Nat.div_one, Nat.mod_eq_of_lt (hx x List.mem_cons_self)] at h2
    have h3 := put_pk lo m hm l _ _ _ (fun y hy => hx y (List.mem_cons_of_mem _ hy)) h2
    rw [putGo, sumL, List.length_cons, Nat.succ_mul, show a + (l.length * m + m) = a + m + l.length * m by omega]
    have e : N + (above x lo).toNat * 2 ^ a + sumL lo m l * 2 ^ (a + m) = N + ((above x lo).toNat + 2 ^ m * sumL lo m l) * 2 ^ a := by
      rw [Nat.add_mul, Nat.pow_add, Nat.mul_comm (2 ^ m) (sumL lo m l), Nat.mul_assoc (sumL lo m l), Nat.mul_comm (2 ^ m)]; omega
    rw [← e]; exact h3
theorem bitOf_is {b : List Int} (hb : Byte b) (i : Nat) (hi : i / 8 < b.length) : bitOf b i = ((valL b / 2 ^ i % 2 : Nat) : Int) := by
  have hv := valL_byte b (i / 8) hb hi
  have hr : 0 ≤ rd b ((i / 8 : Nat) : Int) ∧ rd b ((i / 8 : Nat) : Int) < 256 := by
    have e : rd b ((i / 8 : Nat) : Int) = b[i / 8] := by
      show b.getD ((i / 8 : Nat) : Int).toNat 0 = _
      rw [Int.toNat_natCast]; simp [hi]
    rw [e]; exact hb _ (List.getElem_mem hi)
  unfold bitOf
  obtain ⟨y, hy⟩ := Int.eq_ofNat_of_zero_le hr.1
  rw [hy] at hv hr ⊢
  rw [Int.toNat_natCast] at hv
  have e : (y : Int) / 2 ^ (i % 8) = ((y / 2 ^ (i % 8) : Nat) : Int) := by rw [Int.natCast_ediv]; norm_cast
  have hlt : y / 2 ^ (i % 8) < 256 := Nat.lt_of_le_of_lt (Nat.div_le_self _ _) (by omega)
  have h9 : Go.bits .and .u8 ((y / 2 ^ (i % 8) : Nat) : Int) 1 = ((y / 2 ^ (i % 8) &&& 1 : Nat) : Int) := u8_and_nat (y / 2 ^ (i % 8)) 1 hlt (by decide)
  rw [e, h9, Nat.and_one_is_mod]
  congr 1
  have hp : 2 ^ i = 256 ^ (i / 8) * 2 ^ (i % 8) := by rw [Nat.mul_comm]; exact pow8 i
  rw [hp, ← Nat.div_div_eq_div_mul, ← hv]
  have h256 : (256 : Nat) = 2 ^ (i % 8) * 2 ^ (8 - i % 8) := by rw [← Nat.pow_add, show i % 8 + (8 - i % 8) = 8 by omega]
  obtain ⟨z, hz⟩ : ∃ z, valL b / 256 ^ (i / 8) = z := ⟨_, rfl⟩
  rw [hz]
  rw [h256, Nat.mod_mul_right_div_self, Nat.mod_mod_of_dvd]
  exact ⟨2 ^ (8 - i % 8 - 1), by rw [← Nat.pow_succ', show (8 - i % 8 - 1).succ = 8 - i % 8 by omega]⟩
theorem or_read (u t k : Nat) (hu : u < 2 ^ k) (ht : t ≤ 1) (hk : k < 64) : Go.bits .or .u64 (u : Int) (IntKind.u64.wrap (IntKind.u64.wrap (t : Int) * 2 ^ min k 64)) = ((u + t * 2 ^ k : Nat) : Int) := by
  have hp : (2 : Nat) ^ k ≤ 2 ^ 63 := Nat.pow_le_pow_right (by decide) (by omega)
  have hm : t * 2 ^ k ≤ 1 * 2 ^ k := Nat.mul_le_mul_right _ ht
  have e : IntKind.u64.wrap (IntKind.u64.wrap (t : Int) * 2 ^ min k 64) = ((t * 2 ^ k : Nat) : Int) := by
    rw [show min k 64 = k by omega, show IntKind.u64.wrap (t : Int) = (t : Int) by rw [IntKind.wrap_u64]; omega]
    have : (t : Int) * 2 ^ k = ((t * 2 ^ k : Nat) : Int) := by norm_cast
    rw [this, IntKind.wrap_u64]; omega
  have hj := nat_join k (t * 2 ^ k) u (Nat.mul_mod_left _ _) hu
  rw [e, u64_or_nat _ _ (by omega) (by omega), Nat.or_comm, hj, Nat.add_comm]
theorem read_is {b : List Int} (hb : Byte b) : ∀ (d k u a : Nat), k + d ≤ 64 → u < 2 ^ k → a + d ≤ 8 * b.length → readGo b d k (u : Int) a = ((u + (valL b / 2 ^ a % 2 ^ d) * 2 ^ k : Nat) : Int)
  | 0, k, u, a, _, _, _ => by rw [readGo, Nat.pow_zero, Nat.mod_one, Nat.zero_mul, Nat.add_zero]
  | d + 1, k, u, a, hk, hu, ha => by
    have ht : valL b / 2 ^ a % 2 ≤ 1 := by omega
    have hm : valL b / 2 ^ a % 2 * 2 ^ k ≤ 1 * 2 ^ k := Nat.mul_le_mul_right _ ht
    rw [readGo, bitOf_is hb a (by omega), or_read u _ k hu ht (by omega), read_is hb d (k + 1) _ (a + 1) (by omega) (by rw [Nat.pow_succ]; omega) (by omega), mod_succ, show valL b / 2 ^ a / 2 = valL b / 2 ^ (a + 1) by rw [Nat.div_div_eq_div_mul, Nat.pow_succ]]
    congr 1
    rw [Nat.add_mul, Nat.pow_succ 2 k, Nat.mul_assoc 2, Nat.mul_comm 2, Nat.mul_assoc _ (2 ^ k)]; omega
theorem next_above (x lo : Int) (h0 : -9223372036854775808 ≤ x) (h1 : x < 9223372036854775808) : nextOf lo (above x lo) = x := by
  unfold nextOf above
  simp only [IntKind.wrap_u64, IntKind.wrap_i64]; omega
theorem get_pk (lo : Int) (m : Nat) (hm : m ≤ 64) (b : List Int) (hb : Byte b) : ∀ (l : List Int) (a : Nat), (∀ x ∈ l, (above x lo).toNat < 2 ^ m ∧ -9223372036854775808 ≤ x ∧ x < 9223372036854775808) → a + l.length * m ≤ 8 * b.length → valL b / 2 ^ a = sumL lo m l → getGo lo m b l.length a = l
  | [], a, _, _, _ => rfl
  | x :: l, a, hx, ha, hv => by
    obtain ⟨h1, h2, h3⟩ := hx x List.mem_cons_self
    rw [List.length_cons, Nat.succ_mul] at ha
    have hr := read_is hb m 0 0 a (by omega) (by decide) (by omega)
    rw [hv, sumL, Nat.zero_add, Nat.pow_zero, Nat.mul_one, Nat.add_mul_mod_self_left, Nat.mod_eq_of_lt h1, Int.toNat_of_nonneg (above_range x lo).1] at hr
    have hv2 : valL b / 2 ^ (a + m) = sumL lo m l := by
      rw [Nat.pow_add, ← Nat.div_div_eq_div_mul, hv, sumL, Nat.add_mul_div_left _ _ (Nat.two_pow_pos m), Nat.div_eq_of_lt h1, Nat.zero_add]
    have hr2 : readGo b m 0 0 a = above x lo := hr
    rw [List.length_cons, getGo, hr2, next_above x lo h2 h3, get_pk lo m hm b hb l (a + m) (fun y hy => hx y (List.mem_cons_of_mem _ hy)) (by omega) hv2]
end Go.Proofs.Ytbbffnlefmogbaa.TightB
/- What was written is read again, plain law: signed numbers. -/
namespace Go.Proofs.Ytbbffnlefmogbaa.Read
open Go Go.RowKit Go.Proofs.Ytbbffnlefmogbaa.X Go.Proofs.Ytbbffnlefmogbaa.Dec Go.Proofs.Ytbbffnlefmogbaa.Enc Go.Proofs.Ytbbffnlefmogbaa.Round Go.Proofs.YtbbffnlefmogbaaW.PrintWords Go.Proofs.YtbbffnlefmogbaaW.PrintLast Go.Proofs.YtbbffnlefmogbaaW.PrintMore
set_option linter.unusedVariables false
theorem gInt_enc {n : Int} (h0 : -9223372036854775808 ≤ n) (h1 : n < 9223372036854775808) (rest : List Int) : gInt (enc (zig n) ++ rest) false = (n, rest, false) := by
  unfold gInt
  rw [gNum_enc (zig_lt h0 h1)]
  simp [zag_zig]
end Go.Proofs.Ytbbffnlefmogbaa.Read
/- firkinref07.Put, plain law: the bytes are the program's; what is put is got. -/
namespace Go.Proofs.Ytbbffnlefmogbaa.Tight
open Go Go.RowKit Go.Proofs.Ytbbffnlefmogbaa.X Go.Proofs.Ytbbffnlefmogbaa.Dec Go.Proofs.Ytbbffnlefmogbaa.Enc Go.Proofs.Ytbbffnlefmogbaa.Round Go.Proofs.Ytbbffnlefmogbaa.Read Go.Proofs.Ytbbffnlefmogbaa.TightB Go.Proofs.YtbbffnlefmogbaaW.PrintWords Go.Proofs.YtbbffnlefmogbaaW.PrintLast Go.Proofs.YtbbffnlefmogbaaW.PrintMore
set_option linter.unusedVariables false
set_option linter.unusedSimpArgs false
theorem need_loop : ∀ (F x n k : Nat), x < 2 ^ F → F ≤ 64 → n + F ≤ 100 → F < k → firkinref07_need.l0 k (x : Int) (n : Int) = some ((n + Lib.bitLenAux F x : Nat) : Int)
  | F, 0, n, k, h, hF, hn, hk => by
    obtain ⟨k, rfl⟩ : ∃ q, k = q + 1 := ⟨k - 1, by omega⟩
    have e : Lib.bitLenAux F 0 = 0 := by cases F <;> rfl
    rw [firkinref07_need.l0, if_neg (by decide), e, Nat.add_zero]
  | 0, x + 1, n, k, h, hF, hn, hk => by simp at h
  | F + 1, x + 1, n, k, h, hF, hn, hk => by
    obtain ⟨k, rfl⟩ : ∃ q, k = q + 1 := ⟨k - 1, by omega⟩
    have hp : (2 : Nat) ^ (F + 1) ≤ 2 ^ 64 := Nat.pow_le_pow_right (by decide) hF
    rw [Nat.pow_succ] at h hp
    have e1 : IntKind.u64.wrap (Int.tdiv ((x + 1 : Nat) : Int) 2) = (((x + 1) / 2 : Nat) : Int) := by
      rw [Int.tdiv_eq_ediv_of_nonneg (by omega), IntKind.wrap_u64]; omega
    have e2 : wrap64 ((n : Int) + 1) = ((n + 1 : Nat) : Int) := by unfold wrap64; omega
    rw [firkinref07_need.l0, if_pos (by omega), e1, e2, need_loop F ((x + 1) / 2) (n + 1) k (by omega) (by omega) (by omega) (by omega), Lib.bitLenAux, if_neg (by omega)]
    congr 2; omega
theorem need_is (x : Int) (h0 : 0 ≤ x) (h1 : x < 18446744073709551616) (k : Nat) (hk : 64 < k) : firkinref07_need.f k x = some ((Lib.bitLen x.toNat : Nat) : Int) := by
  obtain ⟨n, rfl⟩ := Int.eq_ofNat_of_zero_le h0
  unfold firkinref07_need.f
  have := need_loop 64 n 0 k (by omega) (Nat.le_refl _) (by omega) hk
  rw [Int.toNat_natCast]
  rw [Nat.zero_add] at this
  exact this
theorem t8 (a : Nat) : Int.tmod (a : Int) 8 = ((a % 8 : Nat) : Int) := by rw [Int.tmod_eq_emod_of_nonneg (Int.natCast_nonneg a)]; omega
theorem tu (z : Nat) : Int.tmod (z : Int) 2 % 256 = ((z % 2 : Nat) : Int) := by rw [Int.tmod_eq_emod_of_nonneg (Int.natCast_nonneg z)]; omega
theorem du (z : Nat) (h : z < 18446744073709551616) : IntKind.u64.wrap (Int.tdiv (z : Int) 2) = ((z / 2 : Nat) : Int) := by
  rw [Int.tdiv_eq_ediv_of_nonneg (Int.natCast_nonneg z), IntKind.wrap_u64]; omega
theorem shl_is (t r : Nat) (ht : t ≤ 1) (hr : r < 8) : shl .u8 (t : Int) (r : Int) = ((t * 2 ^ r : Nat) : Int) := by
  have hp := pow_lt8 hr
  have hm1 : t * 2 ^ r ≤ 1 * 2 ^ r := Nat.mul_le_mul_right _ ht
  unfold shl
  rw [Int.toNat_natCast, show min r IntKind.u8.bits = r by show min r 8 = r; omega]
  have : (t : Int) * 2 ^ r = ((t * 2 ^ r : Nat) : Int) := by rw [Int.natCast_mul, Int.natCast_pow]; rfl
  rw [this, IntKind.wrap_u8]; omega
theorem sum_is (y t r : Nat) (hy : y < 2 ^ r) (ht : t ≤ 1) (hr : r < 8) : ((y : Int) + ((t * 2 ^ r : Nat) : Int)) % 256 = ((y + t * 2 ^ r : Nat) : Int) := by
  have hp := pow_lt8 hr
  have hm1 : t * 2 ^ r ≤ 1 * 2 ^ r := Nat.mul_le_mul_right _ ht
  omega
theorem get_last (pre b0 : List Int) (y : Int) : rd (pre ++ (b0 ++ [y])) ((pre.length + b0.length : Nat) : Int) = y := by
  rw [← List.append_assoc]; unfold rd; rw [Int.toNat_natCast, ← List.length_append]; simp
theorem set_last (pre b0 : List Int) (y z : Int) : (pre ++ (b0 ++ [y])).set (((pre.length + b0.length : Nat) : Int)).toNat z = pre ++ (b0 ++ [z]) := by
  rw [Int.toNat_natCast, ← List.append_assoc, ← List.length_append, List.set_append_right _ _ (Nat.le_refl _), Nat.sub_self, List.set_cons_zero, List.append_assoc]
theorem len_last (pre b0 : List Int) (y : Int) (h : pre.length + b0.length < 1000000000) : wrap64 (((pre ++ (b0 ++ [y])).length : Int) - 1) = ((pre.length + b0.length : Nat) : Int) := by
  rw [List.length_append, List.length_append, List.length_singleton]; unfold wrap64; omega
theorem wr1 (a : Nat) (h : a < 1000000000) : wrap64 ((a : Int) + 1) = ((a + 1 : Nat) : Int) := by unfold wrap64; omega
/-- One bit. -/
theorem ref_step (F : Nat) (l : List Int) (lo : Int) (m : Nat) (hm : m ≤ 64) (pre : List Int) (hpre : pre.length ≤ 1000) (U : Nat) (hU : U < 18446744073709551616) (i j a N : Nat) (b : List Int) (hp : Pk b a N) (hj : j < m) (ha : a < 1000000) :
    firkinref07_Put.l2 (F + 1) l lo (m : Int) (pre ++ b) (a : Int) (i : Int) ((U / 2 ^ j : Nat) : Int) (j : Int) = firkinref07_Put.l2 F l lo (m : Int) (pre ++ bitStep (U : Int) b a j) ((a + 1 : Nat) : Int) (i : Int) ((U / 2 ^ (j + 1) : Nat) : Int) ((j + 1 : Nat) : Int) := by
  obtain ⟨b0, y, e, hl, hy, hs, _⟩ := step_eq hp (U : Int) (Int.natCast_nonneg U) (by omega) j (by omega)
  rw [Int.toNat_natCast] at hs
  have hlen := hp.len
  have hr : a % 8 < 8 := Nat.mod_lt _ (by decide)
  have ht : U / 2 ^ j % 2 ≤ 1 := by have := Nat.mod_lt (U / 2 ^ j) (show 0 < 2 by decide); omega
  have hq : U / 2 ^ j < 18446744073709551616 := Nat.lt_of_le_of_lt (Nat.div_le_self _ _) hU
  have ed : IntKind.u64.wrap (Int.tdiv ((U / 2 ^ j : Nat) : Int) 2) = ((U / 2 ^ (j + 1) : Nat) : Int) := by rw [du _ hq, Nat.div_div_eq_div_mul, Nat.pow_succ]
  have hjm : (j : Int) < (m : Int) := by omega
  have hg1 : (0 : Int) ≤ ((pre.length + b0.length : Nat) : Int) := Int.natCast_nonneg _
  have hg2 : ((pre.length + b0.length : Nat) : Int) < ((pre ++ (b0 ++ [(y : Int)])).length : Int) := by rw [List.length_append, List.length_append, List.length_singleton]; omega
  have hg3 : (0 : Int) ≤ ((a % 8 : Nat) : Int) := Int.natCast_nonneg _
  have hbl : (pre ++ b).length < 140737488355328 := by rw [List.length_append]; omega
  have hll : pre.length + b0.length < 1000000000 := by omega
  rw [firkinref07_Put.l2, if_pos hjm, t8, tu, ed, shl_is _ _ ht hr, wr1 a (by omega), wr1 j (by omega), hs]
  by_cases h8 : a % 8 = 0
  · have e2 : pre ++ b ++ [0] = pre ++ (b0 ++ [(y : Int)]) := by rw [← e, if_pos h8, List.append_assoc]
    rw [if_pos (by rw [h8]; rfl), if_pos hbl, Option.bind_some, e2, len_last _ _ _ hll, if_pos hg1, if_pos hg2, if_pos hg3, get_last, set_last, sum_is _ _ _ hy ht hr]
  · have e3 : pre ++ b = pre ++ (b0 ++ [(y : Int)]) := by rw [← e, if_neg h8]
    rw [if_neg (by omega), e3, len_last _ _ _ hll, if_pos hg1, if_pos hg2, if_pos hg3, get_last, set_last, sum_is _ _ _ hy ht hr]
/-- One number's bits, one by one. -/
theorem ref_l2 (l : List Int) (lo : Int) (m : Nat) (hm : m ≤ 64) (pre : List Int) (hpre : pre.length ≤ 1000) (U : Nat) (hU : U < 18446744073709551616) (i : Nat) (hi : i ≤ 4096) (f : Nat) : ∀ (d j : Nat) (b : List Int) (a N : Nat), j + d = m → Pk b a N → a + d ≤ 1000000 →
    firkinref07_Put.l2 (f + d + 1) l lo (m : Int) (pre ++ b) (a : Int) (i : Int) ((U / 2 ^ j : Nat) : Int) (j : Int) = firkinref07_Put.l1 f l lo (m : Int) (pre ++ bitsGo (U : Int) d j b a) ((a + d : Nat) : Int) ((i + 1 : Nat) : Int)
  | 0, j, b, a, N, h, hp, ha => by
    rw [firkinref07_Put.l2, if_neg (by omega), wr1 i (by omega)]; rfl
  | d + 1, j, b, a, N, h, hp, ha => by
    rw [show f + (d + 1) + 1 = (f + d + 1) + 1 by omega, ref_step (f + d + 1) l lo m hm pre hpre U hU i j a N b hp (by omega) (by omega),
      ref_l2 l lo m hm pre hpre U hU i hi f d (j + 1) _ (a + 1) _ (by omega) (step_pk hp (U : Int) (Int.natCast_nonneg U) (by omega) j (by omega)) (by omega), bitsGo, show a + 1 + d = a + (d + 1) by omega]
theorem ref_l1 (l : List Int) (hl : l.length ≤ 4096) (lo : Int) (m : Nat) (hm : m ≤ 64) (pre : List Int) (hpre : pre.length ≤ 1000) : ∀ (d i f : Nat) (b : List Int) (a N : Nat), i + d = l.length → Pk b a N → a + d * m ≤ 1000000 →
    firkinref07_Put.l1 (f + d * (m + 2) + 1) l lo (m : Int) (pre ++ b) (a : Int) (i : Int) = some (pre ++ putGo lo m (l.drop i) b a)
  | 0, i, f, b, a, N, h, hp, ha => by
    rw [firkinref07_Put.l1, if_neg (by omega), List.drop_eq_nil_of_le (by omega), putGo]
  | d + 1, i, f, b, a, N, h, hp, ha => by
    have hi : i < l.length := by omega
    have e : rd l (i : Int) = l[i] := by unfold rd; simp [hi]
    have hr := TightB.above_range l[i] lo
    have hb := bits_pk (above l[i] lo) hr.1 hr.2 m 0 b a N (by omega) hp
    have hU : ((above l[i] lo).toNat : Int) = above l[i] lo := Int.toNat_of_nonneg hr.1
    rw [Nat.succ_mul] at ha
    have h2 := ref_l2 l lo m hm pre hpre (above l[i] lo).toNat (by omega) i (by omega) (f + d * (m + 2) + 1) m 0 b a N (by omega) hp (by omega)
    rw [Nat.pow_zero, Nat.div_one, hU] at h2
    rw [show f + (d + 1) * (m + 2) = (f + d * (m + 2) + 1) + m + 1 by rw [Nat.succ_mul]; omega, firkinref07_Put.l1, if_pos (by omega), if_pos (by omega), e]
    refine h2.trans ?_
    rw [ref_l1 l hl lo m hm pre hpre d (i + 1) f _ _ _ (by omega) hb (by omega), List.drop_eq_getElem_cons hi, putGo]
theorem ref_l0 (l : List Int) (hl : l.length ≤ 4096) : ∀ (d i f : Nat) (lo hi : Int), i + d = l.length →
    firkinref07_Put.l0 (f + d + 1) l lo hi (i : Int) = ((firkinref07_need.f f (above ((l.drop i).foldl mx hi) ((l.drop i).foldl mn lo))).bind fun t => (firkinref01_Int.f f ((l.drop i).foldl mn lo)).bind fun v => if v.length < 140737488355328 then firkinref07_Put.l1 f l ((l.drop i).foldl mn lo) t (v ++ [t % 256]) 0 0 else none)
  | 0, i, f, lo, hi, h => by
    rw [firkinref07_Put.l0, if_neg (by omega), List.drop_eq_nil_of_le (by omega)]; rfl
  | d + 1, i, f, lo, hi, h => by
    have hi' : i < l.length := by omega
    have e : rd l (i : Int) = l[i] := by unfold rd; simp [hi']
    have ew : wrap64 ((i : Int) + 1) = ((i + 1 : Nat) : Int) := by unfold wrap64; omega
    rw [show f + (d + 1) + 1 = (f + d + 1) + 1 by omega, firkinref07_Put.l0, if_pos (by omega), if_pos (by omega), e, ew, List.drop_eq_getElem_cons hi', List.foldl_cons, List.foldl_cons, ← ref_l0 l hl d (i + 1) f (mn lo l[i]) (mx hi l[i]) (by omega)]
    unfold mn mx
    by_cases h1 : l[i] < lo
    · rw [if_pos h1, if_pos h1]
      by_cases h2 : l[i] > hi
      · rw [if_pos h2, if_pos h2]
      · rw [if_neg h2, if_neg h2]
    · rw [if_neg h1, if_neg h1]
      by_cases h2 : l[i] > hi
      · rw [if_pos h2, if_pos h2]
      · rw [if_neg h2, if_neg h2]
theorem Pk.nil : Pk [] 0 0 := ⟨rfl, fun _ h => (by cases h), rfl, by decide⟩
theorem mn_self (a : Int) : mn a a = a := by unfold mn; split <;> rfl
theorem mx_self (a : Int) : mx a a = a := by unfold mx; split <;> rfl
/-- The document's bytes are the program's. -/
theorem rput_is (l : List Int) (hl : l.length ≤ 400) (hz : ∀ x ∈ l, I64 x) (k : Nat) (hk : 40000 ≤ k) : firkinref07_Put.f k l = some (putL l) := by
  unfold firkinref07_Put.f putL
  by_cases h0 : l = []
  · subst h0; rfl
  · have hp := List.length_pos_iff.mpr h0
    obtain ⟨h1, h2, h3⟩ := low_high l h0 hz
    have ha := Tight.above_range (highOf l) (lowOf l)
    have hw := wide_le l
    have he := enc_le (zig (lowOf l)) (zig_lt h1.1 h1.2)
    have hmul : l.length * (wideOf l + 2) ≤ 400 * 66 := Nat.mul_le_mul hl (by omega)
    have hmul2 : l.length * wideOf l ≤ 400 * 64 := Nat.mul_le_mul hl hw
    rw [if_neg (by omega), if_neg h0, if_pos (by omega)]
    have el := ref_l0 l (by omega) l.length 0 (k - l.length - 1) (rd l 0) (rd l 0) (by omega)
    rw [show k - l.length - 1 + l.length + 1 = k by omega] at el
    have e1 : (l.drop 0).foldl mn (rd l 0) = lowOf l := by
      obtain ⟨a, t, rfl⟩ : ∃ a t, l = a :: t := by cases l with | nil => exact absurd rfl h0 | cons a t => exact ⟨a, t, rfl⟩
      unfold lowOf
      rw [List.drop_zero, List.foldl_cons, List.drop_one, List.tail_cons, show rd (a :: t) 0 = a from rfl, mn_self]
    have e2 : (l.drop 0).foldl mx (rd l 0) = highOf l := by
      obtain ⟨a, t, rfl⟩ : ∃ a t, l = a :: t := by cases l with | nil => exact absurd rfl h0 | cons a t => exact ⟨a, t, rfl⟩
      unfold highOf
      rw [List.drop_zero, List.foldl_cons, List.drop_one, List.tail_cons, show rd (a :: t) 0 = a from rfl, mx_self]
    refine el.trans ?_
    rw [e1, e2, need_is _ ha.1 ha.2 _ (by omega), Option.bind_some, rint_is _ h1.1 h1.2 _ (by omega), Option.bind_some, if_pos (by omega)]
    have h4 := ref_l1 l (by omega) (lowOf l) (wideOf l) hw (enc (zig (lowOf l)) ++ [((wideOf l : Nat) : Int)]) (by rw [List.length_append, List.length_singleton]; omega) l.length 0 (k - l.length - 1 - (l.length * (wideOf l + 2) + 1)) [] 0 0 (by omega) Pk.nil (by omega)
    rw [show k - l.length - 1 - (l.length * (wideOf l + 2) + 1) + l.length * (wideOf l + 2) + 1 = k - l.length - 1 by omega, List.append_nil, List.drop_zero] at h4
    have e5 : ((Lib.bitLen (above (highOf l) (lowOf l)).toNat : Nat) : Int) % 256 = ((wideOf l : Nat) : Int) := by
      show ((wideOf l : Nat) : Int) % 256 = _; omega
    rw [e5]
    refine h4.trans ?_
    rw [List.append_assoc]; rfl
theorem bitLen_lt : ∀ f x, x < 2 ^ f → x < 2 ^ Lib.bitLenAux f x
  | 0, x, h => h
  | f + 1, x, h => by
    rw [Lib.bitLenAux]
    by_cases h0 : x = 0
    · rw [if_pos h0, h0]; decide
    · rw [if_neg h0, Nat.add_comm, Nat.pow_succ]
      rw [Nat.pow_succ] at h
      have := bitLen_lt f (x / 2) (by omega)
      omega
theorem above_lt (l : List Int) (h0 : l ≠ []) (hz : ∀ x ∈ l, I64 x) : ∀ x ∈ l, (above x (lowOf l)).toNat < 2 ^ wideOf l := by
  intro x hx
  obtain ⟨h1, h2, h3⟩ := low_high l h0 hz
  have hx1 := h3 x hx
  have hx2 := hz x hx
  have ha := Tight.above_range (highOf l) (lowOf l)
  have hle : (above x (lowOf l)).toNat ≤ (above (highOf l) (lowOf l)).toNat := by
    unfold above I64 at *
    simp only [IntKind.wrap_u64] at *; omega
  have hb : (above (highOf l) (lowOf l)).toNat < 2 ^ wideOf l := by
    by_cases hz0 : (above (highOf l) (lowOf l)).toNat = 0
    · rw [hz0]; exact Nat.two_pow_pos _
    · exact bitLen_lt 64 _ (by omega)
  omega
theorem fits_is (n m L : Nat) (h : L = (n * m + 7) / 8) (hm : m ≤ 64) : fits n m L = true := by
  unfold fits
  by_cases h0 : m = 0
  · rw [if_pos h0, h, h0, Nat.mul_zero]; rfl
  · have hp : 0 < m := by omega
    have h1 : n ≤ 8 * L / m := (Nat.le_div_iff_mul_le hp).mpr (by omega)
    have h2 : 8 * L / m < n + 8 := (Nat.div_lt_iff_lt_mul hp).mpr (by rw [Nat.add_mul]; omega)
    rw [if_neg h0, ← h]
    rw [decide_eq_true h1, decide_eq_true (show 8 * L / m - n < 8 by omega)]; simp
/-- What is put is got. -/
theorem get_put (l : List Int) (hl : l.length ≤ 300) (hz : ∀ x ∈ l, I64 x) (k : Nat) (hk : 4096 < k) : tight_Get.f k (putL l) (l.length : Int) = some (l, true) := by
  by_cases h0 : l = []
  · subst h0; rfl
  · have hp := List.length_pos_iff.mpr h0
    obtain ⟨h1, h2, h3⟩ := low_high l h0 hz
    have hw := wide_le l
    have he := enc_le (zig (lowOf l)) (zig_lt h1.1 h1.2)
    have hab := above_lt l h0 hz
    have hpk := put_pk (lowOf l) (wideOf l) hw l [] 0 0 hab Pk.nil
    rw [Nat.zero_add, Nat.zero_add, Nat.pow_zero, Nat.mul_one] at hpk
    have hmul2 : l.length * wideOf l ≤ 300 * 64 := Nat.mul_le_mul hl hw
    have hlen := hpk.len
    have ePut : putL l = enc (zig (lowOf l)) ++ ((wideOf l : Nat) : Int) :: putGo (lowOf l) (wideOf l) l [] 0 := by unfold putL; rw [if_neg h0]
    have hB : IsBytes (putL l) := by
      rw [ePut]
      intro x hx
      rcases List.mem_append.mp hx with hx | hx
      · exact enc_bytes _ x hx
      · rcases List.mem_cons.mp hx with rfl | hx
        · omega
        · exact hpk.byte x hx
    have hL : (putL l).length ≤ 100000 := by rw [ePut, List.length_append, List.length_cons]; omega
    have ho : openL (putL l) l.length = some (lowOf l, ((wideOf l : Nat) : Int), putGo (lowOf l) (wideOf l) l [] 0, true) := by
      unfold openL
      rw [ePut, gInt_enc h1.1 h1.2]
      simp only
      have et : gTake (((wideOf l : Nat) : Int) :: putGo (lowOf l) (wideOf l) l [] 0) false 1 = ([((wideOf l : Nat) : Int)], putGo (lowOf l) (wideOf l) l [] 0, false) := by
        unfold gTake
        rw [if_neg (by rw [List.length_cons]; simp; omega)]; rfl
      rw [et]
      simp only [Bool.false_eq_true, if_false]
      rw [show rd [((wideOf l : Nat) : Int)] 0 = ((wideOf l : Nat) : Int) from rfl, if_neg (by omega), Int.toNat_natCast, fits_is _ _ _ hlen hw]
    have hg : getGo (lowOf l) (wideOf l) (putGo (lowOf l) (wideOf l) l [] 0) l.length 0 = l := get_pk (lowOf l) (wideOf l) hw _ hpk.byte l 0 (fun x hx => ⟨hab x hx, (hz x hx).1, (hz x hx).2⟩) (by rw [hlen]; omega) (by rw [hpk.val, Nat.pow_zero, Nat.div_one])
    unfold tight_Get.f
    rw [if_neg (by omega), Int.toNat_natCast, open_is _ hB hL _ hp (by omega), Option.bind_some, ho]
    simp only
    rw [if_neg (by decide), if_pos ⟨by omega, by omega, by rw [Int.toNat_natCast, hlen]; omega, by rw [hlen]; omega⟩, Int.toNat_natCast, hg, put_is l (by omega) hz k hk, Option.bind_some]
    unfold bytes_Equal.f
    rw [Option.bind_some, if_pos (by simp)]
end Go.Proofs.Ytbbffnlefmogbaa.Tight
/- firkinref07.Get, plain law: it answers as the program's. -/
namespace Go.Proofs.Ytbbffnlefmogbaa.Tight
open Go Go.RowKit Go.Proofs.Ytbbffnlefmogbaa.X Go.Proofs.Ytbbffnlefmogbaa.Dec Go.Proofs.Ytbbffnlefmogbaa.Enc Go.Proofs.Ytbbffnlefmogbaa.Round Go.Proofs.Ytbbffnlefmogbaa.Read Go.Proofs.Ytbbffnlefmogbaa.TightB Go.Proofs.YtbbffnlefmogbaaW.PrintWords Go.Proofs.YtbbffnlefmogbaaW.PrintLast Go.Proofs.YtbbffnlefmogbaaW.PrintMore
set_option linter.unusedVariables false
set_option linter.unusedSimpArgs false
theorem byte_bit {b : List Int} (hb : Byte b) (i : Nat) (hi : i / 8 < b.length) : Int.tmod (rd b ((i / 8 : Nat) : Int) / 2 ^ (i % 8)) 2 = ((valL b / 2 ^ i % 2 : Nat) : Int) := by
  have hv := valL_byte b (i / 8) hb hi
  have hr : 0 ≤ rd b ((i / 8 : Nat) : Int) ∧ rd b ((i / 8 : Nat) : Int) < 256 := by
    have e : rd b ((i / 8 : Nat) : Int) = b[i / 8] := by
      show b.getD ((i / 8 : Nat) : Int).toNat 0 = _
      rw [Int.toNat_natCast]; simp [hi]
    rw [e]; exact hb _ (List.getElem_mem hi)
  obtain ⟨y, hy⟩ := Int.eq_ofNat_of_zero_le hr.1
  rw [hy] at hv hr ⊢
  rw [Int.toNat_natCast] at hv
  have e : (y : Int) / 2 ^ (i % 8) = ((y / 2 ^ (i % 8) : Nat) : Int) := by rw [Int.natCast_ediv, Int.natCast_pow]; rfl
  rw [e, Int.tmod_eq_emod_of_nonneg (Int.natCast_nonneg _), show ((y / 2 ^ (i % 8) : Nat) : Int) % 2 = ((y / 2 ^ (i % 8) % 2 : Nat) : Int) by generalize y / 2 ^ (i % 8) = z; omega]
  congr 1
  have hp : 2 ^ i = 256 ^ (i / 8) * 2 ^ (i % 8) := by rw [Nat.mul_comm]; exact pow8 i
  rw [hp, ← Nat.div_div_eq_div_mul, ← hv]
  have h256 : (256 : Nat) = 2 ^ (i % 8) * 2 ^ (8 - i % 8) := by rw [← Nat.pow_add, show i % 8 + (8 - i % 8) = 8 by omega]
  obtain ⟨z, hz⟩ : ∃ z, valL b / 256 ^ (i / 8) = z := ⟨_, rfl⟩
  rw [hz]
  rw [h256, Nat.mod_mul_right_div_self, Nat.mod_mod_of_dvd]
  exact ⟨2 ^ (8 - i % 8 - 1), by rw [← Nat.pow_succ', show (8 - i % 8 - 1).succ = 8 - i % 8 by omega]⟩
theorem add_read (u t k : Nat) (hu : u < 2 ^ k) (ht : t ≤ 1) (hk : k < 64) : IntKind.u64.wrap ((u : Int) + IntKind.u64.wrap (IntKind.u64.wrap (t : Int) * 2 ^ min k 64)) = ((u + t * 2 ^ k : Nat) : Int) := by
  have hp : (2 : Nat) ^ k ≤ 2 ^ 63 := Nat.pow_le_pow_right (by decide) (by omega)
  have hm : t * 2 ^ k ≤ 1 * 2 ^ k := Nat.mul_le_mul_right _ ht
  have e : IntKind.u64.wrap (IntKind.u64.wrap (t : Int) * 2 ^ min k 64) = ((t * 2 ^ k : Nat) : Int) := by
    rw [show min k 64 = k by omega, show IntKind.u64.wrap (t : Int) = (t : Int) by rw [IntKind.wrap_u64]; omega]
    have : (t : Int) * 2 ^ k = ((t * 2 ^ k : Nat) : Int) := by rw [Int.natCast_mul, Int.natCast_pow]; rfl
    rw [this, IntKind.wrap_u64]; omega
  rw [e, IntKind.wrap_u64]; omega
theorem rread_is {b : List Int} (hb : Byte b) : ∀ (d k u a : Nat), k + d ≤ 64 → u < 2 ^ k → a + d ≤ 8 * b.length → rread b d k (u : Int) a = ((u + (valL b / 2 ^ a % 2 ^ d) * 2 ^ k : Nat) : Int)
  | 0, k, u, a, _, _, _ => by rw [rread, Nat.pow_zero, Nat.mod_one, Nat.zero_mul, Nat.add_zero]
  | d + 1, k, u, a, hk, hu, ha => by
    have ht : valL b / 2 ^ a % 2 ≤ 1 := by omega
    have hm : valL b / 2 ^ a % 2 * 2 ^ k ≤ 1 * 2 ^ k := Nat.mul_le_mul_right _ ht
    rw [rread, byte_bit hb a (by omega), add_read u _ k hu ht (by omega), rread_is hb d (k + 1) _ (a + 1) (by omega) (by rw [Nat.pow_succ]; omega) (by omega), mod_succ, show valL b / 2 ^ a / 2 = valL b / 2 ^ (a + 1) by rw [Nat.div_div_eq_div_mul, Nat.pow_succ]]
    congr 1
    rw [Nat.add_mul, Nat.pow_succ 2 k, Nat.mul_assoc 2, Nat.mul_comm 2, Nat.mul_assoc _ (2 ^ k)]; omega
theorem rget_eq (lo : Int) (m : Nat) (hm : m ≤ 64) (b : List Int) (hb : Byte b) : ∀ (d a : Nat), a + d * m ≤ 8 * b.length → rgetGo lo m b d a = getGo lo m b d a
  | 0, _, _ => rfl
  | d + 1, a, h => by
    rw [Nat.succ_mul] at h
    have e1 : rread b m 0 0 a = readGo b m 0 0 a := (rread_is hb m 0 0 a (by omega) (by decide) (by omega)).trans (read_is hb m 0 0 a (by omega) (by decide) (by omega)).symm
    rw [rgetGo, getGo, rget_eq lo m hm b hb d (a + m) (by omega), e1]; rfl
theorem fits_iff (n m L : Nat) (hm : m ≤ 64) : fits n m L = decide (L = (n * m + 7) / 8) := by
  by_cases h : L = (n * m + 7) / 8
  · rw [fits_is n m L h hm, decide_eq_true h]
  · rw [decide_eq_false h]
    unfold fits
    by_cases h0 : m = 0
    · rw [if_pos h0]
      rw [h0, Nat.mul_zero] at h
      exact beq_eq_false_iff_ne.mpr h
    · rw [if_neg h0, beq_eq_false_iff_ne.mpr (Ne.symm h), Bool.and_false]
/-- The document's answer is the program's. -/
theorem rget_is (b : List Int) (hb : IsBytes b) (hl : b.length ≤ 400) (n : Int) (hn : n ≤ 400) (k : Nat) (hk : 40000 ≤ k) : firkinref07_Get.f k b n = tight_Get.f k b n := by
  have hg : GoodS b false := GoodS.of ⟨hb, by omega⟩
  have hg1 : GoodS (gInt b false).2.1 (gInt b false).2.2 := gNum_good hg
  have hn1 : (gInt b false).2.1.length ≤ b.length := gNum_len b false
  have hg2 := gTake_good hg1 1
  have hn2 := gTake_len (gInt b false).2.1 (gInt b false).2.2 1
  have hby := gTake_bytes hg1 1
  unfold firkinref07_Get.f tight_Get.f
  by_cases h0 : n = 0
  · subst h0
    rw [if_pos rfl, if_pos (Or.inl (Int.le_refl _))]; rfl
  · rw [if_neg h0, rint_g hg, Option.bind_some, rtake_g hg1, Option.bind_some]
    by_cases hneg : n < 0
    · rw [if_pos (Or.inl (by omega)), decide_eq_false h0, Bool.false_and, if_pos hneg]
      split <;> rfl
    · have hnn : ¬ (n ≤ 0 ∨ n > 4096) := by omega
      rw [if_neg hnn, open_is b hb (by omega) n.toNat (by omega) (by omega), Option.bind_some]
      unfold openL
      simp only
      generalize gTake (gInt b false).2.1 (gInt b false).2.2 1 = t at *
      obtain ⟨t1, l2, b2⟩ := t
      simp only at *
      cases b2 with
      | true => rw [if_pos rfl, if_pos rfl]
      | false =>
        simp only [Bool.false_eq_true, if_false]
        rw [if_neg hneg, if_neg (by omega)]
        by_cases h64 : rd t1 0 > 64
        · rw [if_pos h64, if_pos h64]
        · have hy0 : 0 ≤ rd t1 0 := by
            cases t1 with
            | nil => exact Int.le_refl _
            | cons a r => exact (hby a List.mem_cons_self).1
          have hB2 : Byte l2 := hg2.1.1
          rw [if_neg h64, if_neg h64, if_pos ⟨hy0, by omega⟩, fits_iff _ _ _ (by omega)]
          simp only
          by_cases hL : l2.length = (n.toNat * (rd t1 0).toNat + 7) / 8
          · rw [if_pos hL, decide_eq_true hL]
            have hmul : n.toNat * (rd t1 0).toNat ≤ 8 * l2.length := by omega
            have eL := rget_eq (gInt b false).1 (rd t1 0).toNat (by omega) l2 hB2 n.toNat 0 (by omega)
            rw [eL, if_neg (by decide), if_pos ⟨hy0, by omega, hmul, by omega⟩, rput_is _ (by rw [getGo_len]; omega) (getGo_i64 _ _ _ _ _) k hk, put_is _ (by rw [getGo_len]; omega) (getGo_i64 _ _ _ _ _) k (by omega), Option.bind_some, Option.bind_some]
            unfold bytes_Equal.f
            rw [Option.bind_some]
          · rw [if_neg hL, decide_eq_false hL, if_pos rfl]
end Go.Proofs.Ytbbffnlefmogbaa.Tight
/- dict.Put and Get, plain law: the bytes are the document's, and so is what is got. -/
namespace Go.Proofs.Ytbbffnlefmogbaa.DictP
open Go Go.RowKit Go.Proofs.Ytbbffnlefmogbaa.TightB Go.Proofs.Ytbbffnlefmogbaa.X Go.Proofs.Ytbbffnlefmogbaa.Dec Go.Proofs.Ytbbffnlefmogbaa.Enc Go.Proofs.Ytbbffnlefmogbaa.Round Go.Proofs.Ytbbffnlefmogbaa.Read Go.Proofs.Ytbbffnlefmogbaa.EncText Go.Proofs.Ytbbffnlefmogbaa.Tight Go.Proofs.YtbbffnlefmogbaaW.PrintWords Go.Proofs.YtbbffnlefmogbaaW.PrintLast Go.Proofs.YtbbffnlefmogbaaW.PrintMore
set_option linter.unusedVariables false
set_option linter.unusedSimpArgs false
theorem rising_ix {W : List ByteArray} (hW : W.Pairwise fun a b => a.data.toList < b.data.toList) (i j : Nat) (hi : i < W.length) (hj : j < W.length) (h : W[i] = W[j]) : i = j := by
  rcases Nat.lt_trichotomy i j with h1 | h1 | h1
  · have h2 := List.pairwise_iff_getElem.1 hW i j hi hj h1
    rw [h] at h2; exact absurd h2 (List.lt_irrefl _)
  · exact h1
  · have h2 := List.pairwise_iff_getElem.1 hW j i hj hi h1
    rw [h] at h2; exact absurd h2 (List.lt_irrefl _)
theorem ix_iff (l : List ByteArray) (s : ByteArray) (hs : s ∈ l) (j : Nat) (hj : j < (dpL l).length) : (dpL l)[j].toList = s.toList ↔ j = dpIx (dpL l) s := by
  have h1 := dpIx_lt l s hs
  have h2 := dpIx_at l s hs
  rw [getD_get _ _ h1] at h2
  constructor
  · intro h
    exact rising_ix (dpL_lt l) _ _ hj h1 ((ba_toList h).trans h2.symm)
  · intro h
    subst h
    rw [h2]
theorem put_l1 (l : List ByteArray) (hl : l.length ≤ 4096) (i : Nat) (hi : i < l.length) : ∀ (d j f : Nat) (at_ : List Int), j + d = (dpL l).length → at_.length ≤ 100000 + j → firkinref08_Put.l1 (f + d + 1) l (dpL l) at_ (i : Int) (j : Int) = firkinref08_Put.l0 f l (dpL l) (at_ ++ if j ≤ dpIx (dpL l) l[i] then [(dpIx (dpL l) l[i] : Int)] else []) (wrap64 ((i : Int) + 1))
  | 0, j, f, at_, h, ha => by
    have h1 := dpIx_lt l l[i] (List.getElem_mem hi)
    rw [firkinref08_Put.l1, if_neg (by omega), if_neg (by omega), List.append_nil]
  | d + 1, j, f, at_, h, ha => by
    have h1 := dpIx_lt l l[i] (List.getElem_mem hi)
    have h0 := dpL_len l
    have hj : j < (dpL l).length := by omega
    rw [show f + (d + 1) + 1 = (f + d + 1) + 1 by omega, firkinref08_Put.l1, if_pos (by omega), if_pos (by omega), if_pos (by omega), if_pos (by omega), rd_at _ j hj, rd_at l i hi, wr1 j (by omega)]
    by_cases hx : j = dpIx (dpL l) l[i]
    · rw [if_pos ((ix_iff l l[i] (List.getElem_mem hi) j hj).2 hx), if_pos (by omega), put_l1 l hl i hi d (j + 1) f _ (by omega) (by rw [List.length_append, List.length_singleton]; omega), if_neg (by omega), if_pos (by omega), List.append_nil, ← hx]
    · rw [if_neg (fun e => hx ((ix_iff l l[i] (List.getElem_mem hi) j hj).1 e)), put_l1 l hl i hi d (j + 1) f _ (by omega) (by omega)]
      by_cases h2 : j ≤ dpIx (dpL l) l[i]
      · rw [if_pos h2, if_pos (by omega)]
      · rw [if_neg h2, if_neg (by omega)]
/-- Where the first texts of a list stand among its words. -/
def atT (l : List ByteArray) (i : Nat) : List Int := (l.take i).map fun s => (dpIx (dpL l) s : Int)
theorem atT_all (l : List ByteArray) : atT l l.length = atL l := by unfold atT atL; rw [List.take_length]
theorem atT_succ (l : List ByteArray) (i : Nat) (hi : i < l.length) : atT l (i + 1) = atT l i ++ [(dpIx (dpL l) l[i] : Int)] := by
  unfold atT
  rw [List.take_succ_eq_append_getElem hi, List.map_append]; rfl
theorem atT_len (l : List ByteArray) (i : Nat) : (atT l i).length ≤ i := by unfold atT; rw [List.length_map, List.length_take]; omega
theorem rput_l0 (l : List ByteArray) (hl : l.length ≤ 400) (hs : Sm l) : ∀ (d i F : Nat), i + d = l.length → d * ((dpL l).length + 2) + 45000 ≤ F → firkinref08_Put.l0 F l (dpL l) (atT l i) (i : Int) = some (dputL l)
  | 0, i, F, h, hF => by
    obtain ⟨k, rfl⟩ : ∃ q, F = q + 1 := ⟨F - 1, by omega⟩
    have h1 := dpL_len l
    have hz := atL_i64 (l := l) (by omega)
    have hlen : (atL l).length = l.length := List.length_map ..
    have h2 := enc_le (dpL l).length (by omega)
    have h3 := plainL_len (dpL l) hs.dpL
    have h4 := putL_len (atL l) (by omega) hz
    rw [firkinref08_Put.l0, if_neg (by omega), wrap_u64_of (by omega) (by omega), rnum_is _ (by omega) k (by omega), Option.bind_some, rplain_is _ (by omega) hs.dpL k (by omega), Option.bind_some, if_pos (by omega), Option.bind_some, show i = l.length by omega, atT_all, rput_is _ (by omega) hz k (by omega), Option.bind_some, if_pos (by rw [List.length_append]; omega)]
    unfold dputL
    rw [List.append_assoc]
  | d + 1, i, F, h, hF => by
    have h1 := dpL_len l
    have hi : i < l.length := by omega
    rw [Nat.succ_mul] at hF
    obtain ⟨f, rfl⟩ : ∃ f, F = (f + (dpL l).length + 1) + 1 := ⟨F - (dpL l).length - 2, by omega⟩
    have ha := atT_len l i
    rw [firkinref08_Put.l0, if_pos (by omega)]
    have h5 := put_l1 l (by omega) i hi (dpL l).length 0 f (atT l i) (by omega) (by omega)
    rw [if_pos (Nat.zero_le _), wr1 i (by omega), ← atT_succ l i hi] at h5
    exact h5.trans (rput_l0 l hl hs d (i + 1) f (by omega) (by omega))
theorem rdput_is (l : List ByteArray) (hl : l.length ≤ 400) (hs : Sm l) (k : Nat) (hk : 250000 ≤ k) : firkinref08_Put.f k l = some (dputL l) := by
  unfold firkinref08_Put.f firkinref08_words.f
  have h1 := dpL_len l
  have h2 : l.length * ((dpL l).length + 2) ≤ 400 * 402 := Nat.mul_le_mul hl (by omega)
  rw [if_pos (by omega), Option.bind_some, words_same]
  exact rput_l0 l hl hs l.length 0 k (by omega) (by omega)
/-- The texts at the places, if all are there. -/
def lookL (W : List ByteArray) : List Int → Option (List ByteArray)
  | [] => some []
  | a :: t => if 0 ≤ a ∧ a < (W.length : Int) then (lookL W t).map (fun L => rdOf ByteArray.empty W a :: L) else none
def finS (b : List Int) : Option (List ByteArray) → List ByteArray × Bool
  | none => ([], false)
  | some L => if ((strOfNums (dputL L)).toList == (strOfNums b).toList) = true then (L, true) else ([], false)
theorem finS_some (b : List Int) (L : List ByteArray) : finS b (some L) = if ((strOfNums (dputL L)).toList == (strOfNums b).toList) = true then (L, true) else ([], false) := rfl
theorem rdOf_mem (W : List ByteArray) (a : Int) (h0 : 0 ≤ a) (h1 : a < (W.length : Int)) : rdOf ByteArray.empty W a ∈ W := by
  obtain ⟨n, rfl⟩ : ∃ n : Nat, a = (n : Int) := ⟨a.toNat, by omega⟩
  rw [rd_at W n (by omega)]
  exact List.getElem_mem _
theorem set_pre (pre : List ByteArray) (d : Nat) (x z : ByteArray) : (pre ++ List.replicate (d + 1) z).set ((pre.length : Nat) : Int).toNat x = (pre ++ [x]) ++ List.replicate d z := by
  rw [Int.toNat_natCast, List.set_append_right _ _ (Nat.le_refl _), Nat.sub_self, List.replicate_succ, List.set_cons_zero, List.append_assoc]; rfl
theorem rd_is (l : List Int) (i : Nat) (hi : i < l.length) : rd l (i : Int) = l[i] := by unfold rd; simp [hi]
theorem dlook (b : List Int) (W : List ByteArray) (hW : Sm W) (at_ : List Int) (hat : at_.length ≤ 400) : ∀ (d i k : Nat) (pre : List ByteArray), i + d = at_.length → pre.length = i → Sm pre → 6000 + d ≤ k → dict_Get.l0 k b W (pre ++ List.replicate d (⟨#[]⟩ : ByteArray)) at_ (at_.length : Int) (i : Int) = some (finS b ((lookL W (at_.drop i)).map fun L => pre ++ L))
  | 0, i, k, pre, h, hp, hs, hk => by
    obtain ⟨k, rfl⟩ : ∃ q, k = q + 1 := ⟨k - 1, by omega⟩
    rw [dict_Get.l0, if_neg (by omega), List.replicate_zero, List.append_nil, dput_is pre (by omega) hs k (by omega), Option.bind_some, show i = at_.length by omega, List.drop_length]
    unfold bytes_Equal.f
    rw [Option.bind_some]
    show _ = some (finS b (some (pre ++ [])))
    rw [List.append_nil, finS_some]
    split <;> rfl
  | d + 1, i, k, pre, h, hp, hs, hk => by
    obtain ⟨k, rfl⟩ : ∃ q, k = q + 1 := ⟨k - 1, by omega⟩
    have hi : i < at_.length := by omega
    rw [dict_Get.l0, if_pos (by omega), if_pos (by omega), if_pos (by omega), rd_is at_ i hi, List.drop_eq_getElem_cons hi, lookL]
    by_cases h1 : at_[i] < 0
    · rw [if_pos h1, if_neg (by omega)]; rfl
    · rw [if_neg h1]
      by_cases h2 : at_[i] ≥ (W.length : Int)
      · rw [if_pos h2, if_neg (by omega)]; rfl
      · have hl : (pre ++ List.replicate (d + 1) (⟨#[]⟩ : ByteArray)).length = i + (d + 1) := by rw [List.length_append, List.length_replicate, hp]
        rw [if_neg h2, if_pos (by omega), if_pos (by omega), if_pos (by rw [hl]; omega), if_pos (by omega), wr1 i (by omega), show ((i : Int)).toNat = ((pre.length : Nat) : Int).toNat by rw [hp], set_pre]
        have hm := rdOf_mem W at_[i] (by omega) (by omega)
        rw [dlook b W hW at_ hat d (i + 1) k (pre ++ [rdOf ByteArray.empty W at_[i]]) (by omega) (by rw [List.length_append, List.length_singleton, hp]) (fun s h9 => by
          rcases List.mem_append.1 h9 with h8 | h8
          · exact hs s h8
          · rw [List.mem_singleton.1 h8]; exact hW _ hm) (by omega)]
        rw [Option.map_map]
        congr 3
        funext L
        simp
theorem rlook (b : List Int) (W : List ByteArray) (hW : Sm W) (at_ : List Int) (hat : at_.length ≤ 400) : ∀ (d i k : Nat) (pre : List ByteArray), i + d = at_.length → pre.length = i → Sm pre → 260000 + d ≤ k → firkinref08_Get.l1 k b W at_ pre (i : Int) = some (finS b ((lookL W (at_.drop i)).map fun L => pre ++ L))
  | 0, i, k, pre, h, hp, hs, hk => by
    obtain ⟨k, rfl⟩ : ∃ q, k = q + 1 := ⟨k - 1, by omega⟩
    rw [firkinref08_Get.l1, if_neg (by omega), rdput_is pre (by omega) hs k (by omega), Option.bind_some, show i = at_.length by omega, List.drop_length]
    show _ = some (finS b (some (pre ++ [])))
    rw [List.append_nil, finS_some]
    by_cases he : (strOfNums (dputL pre)).toList = (strOfNums b).toList
    · rw [if_pos he, if_pos (beq_iff_eq.mpr he)]
    · rw [if_neg he, if_neg (fun e => he (beq_iff_eq.mp e))]
  | d + 1, i, k, pre, h, hp, hs, hk => by
    obtain ⟨k, rfl⟩ : ∃ q, k = q + 1 := ⟨k - 1, by omega⟩
    have hi : i < at_.length := by omega
    rw [firkinref08_Get.l1, if_pos (by omega), if_pos (by omega), rd_is at_ i hi, List.drop_eq_getElem_cons hi, lookL]
    by_cases h1 : at_[i] < 0
    · rw [if_pos h1, if_neg (by omega)]; rfl
    · rw [if_neg h1]
      by_cases h2 : at_[i] ≥ (W.length : Int)
      · rw [if_pos h2, if_neg (by omega)]; rfl
      · rw [if_neg h2, if_pos (by omega), if_pos (by omega), if_pos (by omega), if_pos (by omega), wr1 i (by omega)]
        have hm := rdOf_mem W at_[i] (by omega) (by omega)
        rw [rlook b W hW at_ hat d (i + 1) k (pre ++ [rdOf ByteArray.empty W at_[i]]) (by omega) (by rw [List.length_append, List.length_singleton, hp]) (fun s h9 => by
          rcases List.mem_append.1 h9 with h8 | h8
          · exact hs s h8
          · rw [List.mem_singleton.1 h8]; exact hW _ hm) (by omega)]
        rw [Option.map_map]
        congr 3
        funext L
        simp
theorem tget_up (r : List Int) (n : Int) (q : List Int × Bool) (h : tight_Get.f 5000 r n = some q) (k : Nat) (hk : 5000 ≤ k) : tight_Get.f k r n = some q := by
  obtain ⟨d, rfl⟩ : ∃ d, k = 5000 + d := ⟨k - 5000, by omega⟩
  clear hk
  induction d with
  | zero => exact h
  | succ d ih => exact tight_Get.mono _ _ _ _ ih
/-- What Get answers of what was read. -/
def getS (b : List Int) (n : Int) (g : List ByteArray × List Int × Bool) : Option (List ByteArray × Bool) :=
  if g.2.2 = true then some ([], false) else (tight_Get.f 5000 g.2.1 n).bind fun q => if q.2 = true then some (finS b (lookL g.1 q.1)) else some ([], false)
theorem dget_is (b : List Int) (hf : Fit b) (hl : b.length ≤ 400) (n : Int) (hn : n ≤ 400) (most : Int) (hm : most < 9223372036854775808) (k : Nat) (hk : 300000 ≤ k) :
    dict_Get.f k b n most = getS b n (gTexts most (gBelow b false ((b.length : Int) + 1)).1.toNat [] (gBelow b false ((b.length : Int) + 1)).2.1 (gBelow b false ((b.length : Int) + 1)).2.2) := by
  have hw : wrap64 ((b.length : Int) + 1) = (b.length : Int) + 1 := by unfold wrap64; omega
  unfold dict_Get.f
  rw [show vint_From.f b = some (b, false) from rfl, Option.bind_some]
  simp only
  rw [hw, below_g (GoodS.of hf) _ (by omega), Option.bind_some]
  have hg := gBelow_good (GoodS.of hf) ((b.length : Int) + 1)
  have hr := gBelow_range (GoodS.of hf) ((b.length : Int) + 1)
  have hlen := gBelow_len b false ((b.length : Int) + 1)
  generalize gBelow b false ((b.length : Int) + 1) = g at hg hr hlen ⊢
  obtain ⟨x, r, bd⟩ := g
  simp only at hg hr hlen ⊢
  obtain ⟨m, rfl⟩ : ∃ m : Nat, x = (m : Int) := ⟨x.toNat, by omega⟩
  rw [Int.toNat_natCast, read_is most hm m (by omega) r bd hg k (by omega), Option.bind_some]
  have hg2 := gTexts_good most m [] r bd hg
  have ho := gTexts_out most m [] r bd
  have hz := gTexts_size most 400 m [] r bd hg (by omega) (by simp)
  have hl2 := gTexts_len most m [] r bd
  generalize gTexts most m [] r bd = t at hg2 ho hz hl2 ⊢
  obtain ⟨W, r2, b2⟩ := t
  simp only at hg2 ho hz hl2 ⊢
  rw [left_g hg2, Option.bind_some]
  simp only
  rw [take_g hg2, Option.bind_some]
  obtain ⟨k, rfl⟩ : ∃ q, k = q + 1 := ⟨k - 1, by omega⟩
  unfold getS
  simp only
  cases b2 with
  | true =>
    have e : gTake r2 true (r2.length : Int) = ([], [], true) := by unfold gTake; rw [if_pos (Or.inl rfl)]
    obtain ⟨q, t, e1, _⟩ := get_is [] (fun x hx => by cases hx) (by decide) n hn 5000 (by decide)
    rw [e]
    simp only
    rw [tget_up _ _ _ e1 _ (by omega), Option.bind_some, show vint_Source_Ok.f [] true = some (!true, [], true) from rfl, Option.bind_some, if_neg (show ¬ (!true) = true by decide), dict_Get.j0, if_pos rfl, if_pos trivial]
  | false =>
    have e : gTake r2 false (r2.length : Int) = (r2, [], false) := by
      unfold gTake
      rw [if_neg (by simp)]
      simp
    obtain ⟨q, t, e1, f1, t1⟩ := get_is r2 hg2.1.1 (by omega) n hn 5000 (by decide)
    rw [e]
    simp only
    rw [tget_up _ _ _ e1 _ (by omega), Option.bind_some, show vint_Source_Ok.f [] false = some (!false, [], false) from rfl, Option.bind_some, if_pos (show (!false) = true from rfl), if_neg (by decide), e1, Option.bind_some, dict_Get.j0]
    cases t with
    | false => rw [if_pos (by rfl), if_neg (fun h => by cases h)]
    | true =>
      have hq := (t1 rfl).1
      simp only
      rw [if_neg (by simp), if_pos (by omega), if_pos (by omega), if_pos trivial]
      simp only [Int.toNat_natCast]
      have h9 := dlook b W (fun s h => by have := hz s h; omega) q (by omega) q.length 0 k [] (by omega) rfl (fun s h => by cases h) (by omega)
      rw [List.nil_append, List.drop_zero] at h9
      refine h9.trans ?_
      rw [show (fun L : List ByteArray => [] ++ L) = id from rfl, Option.map_id_fun]; rfl
theorem rget_l0 (b : List Int) (n most : Int) (hm : most < 9223372036854775808) (N : Nat) (hN : N ≤ 400) : ∀ (d F f : Nat) (out : List ByteArray) (l : List Int) (bad : Bool), GoodS l bad → out.length + d = N → f + d + 2 ≤ F → ∃ f', f ≤ f' ∧ firkinref08_Get.l0 F b n most (N : Int) out (out.length : Int) l bad = firkinref08_Get.j1 f' b n (gTexts most d out l bad).1 (gTexts most d out l bad).2.1 (gTexts most d out l bad).2.2
  | 0, F, f, out, l, bad, hg, h, hF => by
    obtain ⟨k, rfl⟩ : ∃ q, F = q + 1 := ⟨F - 1, by omega⟩
    exact ⟨k, by omega, by rw [firkinref08_Get.l0, if_neg (by omega)]; rfl⟩
  | d + 1, F, f, out, l, bad, hg, h, hF => by
    obtain ⟨k, rfl⟩ : ∃ q, F = q + 2 := ⟨F - 2, by omega⟩
    cases bad with
    | true => exact ⟨k + 1, by omega, by rw [firkinref08_Get.l0, if_pos (by omega), if_pos rfl, gTexts_bad]⟩
    | false =>
      obtain ⟨f', h1, h2⟩ := rget_l0 b n most hm N hN d (k + 1) f (out ++ [(gText l false most).1]) (gText l false most).2.1 (gText l false most).2.2 (gText_good hg most) (by rw [List.length_append, List.length_singleton]; omega) (by omega)
      refine ⟨f', h1, ?_⟩
      rw [firkinref08_Get.l0, if_pos (by omega), if_neg (by decide), rtext_g hg most hm k, Option.bind_some, if_pos (by omega), wr1 _ (by omega), gTexts, if_neg (by decide)]
      rw [List.length_append, List.length_singleton] at h2
      exact h2
theorem rget_is' (b : List Int) (hf : Fit b) (hl : b.length ≤ 400) (n : Int) (hn : n ≤ 400) (most : Int) (hm : most < 9223372036854775808) (k : Nat) (hk : 300000 ≤ k) :
    firkinref08_Get.f k b n most = getS b n (gTexts most (gBelow b false 401).1.toNat [] (gBelow b false 401).2.1 (gBelow b false 401).2.2) := by
  unfold firkinref08_Get.f
  rw [show new39.f b = some (b, false) from rfl, Option.bind_some]
  simp only
  rw [rbelow_g (GoodS.of hf) _ (by omega), Option.bind_some]
  have hg := gBelow_good (GoodS.of hf) 401
  have hr := gBelow_range (GoodS.of hf) 401
  have hlen := gBelow_len b false 401
  generalize gBelow b false 401 = g at hg hr hlen ⊢
  obtain ⟨x, r, bd⟩ := g
  simp only at hg hr hlen ⊢
  obtain ⟨m, rfl⟩ : ∃ m : Nat, x = (m : Int) := ⟨x.toNat, by omega⟩
  obtain ⟨f', h1, h2⟩ := rget_l0 b n most hm m (by omega) m k 290000 [] r bd hg (by simp) (by omega)
  rw [List.length_nil] at h2
  rw [Int.toNat_natCast]
  refine h2.trans ?_
  have hg2 := gTexts_good most m [] r bd hg
  have ho := gTexts_out most m [] r bd
  have hz := gTexts_size most 400 m [] r bd hg (by omega) (by simp)
  have hl2 := gTexts_len most m [] r bd
  generalize gTexts most m [] r bd = t at hg2 ho hz hl2 ⊢
  obtain ⟨W, r2, b2⟩ := t
  simp only at hg2 ho hz hl2 ⊢
  obtain ⟨f', rfl⟩ : ∃ q, f' = q + 1 := ⟨f' - 1, by omega⟩
  unfold getS
  simp only
  rw [firkinref08_Get.j1]
  cases b2 with
  | true => rw [if_pos rfl, if_pos rfl]
  | false =>
    obtain ⟨q, t, e1, f1, t1⟩ := get_is r2 hg2.1.1 (by omega) n hn 5000 (by decide)
    rw [if_neg (by decide), if_neg (by decide), rget_is r2 hg2.1.1 (by omega) n hn f' (by omega), tget_up _ _ _ e1 f' (by omega), e1, Option.bind_some, Option.bind_some]
    cases t with
    | false => rw [if_neg (fun h => by cases h), if_neg (fun h => by cases h)]
    | true =>
      have hq := (t1 rfl).1
      rw [if_pos rfl, if_pos rfl]
      have h9 := rlook b W (fun s h => by have := hz s h; omega) q (by omega) q.length 0 f' [] (by omega) rfl (fun s h => by cases h) (by omega)
      rw [List.drop_zero] at h9
      refine h9.trans ?_
      rw [show (fun L : List ByteArray => [] ++ L) = id from rfl, Option.map_id_fun]; rfl
/-- The code reads no more words than there are bytes; the document up to 400: it is the same. -/
theorem gets_same (b : List Int) (hf : Fit b) (hl : b.length ≤ 400) (n most : Int) : getS b n (gTexts most (gBelow b false ((b.length : Int) + 1)).1.toNat [] (gBelow b false ((b.length : Int) + 1)).2.1 (gBelow b false ((b.length : Int) + 1)).2.2) = getS b n (gTexts most (gBelow b false 401).1.toNat [] (gBelow b false 401).2.1 (gBelow b false 401).2.2) := by
  unfold gBelow
  have hg := gNum_good (GoodS.of hf)
  have hr := gNum_range (GoodS.of hf)
  have hlen := gNum_len b false
  generalize gNum b false = g at hg hr hlen ⊢
  obtain ⟨x, r, bd⟩ := g
  simp only at hg hr hlen ⊢
  have hbad : ∀ W r2, getS b n (W, r2, true) = some ([], false) := fun W r2 => by unfold getS; rw [if_pos rfl]
  cases bd with
  | true => rw [if_pos (Or.inl rfl), if_pos (Or.inl rfl)]
  | false =>
    by_cases h1 : (b.length : Int) + 1 ≤ x
    · rw [if_pos (Or.inr (Or.inr h1)), gTexts_bad, hbad]
      by_cases h2 : (401 : Int) ≤ x
      · rw [if_pos (Or.inr (Or.inr h2)), gTexts_bad, hbad]
      · rw [if_neg (by simp; omega)]
        simp only
        have ho := gTexts_out most x.toNat [] r false
        cases hb : (gTexts most x.toNat [] r false).2.2 with
        | true =>
          have e : gTexts most x.toNat [] r false = ((gTexts most x.toNat [] r false).1, (gTexts most x.toNat [] r false).2.1, true) := by rw [← hb]
          rw [e, hbad]
        | false =>
          have h5 := gTexts_own most x.toNat [] r hg.1 hb
          have h6 := congrArg List.length h5
          have h7 := plainL_ge (gTexts most x.toNat [] r false).1
          have h8 := ho.2 hb
          simp only [List.length_append, plainL, List.map_nil, List.flatten_nil, List.length_nil] at h6 h7 h8
          omega
    · rw [if_neg (by simp; omega), if_neg (by simp; omega)]
theorem getS_is (b : List Int) (hf : Fit b) (hl : b.length ≤ 400) (n : Int) (hn : n ≤ 400) (g : List ByteArray × List Int × Bool) (hg : GoodS g.2.1 g.2.2) (hgl : g.2.1.length ≤ 400) : ∃ x t, getS b n g = some (x, t) ∧ x.length ≤ 400 := by
  have hlk : ∀ (W : List ByteArray) (at_ : List Int) L, lookL W at_ = some L → L.length = at_.length := by
    intro W at_
    induction at_ with
    | nil => intro L h; rw [lookL] at h; injection h with h; subst h; rfl
    | cons a t ih =>
      intro L h
      rw [lookL] at h
      split at h
      · cases hq : lookL W t with
        | none => rw [hq] at h; cases h
        | some L2 => rw [hq] at h; injection h with h; subst h; rw [List.length_cons, List.length_cons, ih L2 hq]
      · cases h
  unfold getS
  split
  · exact ⟨_, _, rfl, by simp⟩
  · obtain ⟨q, t, e1, f1, t1⟩ := get_is g.2.1 hg.1.1 hgl n hn 5000 (by decide)
    rw [e1, Option.bind_some]
    split
    · rename_i ht
      have hq := (t1 ht).1
      unfold finS
      cases hk : lookL g.1 q with
      | none => exact ⟨[], false, by simp, by simp⟩
      | some L =>
        have := hlk g.1 q L hk
        simp only
        split
        · exact ⟨L, true, rfl, by omega⟩
        · exact ⟨[], false, rfl, by simp⟩
    · exact ⟨_, _, rfl, by simp⟩
theorem putL_bytes (l : List Int) (hl : l.length ≤ 300) (hz : ∀ x ∈ l, I64 x) : IsBytes (putL l) := by
  by_cases h0 : l = []
  · subst h0; intro x hx; simp [putL] at hx
  · have hw := wide_le l
    have hab := above_lt l h0 hz
    have hpk := put_pk (lowOf l) (wideOf l) hw l [] 0 0 hab Pk.nil
    have ePut : putL l = enc (zig (lowOf l)) ++ ((wideOf l : Nat) : Int) :: putGo (lowOf l) (wideOf l) l [] 0 := by unfold putL; rw [if_neg h0]
    rw [ePut]
    intro x hx
    rcases List.mem_append.mp hx with hx | hx
    · exact enc_bytes _ x hx
    · rcases List.mem_cons.mp hx with rfl | hx
      · omega
      · exact hpk.byte x hx
theorem look_back (l : List ByteArray) : ∀ (m : List ByteArray), (∀ s ∈ m, s ∈ l) → lookL (dpL l) (m.map fun s => (dpIx (dpL l) s : Int)) = some m
  | [], _ => rfl
  | s :: m, h => by
    have h1 := dpIx_lt l s (h s List.mem_cons_self)
    have h2 := dpIx_at l s (h s List.mem_cons_self)
    rw [getD_get _ _ h1] at h2
    rw [List.map_cons, lookL, if_pos (by omega), look_back l m (fun x hx => h x (List.mem_cons_of_mem _ hx)), rd_at _ _ h1, h2]
    rfl
end Go.Proofs.Ytbbffnlefmogbaa.DictP
/- DictGets: which texts whatever bytes are by a dictionary: the document says the same. No condition. -/
namespace Go.Proofs.Ytbbffnlefmogbaa.True_
open Go Go.RowKit Go.Proofs.Ytbbffnlefmogbaa.X Go.Proofs.Ytbbffnlefmogbaa.Dec Go.Proofs.Ytbbffnlefmogbaa.DictP Go.Proofs.Ytbbffnlefmogbaa.EncText Go.Proofs.Ytbbffnlefmogbaa.Read Go.Proofs.YtbbffnlefmogbaaW.PrintWords Go.Proofs.YtbbffnlefmogbaaW.PrintLast Go.Proofs.YtbbffnlefmogbaaW.PrintMore
set_option linter.unusedVariables false
set_option linter.unusedSimpArgs false
theorem DictGets : ∀ (x0 : List Int) (x1 : Int) (x2 : Int), (x0.length ≤ maxLen ∧ ∀ z ∈ x0, (Lit.int .u8 z).wf = true) → (Lit.int .i64 x1).wf = true → (Lit.int .i64 x2).wf = true → ∃ k, firkinlaw08_DictGets.f k x0 x1 x2 = some true := by
  intro b n most h0 h1 h2
  have hb : IsBytes b := fun x hx => byte_bounds (h0.2 x hx)
  have hm : most < 9223372036854775808 := (Wf.i64 h2).2
  have lv : ∀ k, 5000 ≤ k → ((firkinlaw08_live.f k).bind fun t => some t) = some true := fun k hk => by rw [live_at k hk]; rfl
  refine ⟨400001, ?_⟩
  have ht : ∀ t, t = true → firkinlaw08_DictGets.j0 400001 b n most t = some true := by
    rintro t rfl
    rw [firkinlaw08_DictGets.j0, if_pos rfl]; exact lv _ (by decide)
  unfold firkinlaw08_DictGets.f
  by_cases hl : (b.length : Int) > 400
  · rw [if_pos hl]; exact ht _ rfl
  rw [if_neg hl]
  by_cases hn : n > 400
  · exact ht _ (decide_eq_true hn)
  rw [decide_eq_false hn, firkinlaw08_DictGets.j0, if_neg (by decide)]
  have hf : Fit b := ⟨hb, by omega⟩
  have hgd := gTexts_good most (gBelow b false 401).1.toNat [] _ _ (gBelow_good (GoodS.of hf) 401)
  have hgl : (gTexts most (gBelow b false 401).1.toNat [] (gBelow b false 401).2.1 (gBelow b false 401).2.2).2.1.length ≤ 400 := Nat.le_trans (gTexts_len most _ [] _ _) (Nat.le_trans (gBelow_len b false 401) (by omega))
  obtain ⟨x, t, e, hx⟩ := getS_is b hf (by omega) n (by omega) _ hgd hgl
  rw [dget_is b hf (by omega) n (by omega) most hm 400000 (by decide), gets_same b hf (by omega), rget_is' b hf (by omega) n (by omega) most hm 400000 (by decide), e, Option.bind_some, Option.bind_some]
  simp only [beq_self_eq_true, if_true]
  rw [names_is x (by omega) 400000 (by decide), Option.bind_some, if_pos rfl]
  exact lv _ (by decide)
end Go.Proofs.Ytbbffnlefmogbaa.True_
/- DictGets: for every input the call returns true, and each argument reads behind the call as it read before it. No condition. -/
namespace Go.Proofs.Ytbbffnlefmogbaa.dictGets
open Go.ChangeShapes Go.WideShapes Go.ChangeAt Go.RowKit Go.Proofs.Ytbbffnlefmogbaa.Opens Go.Proofs.Ytbbffnlefmogbaa.X Go.Proofs.YtbbffnlefmogbaaW.PrintWords Go.Proofs.YtbbffnlefmogbaaW.PrintLast Go.Proofs.YtbbffnlefmogbaaW.PrintMore
open Go.ChangeMaps (open_string shut_string)
set_option linter.unusedVariables false
set_option linter.unusedSimpArgs false
theorem own : ownKnob Try.prog.godebug = none := by kernel_rfl
theorem laidOut : laidOutB Try.prog = true := by kernel_rfl
set_option maxRecDepth 100000 in
theorem lifted (os : Os) (started : os.Started) (H : Type) (enc : TypeId × Value → H) :
    ReturnsInHanded {} Try.checked os 8 .any (Rows.dictGetsSpec.pre6 enc Try.prog Try.f8 Rows.dictGetsRow.domain false) (Rows.dictGetsSpec.post enc Try.prog Try.f8 false true false false) := by
  refine returnsInHanded_of_change_sized (C := Try.checked) own started (by kernel_rfl) Try.func8
    (ChangeSpec.witness6 (enc := enc) (C := Try.checked) false ⟨#[], #[.slice none 0 0, .int .i64 0, .int .i64 0], []⟩ 8 (by kernel_rfl) (by kernel_rfl) (by kernel_rfl) (by kernel_rfl)) ?_
  intro W base args ds gs before hval0 hW hcnd hsz0 _
  have hval : ∀ (j : Nat) t v, Try.f8.params[j]? = some t → args[j]? = some v → Value.okWide Try.prog W .any base t v := hval0
  have hW' := hW
  obtain ⟨p, q, hA0, hV, rfl, hfz, hnd⟩ := hW
  have hA : DataW.TrodAll enc Try.prog W 0 (fun _ => true) true Try.f8.params.toList args.toList ds p := hA0
  rw [Try.params8] at hA hval
  obtain ⟨v0, vs0, d0, ds0, p0, q0, hargs, rfl, rfl, h0, r0⟩ := trodAll_cons hA
  obtain ⟨v1, vs1, d1, ds1, p1, q1, rfl, rfl, rfl, h1, r1⟩ := trodAll_cons r0
  obtain ⟨v2, vs2, d2, ds2, p2, q2, rfl, rfl, rfl, h2, r2⟩ := trodAll_cons r1
  obtain ⟨rfl, rfl, rfl⟩ := trodAll_nil r2
  obtain rfl : args = #[v0, v1, v2] := by cases args; simp_all
  obtain ⟨rfl, rfl⟩ := trodVars_none hV
  have k0 := h0
  have lt0 : ∀ x ∈ p0, x.block < W.heap.size := by obtain ⟨m, hm⟩ := k0; exact DataW.trod_lt m _ _ _ hm
  obtain ⟨x0, hk0, ok0⟩ := Opens.arg (Opens.slice Try.underlying24 (by kernel_rfl) (Opens.int Try.underlying5 (by kernel_rfl))) h0
  obtain ⟨a0, len0, cap0, rfl⟩ := okWide_slice Try.underlying24 (hval 0 24 v0 rfl rfl)
  obtain ⟨A0, c0, hcs0, hc0, hr0⟩ := hk0
  simp only [Value.cells] at hcs0
  injection hcs0 with hcs0 _
  injection hcs0 with e1_0 e2_0 e3_0
  subst e1_0 e2_0 e3_0
  have k1 := h1
  have lt1 : ∀ x ∈ p1, x.block < W.heap.size := by obtain ⟨m, hm⟩ := k1; exact DataW.trod_lt m _ _ _ hm
  obtain ⟨x1, hk1, ok1⟩ := Opens.arg (Opens.int Try.underlying3 (by kernel_rfl)) h1
  obtain ⟨y1, rfl⟩ := okWide_int Try.underlying3 (hval 1 3 v1 rfl rfl)
  injection (show _ = [_] from hk1) with e1 _
  injection e1 with e1a e1
  subst e1
  have k2 := h2
  have lt2 : ∀ x ∈ p2, x.block < W.heap.size := by obtain ⟨m, hm⟩ := k2; exact DataW.trod_lt m _ _ _ hm
  obtain ⟨x2, hk2, ok2⟩ := Opens.arg (Opens.int Try.underlying3 (by kernel_rfl)) h2
  obtain ⟨y2, rfl⟩ := okWide_int Try.underlying3 (hval 2 3 v2 rfl rfl)
  injection (show _ = [_] from hk2) with e2 _
  injection e2 with e2a e2
  subst e2
  clear hA0 hval0 hsz0
  obtain ⟨k, h⟩ := True_.DictGets x0 y1 y2 ok0 ok1 ok2
  refine (firkinlaw08_DictGets.calls k _ _ x0 y1 y2 true W hr0 hc0 h).mono fun e W' ⟨he, bel0⟩ => ?_
  have bel : Below W.heap.size W W' := bel0
  subst he
  exact ⟨_, rfl, _, _, _, [], _, [], hW', trodAll_mk1 (shut_bool Try.underlying4 _), (trodAll_cons_mk (Below.trod laidOut (by kernel_rfl) (of_decide_eq_true (by kernel_rfl)) k0 bel lt0) (trodAll_cons_mk (Below.trod laidOut (by kernel_rfl) (of_decide_eq_true (by kernel_rfl)) k1 bel lt1) (trodAll_cons_mk (Below.trod laidOut (by kernel_rfl) (of_decide_eq_true (by kernel_rfl)) k2 bel lt2) trodAll_mk0))), rfl, bel.frame _, fun h => by cases h⟩
theorem over : Rows.dictGetsRow.holds Try.pinned (OpenSpec.ofChange Rows.dictGetsSpec) :=
  OpenClaim.holds_of_wide 8 Try.f8 rfl rfl rfl rfl rfl rfl rfl ⟨rfl, rfl, rfl, rfl, rfl⟩ rfl rfl rfl rfl rfl (by kernel_rfl) Try.func8 (by kernel_rfl)
    (of_decide_eq_true (by kernel_rfl)) (by unfold Func.isWrapper; first | (rw [if_pos (by decide +kernel)]; kernel_rfl) | (rw [if_neg (by decide +kernel)]; exact ⟨rfl, rfl⟩))
    (fun os started H enc _ => lifted os started H enc)
theorem proved : Rows.DictGetsSaid := over
end Go.Proofs.Ytbbffnlefmogbaa.dictGets
namespace Go.Proofs.Ytbbffnlefmogbaa
/-- The row, under a short name, for the claim. -/
theorem dictGets_holds : Rows.DictGetsSaid := dictGets.proved
end Go.Proofs.Ytbbffnlefmogbaa
