/- FrameTells: for every input the call returns true, and each argument reads behind the call as it read before it. No condition. (Part 3 of 3: this session's texts, laid together by wip/merge.py.) -/
import Derived.Test.YthcmokglgepgjaaRound
import Derived.Lib.Bytes
import Derived.Test.YthcmokglgepgjaaWf
import Derived.Test.YthcmokglgepgjaaRows
import Derived.Test.YthcmokglgepgjaaOpens4
import Derived.WalkKit
import Derived.ProofKit
import Derived.OpenShut
import Derived.ShutString
import Derived.ChangeOld
import Derived.Below
import Derived.SizedLaws
import Derived.Test.YthcmokglgepgjaaMFrameTells0
import Derived.Test.YthcmokglgepgjaaMFrameTells1
/- What is read of a source, plain law: numbers, numbers below another one, and bytes; the code's source and the document's read the same. -/
namespace Go.Proofs.Ythcmokglgepgjaa.Read
open Go Go.RowKit Go.Proofs.Ythcmokglgepgjaa.X Go.Proofs.Ythcmokglgepgjaa.Dec Go.Proofs.Ythcmokglgepgjaa.Enc Go.Proofs.Ythcmokglgepgjaa.Round Go.Proofs.YthcmokglgepgjaaW.PrintWords Go.Proofs.YthcmokglgepgjaaW.PrintLast Go.Proofs.YthcmokglgepgjaaW.PrintMore
set_option linter.unusedVariables false
/-- A source as it can be: of one that failed nothing is left. -/
def GoodS (l : List Int) (bad : Bool) : Prop := Fit l ∧ (bad = true → l = [])
theorem GoodS.nil (b : Bool) : GoodS [] b := ⟨Fit.nil, fun _ => rfl⟩
theorem GoodS.of {l : List Int} (h : Fit l) : GoodS l false := ⟨h, fun h => by cases h⟩
theorem GoodS.drop {l : List Int} {b : Bool} (h : GoodS l b) (k : Nat) : GoodS (l.drop k) b := ⟨h.1.drop k, fun e => by rw [h.2 e]; exact List.drop_nil⟩
def gNum (l : List Int) (bad : Bool) : Int × List Int × Bool :=
  if bad = true ∨ szS 0 l = 0 then (0, [], true) else (((valS 0 (l.take (szS 0 l)) : Nat) : Int), l.drop (szS 0 l), false)
theorem gNum_good {l : List Int} {b : Bool} (h : GoodS l b) : GoodS (gNum l b).2.1 (gNum l b).2.2 := by
  unfold gNum; split
  · exact GoodS.nil _
  · exact GoodS.of (h.1.drop _)
theorem gNum_len (l : List Int) (b : Bool) : (gNum l b).2.1.length ≤ l.length := by
  unfold gNum; split <;> simp
theorem gNum_range {l : List Int} {b : Bool} (h : GoodS l b) : 0 ≤ (gNum l b).1 ∧ (gNum l b).1 < 18446744073709551616 := by
  unfold gNum; split
  · simp
  · have := val_lt h.1.1 (Nat.le_refl (szS 0 l))
    show 0 ≤ ((_ : Nat) : Int) ∧ ((_ : Nat) : Int) < _
    omega
theorem num_g {l : List Int} {b : Bool} (h : GoodS l b) : vint_Source_Num.f l b = some (gNum l b) := by
  unfold vint_Source_Num.f numS gNum
  rw [if_pos h.1]
  cases b with
  | true => rw [if_pos rfl, if_pos (.inl rfl), h.2 rfl]
  | false =>
    rw [if_neg (by decide)]
    by_cases hz : szS 0 l = 0
    · rw [if_pos hz, if_pos (.inr hz)]
    · rw [if_neg hz, if_neg (by simp [hz])]
theorem rnum_g {l : List Int} {b : Bool} (h : GoodS l b) : firkinref01_S_Num.f l b = some (gNum l b) := by
  unfold firkinref01_S_Num.f rnumS gNum
  rw [if_pos h.1]
  cases b with
  | true => obtain rfl := h.2 rfl; rfl
  | false =>
    by_cases hz : szS 0 l = 0
    · rw [if_pos hz, if_pos (.inr hz)]
    · rw [if_neg hz, if_neg (by simp [hz])]
def gBelow (l : List Int) (bad : Bool) (n : Int) : Int × List Int × Bool :=
  if (gNum l bad).2.2 = true ∨ n ≤ 0 ∨ n ≤ (gNum l bad).1 then (0, [], true) else gNum l bad
theorem gBelow_good {l : List Int} {b : Bool} (h : GoodS l b) (n : Int) : GoodS (gBelow l b n).2.1 (gBelow l b n).2.2 := by
  unfold gBelow; split
  · exact GoodS.nil _
  · exact gNum_good h
theorem gBelow_len (l : List Int) (b : Bool) (n : Int) : (gBelow l b n).2.1.length ≤ l.length := by
  unfold gBelow; split
  · simp
  · exact gNum_len l b
theorem gBelow_range {l : List Int} {b : Bool} (h : GoodS l b) (n : Int) : 0 ≤ (gBelow l b n).1 ∧ ((gBelow l b n).1 < n ∨ (gBelow l b n).1 = 0) := by
  unfold gBelow; split
  · simp
  · have := gNum_range h; omega
theorem wrap_u64_of {n : Int} (h0 : 0 ≤ n) (h1 : n < 18446744073709551616) : IntKind.u64.wrap n = n := by rw [IntKind.wrap_u64]; omega
theorem below_g {l : List Int} {b : Bool} (h : GoodS l b) (n : Int) (hn : n < 9223372036854775808) : vint_Source_Below.f l b n = some (gBelow l b n) := by
  unfold vint_Source_Below.f vint_Source_Ok.f vint_Source_Fail.f
  rw [num_g h, Option.bind_some]
  obtain ⟨h0, h1⟩ := gNum_range h
  unfold gBelow
  generalize gNum l b = g at h0 h1 ⊢
  obtain ⟨x, l', b'⟩ := g
  simp only [Option.bind_some] at h0 h1 ⊢
  cases b' with
  | true => simp
  | false =>
    by_cases hn0 : n > 0
    · rw [wrap_u64_of (by omega) (by omega)]
      by_cases hx : x < n
      · have hw : wrap64 x = x := w64 (by omega) (by omega)
        have : ¬ n ≤ 0 := by omega
        simp [hn0, hx, hw, this]
      · have : n ≤ x := by omega
        simp [hn0, hx, this]
    · have : n ≤ 0 := by omega
      simp [hn0, this]
theorem rbelow_g {l : List Int} {b : Bool} (h : GoodS l b) (n : Int) (hn : n < 9223372036854775808) : firkinref01_S_Below.f l b n = some (gBelow l b n) := by
  unfold firkinref01_S_Below.f firkinref01_S_Fail.f
  rw [rnum_g h, Option.bind_some]
  obtain ⟨h0, h1⟩ := gNum_range h
  unfold gBelow
  generalize gNum l b = g at h0 h1 ⊢
  obtain ⟨x, l', b'⟩ := g
  simp only [Option.bind_some] at h0 h1 ⊢
  cases b' with
  | true => simp
  | false =>
    by_cases hn0 : n < 1
    · have : n ≤ 0 := by omega
      simp [hn0, this]
    · have hn2 : ¬ n ≤ 0 := by omega
      rw [wrap_u64_of (by omega) (by omega)]
      by_cases hx : x ≥ n
      · have : n ≤ x := by omega
        simp [hn0, hn2, this]
      · have hw : wrap64 x = x := w64 (by omega) (by omega)
        have : ¬ n ≤ x := by omega
        simp [hn0, hn2, hw, this]
def gTake (l : List Int) (bad : Bool) (n : Int) : List Int × List Int × Bool :=
  if bad = true ∨ n < 0 ∨ (l.length : Int) < n then ([], [], true) else (l.take n.toNat, l.drop n.toNat, false)
theorem gTake_good {l : List Int} {b : Bool} (h : GoodS l b) (n : Int) : GoodS (gTake l b n).2.1 (gTake l b n).2.2 := by
  unfold gTake; split
  · exact GoodS.nil _
  · exact GoodS.of (h.1.drop _)
theorem gTake_len (l : List Int) (b : Bool) (n : Int) : (gTake l b n).2.1.length ≤ l.length := by unfold gTake; split <;> simp
theorem gTake_bytes {l : List Int} {b : Bool} (h : GoodS l b) (n : Int) : IsBytes (gTake l b n).1 := by
  unfold gTake; split
  · intro x hx; simp at hx
  · exact h.1.1.take _
theorem take_g {l : List Int} {b : Bool} (h : GoodS l b) (n : Int) : vint_Source_Take.f l b n = some (gTake l b n) := by
  unfold vint_Source_Take.f; rw [if_pos h.1.2]; rfl
theorem rtake_g {l : List Int} {b : Bool} (h : GoodS l b) (n : Int) : firkinref01_S_Take.f l b n = some (gTake l b n) := by
  unfold firkinref01_S_Take.f; rw [if_pos h.1.2]; rfl
end Go.Proofs.Ythcmokglgepgjaa.Read
/- What was written is read again, plain law: numbers and bytes. -/
namespace Go.Proofs.Ythcmokglgepgjaa.Read
open Go Go.RowKit Go.Proofs.Ythcmokglgepgjaa.X Go.Proofs.Ythcmokglgepgjaa.Dec Go.Proofs.Ythcmokglgepgjaa.Enc Go.Proofs.Ythcmokglgepgjaa.Round Go.Proofs.YthcmokglgepgjaaW.PrintWords Go.Proofs.YthcmokglgepgjaaW.PrintLast Go.Proofs.YthcmokglgepgjaaW.PrintMore
set_option linter.unusedVariables false
theorem gNum_enc {n : Nat} (h : n < 18446744073709551616) (rest : List Int) : gNum (enc n ++ rest) false = ((n : Int), rest, false) := by
  have h1 := num_enc h rest
  unfold numS at h1
  rw [if_neg (by decide)] at h1
  unfold gNum
  by_cases hz : szS 0 (enc n ++ rest) = 0
  · rw [if_pos hz] at h1; simp at h1
  · rw [if_neg hz] at h1
    rw [if_neg (by simp [hz])]
    exact h1
theorem gBelow_enc {n : Nat} {m : Int} (h : (n : Int) < m) (hm : m < 9223372036854775808) (rest : List Int) : gBelow (enc n ++ rest) false m = ((n : Int), rest, false) := by
  unfold gBelow
  rw [gNum_enc (by omega)]
  rw [if_neg]
  simp only [not_or]
  exact ⟨by decide, by omega, by omega⟩
theorem gTake_app (l rest : List Int) : gTake (l ++ rest) false (l.length : Int) = (l, rest, false) := by
  unfold gTake
  rw [if_neg]
  · simp
  · simp only [not_or]
    exact ⟨by decide, by omega, by rw [List.length_append]; omega⟩
end Go.Proofs.Ythcmokglgepgjaa.Read
/- How much is left of a source, plain law. -/
namespace Go.Proofs.Ythcmokglgepgjaa.Read
open Go Go.RowKit Go.Proofs.Ythcmokglgepgjaa.X Go.Proofs.Ythcmokglgepgjaa.Dec Go.Proofs.Ythcmokglgepgjaa.Enc Go.Proofs.Ythcmokglgepgjaa.Round Go.Proofs.YthcmokglgepgjaaW.PrintWords Go.Proofs.YthcmokglgepgjaaW.PrintLast Go.Proofs.YthcmokglgepgjaaW.PrintMore
set_option linter.unusedVariables false
theorem left_g {l : List Int} {b : Bool} (h : GoodS l b) : vint_Source_Left.f l b = some ((l.length : Int), l, b) := by
  unfold vint_Source_Left.f vint_Source_Ok.f
  cases b with
  | true => rw [h.2 rfl]; rfl
  | false => rfl
end Go.Proofs.Ythcmokglgepgjaa.Read
/- Frames, plain law: the code's and the document's are the same, and what is put is got. -/
namespace Go.Proofs.Ythcmokglgepgjaa.Frame
open Go Go.RowKit Go.Proofs.Ythcmokglgepgjaa.X Go.Proofs.Ythcmokglgepgjaa.Dec Go.Proofs.Ythcmokglgepgjaa.Enc Go.Proofs.Ythcmokglgepgjaa.Read Go.Proofs.YthcmokglgepgjaaW.PrintWords Go.Proofs.YthcmokglgepgjaaW.PrintLast Go.Proofs.YthcmokglgepgjaaW.PrintMore
set_option linter.unusedVariables false
/-- A sum's bytes, the lowest first. -/
def sumB (n : Nat) : List Int := [(n : Int) % 256, (n : Int) / 256 % 256, (n : Int) / 65536 % 256, (n : Int) / 16777216 % 256]
theorem sumB_bytes (n : Nat) : IsBytes (sumB n) := by
  intro x hx
  simp only [sumB, List.mem_cons, List.not_mem_nil, or_false] at hx
  rcases hx with rfl | rfl | rfl | rfl <;> omega
theorem sumB_inj {m n : Nat} (hm : m < 4294967296) (hn : n < 4294967296) (h : sumB m = sumB n) : m = n := by
  simp only [sumB, List.cons.injEq] at h
  omega
/-- The sum of bytes. -/
def sum (l : List Int) : Nat := Crc.more 0 l
theorem sum_lt {l : List Int} (hb : IsBytes l) : sum l < 4294967296 := Crc.xor_lt (by decide) (Crc.run_lt hb (Crc.xor_lt (by decide) (by decide)))
def frameL (l : List Int) : List Int := enc l.length ++ sumB (sum l) ++ l
theorem frameL_bytes {l : List Int} (hb : IsBytes l) : IsBytes (frameL l) := by
  intro x hx
  rcases List.mem_append.1 hx with hx | hx
  · rcases List.mem_append.1 hx with hx | hx
    · exact enc_bytes _ x hx
    · exact sumB_bytes _ x hx
  · exact hb x hx
theorem enc_len (n : Nat) (h : n < 18446744073709551616) : (enc n).length ≤ 10 := by
  unfold enc; rw [encL_length]; exact grp_le h
theorem frameL_len (l : List Int) (h : l.length < 1000000000) : (frameL l).length ≤ l.length + 14 := by
  unfold frameL; rw [List.length_append, List.length_append]; have := enc_len l.length (by omega); simp [sumB]; omega
theorem crc_one {l : List Int} (hb : IsBytes l) (hl : l.length < 1000000000) (k : Nat) (hk : l.length + 2 < k) : crc_Of.f k [l] = some ((sum l : Nat) : Int) := by
  have := Crc.of_is [l] (by intro m hm; obtain rfl := List.mem_singleton.mp hm; exact ⟨hb, hl⟩) (by simp) (l.length + 1) (by intro m hm; obtain rfl := List.mem_singleton.mp hm; omega) k (by simp; omega)
  simpa [sum] using this
theorem sumOf_is {l : List Int} (hb : IsBytes l) (hl : l.length < 1000000000) (k : Nat) (hk : l.length + 2 < k) : frame_sumOf.f k l = some (sumB (sum l)) := by
  unfold frame_sumOf.f
  rw [crc_one hb hl k hk]
  rfl
theorem put_is {l : List Int} (hb : IsBytes l) (hl : l.length < 1000000000) (k : Nat) (hk : l.length + 20 < k) : frame_Put.f k l = some (frameL l) := by
  have he := enc_len l.length (by omega)
  unfold frame_Put.f
  rw [wrap_u64_of (by omega) (by omega), num_is l.length (by omega) k (by omega), Option.bind_some, sumOf_is hb hl k (by omega), Option.bind_some]
  rw [if_pos (by simp [sumB]; omega), Option.bind_some, if_pos (by rw [List.length_append]; simp [sumB]; omega)]
  rfl
theorem rof_is {l : List Int} (hb : IsBytes l) (hl : l.length < 1000000000) (k : Nat) (hk : 10 * l.length < k) : firkinref02_Of.f k l = some ((sum l : Nat) : Int) := by
  unfold firkinref02_Of.f
  have := Crc.ref_is l hb hl 0 (by decide) k hk
  rw [show ((0 : Nat) : Int) = 0 from rfl] at this
  rw [this]; rfl
theorem rput_is {l : List Int} (hb : IsBytes l) (hl : l.length < 1000000000) (k : Nat) (hk : 10 * l.length + 20 < k) : firkinref03_Put.f k l = some (frameL l) := by
  have he := enc_len l.length (by omega)
  have hs := sum_lt hb
  unfold firkinref03_Put.f
  rw [rof_is hb hl k (by omega), Option.bind_some, wrap_u64_of (by omega) (by omega), rnum_is l.length (by omega) k (by omega), Option.bind_some, Option.bind_some]
  have e : ([((sum l : Nat) : Int) % 256, ((Int.tdiv ((sum l : Nat) : Int) 256) % 4294967296) % 256, ((Int.tdiv ((sum l : Nat) : Int) 65536) % 4294967296) % 256, ((Int.tdiv ((sum l : Nat) : Int) 16777216) % 4294967296) % 256] : List Int) = sumB (sum l) := by
    rw [Int.tdiv_eq_ediv_of_nonneg (by omega), Int.tdiv_eq_ediv_of_nonneg (by omega), Int.tdiv_eq_ediv_of_nonneg (by omega)]
    unfold sumB
    congr 1
    congr 1
    · omega
    congr 1
    · omega
    congr 1
    omega
  rw [e]
  rw [if_pos (by simp [sumB]; omega), Option.bind_some, if_pos (by rw [List.length_append]; simp [sumB]; omega)]
  rfl
/-- What bytes begin with: the frame's bytes, and how many bytes it has. -/
def gGet (l : List Int) : List Int × Int × Int :=
  let a := gBelow l false 1048577
  let s := gTake a.2.1 a.2.2 4
  let x := gTake s.2.1 s.2.2 a.1
  if x.2.2 = true then ([], 0, 2) else if s.1 = sumB (sum x.1) then (x.1, (l.length : Int) - (x.2.1.length : Int), 0) else ([], 0, 13)
theorem strEq {a b : List Int} (ha : IsBytes a) (hb : IsBytes b) : ((strOfNums a).toList = (strOfNums b).toList) ↔ a = b := by
  rw [Go.Lib.strOfNums_toList, Go.Lib.strOfNums_toList]
  constructor
  · intro h
    have hl : a.length = b.length := by have := congrArg List.length h; simpa [Go.Lib.bytesOf] using this
    apply List.ext_getElem hl
    intro i h1 h2
    have h3 := congrArg (fun l : List UInt8 => l[i]?) h
    simp only [Go.Lib.bytesOf, List.getElem?_map, List.getElem?_eq_getElem h1, List.getElem?_eq_getElem h2, Option.map_some, Option.some.injEq] at h3
    have ha1 := ha _ (List.getElem_mem h1)
    have hb1 := hb _ (List.getElem_mem h2)
    have h4 := congrArg UInt8.toNat h3
    rw [UInt8.toNat_ofNat', UInt8.toNat_ofNat'] at h4
    omega
  · rintro rfl; rfl
theorem get_is {l : List Int} (hb : IsBytes l) (hl : l.length < 1000000000) (k : Nat) (hk : l.length + 2 < k) : frame_Get.f k l = some (gGet l) := by
  have hg : GoodS l false := GoodS.of ⟨hb, by omega⟩
  unfold frame_Get.f vint_From.f
  rw [Option.bind_some, below_g hg _ (by decide), Option.bind_some]
  have ha := gBelow_good hg 1048577
  have hal := gBelow_len l false 1048577
  have har := gBelow_range hg 1048577
  unfold gGet
  generalize gBelow l false 1048577 = a at ha hal har ⊢
  obtain ⟨n, l1, b1⟩ := a
  simp only at ha hal har ⊢
  rw [take_g ha, Option.bind_some]
  have hs := gTake_good ha 4
  have hsl := gTake_len l1 b1 4
  have hsb := gTake_bytes ha 4
  generalize gTake l1 b1 4 = s at hs hsl hsb ⊢
  obtain ⟨s1, l2, b2⟩ := s
  simp only at hs hsl hsb ⊢
  rw [take_g hs, Option.bind_some]
  have hx := gTake_good hs n
  have hxl := gTake_len l2 b2 n
  have hxb := gTake_bytes hs n
  have hxn : (gTake l2 b2 n).1.length ≤ l2.length := by
    unfold gTake; split
    · simp
    · rw [List.length_take]; exact Nat.min_le_right _ _
  generalize gTake l2 b2 n = x at hx hxl hxb hxn ⊢
  obtain ⟨x1, l3, b3⟩ := x
  simp only at hx hxl hxb hxn ⊢
  unfold vint_Source_Ok.f
  rw [Option.bind_some]
  cases b3 with
  | true => rfl
  | false =>
    simp only [Bool.not_false, if_true, Bool.false_eq_true, if_false]
    rw [sumOf_is hxb (by omega) k (by omega), Option.bind_some]
    by_cases e : s1 = sumB (sum x1)
    · rw [if_pos ((strEq hsb (sumB_bytes _)).mpr e), if_pos e, left_g hx, Option.bind_some, w64 (by omega) (by omega)]
    · rw [if_neg (fun h => e ((strEq hsb (sumB_bytes _)).mp h)), if_neg e]
theorem four {s : List Int} (hb : IsBytes s) (h4 : s.length = 4) {n : Nat} (hn : n < 4294967296) : four4 s = (n : Int) ↔ s = sumB n := by
  obtain ⟨a, b, c, d, rfl⟩ : ∃ a b c d, s = [a, b, c, d] := by
    match s, h4 with
    | [a, b, c, d], _ => exact ⟨a, b, c, d, rfl⟩
  have ha := hb a (by simp)
  have hb' := hb b (by simp)
  have hc := hb c (by simp)
  have hd := hb d (by simp)
  simp only [four4, sumB, List.cons.injEq, and_true]
  omega
theorem rget_is {l : List Int} (hb : IsBytes l) (hl : l.length < 1000000000) (k : Nat) (hk : 10 * l.length + 2 < k) : firkinref03_Get.f k l = some (gGet l) := by
  have hg : GoodS l false := GoodS.of ⟨hb, by omega⟩
  unfold firkinref03_Get.f
  rw [rbelow_g hg _ (by decide), Option.bind_some]
  have ha := gBelow_good hg 1048577
  have hal := gBelow_len l false 1048577
  unfold gGet
  generalize gBelow l false 1048577 = a at ha hal ⊢
  obtain ⟨n, l1, b1⟩ := a
  simp only at ha hal ⊢
  rw [rtake_g ha, Option.bind_some]
  have hs := gTake_good ha 4
  have hsl := gTake_len l1 b1 4
  have hsb := gTake_bytes ha 4
  have hs4 : (gTake l1 b1 4).2.2 = false → (gTake l1 b1 4).1.length = 4 := by
    unfold gTake; split
    · intro h; cases h
    · rename_i h
      intro _
      simp only [not_or] at h
      have := h.2.2
      simp; omega
  generalize gTake l1 b1 4 = s at hs hsl hsb hs4 ⊢
  obtain ⟨s1, l2, b2⟩ := s
  simp only at hs hsl hsb hs4 ⊢
  rw [rtake_g hs, Option.bind_some]
  have hx := gTake_good hs n
  have hxl := gTake_len l2 b2 n
  have hxb := gTake_bytes hs n
  have hx2 : (gTake l2 b2 n).2.2 = false → b2 = false := by
    unfold gTake; split
    · intro h; cases h
    · rename_i h
      intro _
      simp only [not_or] at h
      simpa using h.1
  have hxn : (gTake l2 b2 n).1.length ≤ l2.length := by
    unfold gTake; split
    · simp
    · rw [List.length_take]; exact Nat.min_le_right _ _
  generalize gTake l2 b2 n = x at hx hxl hxb hx2 hxn ⊢
  obtain ⟨x1, l3, b3⟩ := x
  simp only at hx hxl hxb hx2 hxn ⊢
  cases b3 with
  | true => rfl
  | false =>
    have h4 := hs4 (hx2 rfl)
    have hlt := sum_lt hxb
    simp only [Bool.false_eq_true, if_false]
    rw [if_pos ⟨h4, hsb⟩, rof_is hxb (by omega) k (by omega), Option.bind_some]
    by_cases e : s1 = sumB (sum x1)
    · rw [if_pos ((four hsb h4 hlt).mpr e), if_pos e]
    · rw [if_neg (fun h => e ((four hsb h4 hlt).mp h)), if_neg e]
theorem get_put {l : List Int} (hl : l.length ≤ 1048576) (rest : List Int) : gGet (frameL l ++ rest) = (l, ((frameL l).length : Int), 0) := by
  unfold gGet
  have e1 : frameL l ++ rest = enc l.length ++ (sumB (sum l) ++ (l ++ rest)) := by unfold frameL; simp [List.append_assoc]
  have h4 : ((sumB (sum l)).length : Int) = 4 := rfl
  have e2 : gBelow (frameL l ++ rest) false 1048577 = ((l.length : Int), sumB (sum l) ++ (l ++ rest), false) := by rw [e1]; exact gBelow_enc (by omega) (by decide) _
  have e3 : gTake (sumB (sum l) ++ (l ++ rest)) false 4 = (sumB (sum l), l ++ rest, false) := by rw [← h4]; exact gTake_app _ _
  have e4 := gTake_app l rest
  simp only [e2, e3, e4]
  rw [if_neg (by decide), if_pos trivial, List.length_append]
  simp
theorem same_is (a b : List Int) : firkinref01_Same.f a b = some (decide ((strOfNums a).toList = (strOfNums b).toList)) := by
  unfold firkinref01_Same.f
  first | rfl | (simp; done) | (congr 1; rw [Bool.eq_iff_iff]; simp)
theorem same_self (l : List Int) : firkinref01_Same.f l l = some true := by rw [same_is]; simp
end Go.Proofs.Ythcmokglgepgjaa.Frame
/- FrameTells: a frame of whose bytes, behind the sum, up to four neighbours are others is none. No condition. -/
namespace Go.Proofs.Ythcmokglgepgjaa.True_
open Go Go.RowKit Go.Proofs.Ythcmokglgepgjaa.X Go.Proofs.Ythcmokglgepgjaa.Dec Go.Proofs.Ythcmokglgepgjaa.Enc Go.Proofs.Ythcmokglgepgjaa.Read Go.Proofs.Ythcmokglgepgjaa.Frame Go.Proofs.Ythcmokglgepgjaa.Turned
set_option linter.unusedVariables false
set_option linter.unusedSimpArgs false
theorem turnN_is (l : List Int) (a : Nat) (t : Nat → Int) (n : Nat) : turnN l a t n = turnX l a t n := by
  induction n with
  | zero => rfl
  | succ n ih => rw [turnN, turnX, ih]
/-- Turned behind a head, the head is as it was. -/
theorem turnX_behind (h l : List Int) (a : Nat) (t : Nat → Int) (n : Nat) (hn : a + n ≤ l.length) : turnX (h ++ l) (h.length + a) t n = h ++ turnX l a t n := by
  have e1 := turnX_get (h ++ l) (h.length + a) t n (by rw [List.length_append]; omega)
  have e2 := turnX_get l a t n hn
  refine ext_getD (by rw [turnX_len, List.length_append, List.length_append, turnX_len]) fun j hj => ?_
  rw [turnX_len, List.length_append] at hj
  rw [e1 j]
  by_cases hlt : j < h.length
  · rw [if_neg (by omega)]
    simp only [List.getD_eq_getElem?_getD, List.getElem?_append_left hlt]
  · have hr : ∀ m : List Int, (h ++ m).getD j 0 = m.getD (j - h.length) 0 := fun m => by
      simp only [List.getD_eq_getElem?_getD, List.getElem?_append_right (Nat.le_of_not_lt hlt)]
    rw [hr, hr, e2 (j - h.length)]
    by_cases hc : h.length + a ≤ j ∧ j < h.length + a + n
    · rw [if_pos hc, if_pos (by omega), show j - (h.length + a) = j - h.length - a by omega]
    · rw [if_neg hc, if_neg (by omega)]
theorem FrameTells : ∀ (x0 : List Int) (x1 t0 t1 t2 t3 : Int), (x0.length ≤ maxLen ∧ ∀ z ∈ x0, (Lit.int .u8 z).wf = true) → (Lit.int .i64 x1).wf = true → (Lit.int .u8 t0).wf = true → (Lit.int .u8 t1).wf = true → (Lit.int .u8 t2).wf = true → (Lit.int .u8 t3).wf = true → ∃ k, firkinlaw03_FrameTells.f k x0 x1 t0 t1 t2 t3 = some true := by
  intro l a1 t0 t1 t2 t3 hl _ h0 h1 h2 h3
  have hb : Dec.IsBytes l := fun x hx => Dec.byte_bounds (hl.2 x hx)
  refine ⟨5000, ?_⟩
  unfold firkinlaw03_FrameTells.f
  by_cases hc : 1000 < l.length
  · rw [if_pos hc]
  rw [if_neg hc, put_is hb (by omega) 5000 (by omega), Option.bind_some]
  have hlen := frameL_len l (by omega)
  have he := enc_len l.length (by omega)
  have hfl : (frameL l).length = (enc l.length).length + 4 + l.length := by
    unfold frameL; rw [List.length_append, List.length_append]; rfl
  rw [if_neg (by omega)]
  by_cases hcond : ((frameL l).length : Int) - (l.length : Int) < 0 ∨ a1 < ((frameL l).length : Int) - (l.length : Int) ∨ ((frameL l).length : Int) ≤ a1 ∨ t0 = 0
  · rw [if_pos hcond, if_pos (by omega)]
  rw [if_neg hcond]
  obtain ⟨q, rfl⟩ := Int.eq_ofNat_of_zero_le (a := a1) (by omega)
  rw [Int.toNat_natCast]
  have ht : ∀ i, 0 ≤ byT t0 t1 t2 t3 i ∧ byT t0 t1 t2 t3 i < 256 := by
    intro i
    match i with
    | 0 => exact Wf.u8 h0
    | 1 => exact Wf.u8 h1
    | 2 => exact Wf.u8 h2
    | _ + 3 => exact Wf.u8 h3
  have ht0 : byT t0 t1 t2 t3 0 ≠ 0 := by show t0 ≠ 0; omega
  generalize byT t0 t1 t2 t3 = t at ht ht0 ⊢
  have hn4 : few (frameL l) q ≤ 4 := by unfold few; omega
  have hnl : q + few (frameL l) q ≤ (frameL l).length := by unfold few; omega
  have hn1 : 0 < few (frameL l) q := by unfold few; omega
  generalize few (frameL l) q = n at hn4 hnl hn1 ⊢
  rw [turnN_is]
  obtain ⟨a, rfl⟩ : ∃ a, q = (enc l.length ++ sumB (sum l)).length + a := ⟨q - (enc l.length ++ sumB (sum l)).length, by rw [List.length_append]; show q = _ + 4 + (q - (_ + 4)); omega⟩
  have hh : (enc l.length ++ sumB (sum l)).length = (enc l.length).length + 4 := by rw [List.length_append]; rfl
  have hal : a + n ≤ l.length := by omega
  have hx : turnX (frameL l) ((enc l.length ++ sumB (sum l)).length + a) t n = enc l.length ++ (sumB (sum l) ++ turnX l a t n) := by
    unfold frameL
    rw [turnX_behind _ _ _ _ _ hal, List.append_assoc]
  rw [hx]
  have hbt : Crc.IsBytes (turnX l a t n) := turnX_bytes (fun x hx => hb x hx) a ht n hal
  have hlt := turnX_len l a t n
  have hne := turnX_tells (fun x hx => hb x hx) a ht n hn4 hal 0 (by omega) ⟨0, hn1, ht0⟩
  have hbb : Dec.IsBytes (enc l.length ++ (sumB (sum l) ++ turnX l a t n)) := by
    intro z hz
    rcases List.mem_append.1 hz with hz | hz
    · exact enc_bytes _ z hz
    · rcases List.mem_append.1 hz with hz | hz
      · exact sumB_bytes _ z hz
      · exact hbt z hz
  have h4 : ((sumB (sum l)).length : Int) = 4 := rfl
  have hL : (enc l.length ++ (sumB (sum l) ++ turnX l a t n)).length ≤ 1100 := by
    rw [List.length_append, List.length_append, hlt]; show _ + (4 + _) ≤ _; omega
  rw [Frame.get_is hbb (by omega) 5000 (by omega), Option.bind_some]
  have hg : gGet (enc l.length ++ (sumB (sum l) ++ turnX l a t n)) = ([], 0, 13) := by
    unfold gGet
    have e2 : gBelow (enc l.length ++ (sumB (sum l) ++ turnX l a t n)) false 1048577 = ((l.length : Int), sumB (sum l) ++ turnX l a t n, false) := gBelow_enc (by omega) (by decide) _
    have e3 : gTake (sumB (sum l) ++ turnX l a t n) false 4 = (sumB (sum l), turnX l a t n, false) := by rw [← h4]; exact gTake_app _ _
    have e4 := gTake_app (turnX l a t n) []
    rw [List.append_nil, hlt] at e4
    simp only [e2, e3, e4]
    rw [if_neg (by decide), if_neg]
    intro h9
    have hs := sumB_inj (sum_lt hb) (sum_lt (l := turnX l a t n) (fun z hz => hbt z hz)) h9
    exact hne hs
  rw [hg]
  rfl
end Go.Proofs.Ythcmokglgepgjaa.True_
/- FrameTells: for every input the call returns true, and each argument reads behind the call as it read before it. No condition. -/
namespace Go.Proofs.Ythcmokglgepgjaa.frameTells
open Go.ChangeShapes Go.WideShapes Go.ChangeAt Go.RowKit Go.Proofs.Ythcmokglgepgjaa.Opens Go.Proofs.Ythcmokglgepgjaa.X Go.Proofs.YthcmokglgepgjaaW.PrintWords Go.Proofs.YthcmokglgepgjaaW.PrintLast Go.Proofs.YthcmokglgepgjaaW.PrintMore
open Go.ChangeMaps (open_string shut_string)
set_option linter.unusedVariables false
set_option linter.unusedSimpArgs false
theorem own : ownKnob Try.prog.godebug = none := by kernel_rfl
theorem laidOut : laidOutB Try.prog = true := by kernel_rfl
set_option maxRecDepth 100000 in
theorem lifted (os : Os) (started : os.Started) (H : Type) (enc : TypeId × Value → H) :
    ReturnsInHanded {} Try.checked os 4 .any (Rows.frameTellsSpec.pre6 enc Try.prog Try.f4 Rows.frameTellsRow.domain false) (Rows.frameTellsSpec.post enc Try.prog Try.f4 false true false false) := by
  refine returnsInHanded_of_change_sized (C := Try.checked) own started (by kernel_rfl) Try.func4
    (ChangeSpec.witness6 (enc := enc) (C := Try.checked) false ⟨#[], #[.slice none 0 0, .int .i64 0, .agg #[.int .u8 0, .int .u8 0, .int .u8 0, .int .u8 0]], []⟩ 8 (by kernel_rfl) (by kernel_rfl) (by kernel_rfl) (by kernel_rfl)) ?_
  intro W base args ds gs before hval0 hW hcnd hsz0 _
  have hval : ∀ (j : Nat) t v, Try.f4.params[j]? = some t → args[j]? = some v → Value.okWide Try.prog W .any base t v := hval0
  have hW' := hW
  obtain ⟨p, q, hA0, hV, rfl, hfz, hnd⟩ := hW
  have hA : DataW.TrodAll enc Try.prog W 0 (fun _ => true) true Try.f4.params.toList args.toList ds p := hA0
  rw [Try.params4] at hA hval
  obtain ⟨v0, vs0, d0, ds0, p0, q0, hargs, rfl, rfl, h0, r0⟩ := trodAll_cons hA
  obtain ⟨v1, vs1, d1, ds1, p1, q1, rfl, rfl, rfl, h1, r1⟩ := trodAll_cons r0
  obtain ⟨v2, vs2, d2, ds2, p2, q2, rfl, rfl, rfl, h2, r2⟩ := trodAll_cons r1
  obtain ⟨rfl, rfl, rfl⟩ := trodAll_nil r2
  obtain rfl : args = #[v0, v1, v2] := by cases args; simp_all
  obtain ⟨rfl, rfl⟩ := trodVars_none hV
  have k0 := h0
  have lt0 : ∀ x ∈ p0, x.block < W.heap.size := by obtain ⟨m, hm⟩ := k0; exact DataW.trod_lt m _ _ _ hm
  obtain ⟨x0, hk0, ok0⟩ := Opens.arg (Opens.slice Try.underlying22 (by kernel_rfl) (Opens.int Try.underlying5 (by kernel_rfl))) h0
  obtain ⟨a0, len0, cap0, rfl⟩ := okWide_slice Try.underlying22 (hval 0 22 v0 rfl rfl)
  obtain ⟨A0, c0, hcs0, hc0, hr0⟩ := hk0
  simp only [Value.cells] at hcs0
  injection hcs0 with hcs0 _
  injection hcs0 with e1_0 e2_0 e3_0
  subst e1_0 e2_0 e3_0
  have k1 := h1
  have lt1 : ∀ x ∈ p1, x.block < W.heap.size := by obtain ⟨m, hm⟩ := k1; exact DataW.trod_lt m _ _ _ hm
  obtain ⟨x1, hk1, ok1⟩ := Opens.arg (Opens.int Try.underlying3 (by kernel_rfl)) h1
  obtain ⟨y1, rfl⟩ := okWide_int Try.underlying3 (hval 1 3 v1 rfl rfl)
  injection (show _ = [_] from hk1) with e1 _
  injection e1 with e1a e1
  subst e1
  have k2 := h2
  have lt2 : ∀ x ∈ p2, x.block < W.heap.size := by obtain ⟨m, hm⟩ := k2; exact DataW.trod_lt m _ _ _ hm
  obtain ⟨x2, hk2, ok2⟩ := Opens.arg (Opens.arr4 Try.underlying30 (Opens.int Try.underlying5 (by kernel_rfl)) (by kernel_rfl) (by kernel_rfl)) h2
  obtain ⟨cs2, rfl⟩ := okWide_array Try.underlying30 (hval 2 30 v2 rfl rfl)
  obtain rfl := four_bytes (cs := cs2) hk2
  clear hA0 hval0 hsz0
  obtain ⟨k, h⟩ := True_.FrameTells x0 y1 x2.1 x2.2.1 x2.2.2.1 x2.2.2.2 ok0 ok1 ok2.1 ok2.2.1 ok2.2.2.1 ok2.2.2.2
  refine (firkinlaw03_FrameTells.calls k _ _ x0 y1 x2.1 x2.2.1 x2.2.2.1 x2.2.2.2 true W hr0 hc0 h).mono fun e W' ⟨he, bel0⟩ => ?_
  have bel : Below W.heap.size W W' := bel0
  subst he
  exact ⟨_, rfl, _, _, _, [], _, [], hW', trodAll_mk1 (shut_bool Try.underlying4 _), (trodAll_cons_mk (Below.trod laidOut (by kernel_rfl) (of_decide_eq_true (by kernel_rfl)) k0 bel lt0) (trodAll_cons_mk (Below.trod laidOut (by kernel_rfl) (of_decide_eq_true (by kernel_rfl)) k1 bel lt1) (trodAll_cons_mk (Below.trod laidOut (by kernel_rfl) (of_decide_eq_true (by kernel_rfl)) k2 bel lt2) trodAll_mk0))), rfl, bel.frame _, fun h => by cases h⟩
theorem over : Rows.frameTellsRow.holds Try.pinned (OpenSpec.ofChange Rows.frameTellsSpec) :=
  OpenClaim.holds_of_wide 4 Try.f4 rfl rfl rfl rfl rfl rfl rfl ⟨rfl, rfl, rfl, rfl, rfl⟩ rfl rfl rfl rfl rfl (by kernel_rfl) Try.func4 (by kernel_rfl)
    (of_decide_eq_true (by kernel_rfl)) (by unfold Func.isWrapper; first | (rw [if_pos (by decide +kernel)]; kernel_rfl) | (rw [if_neg (by decide +kernel)]; exact ⟨rfl, rfl⟩))
    (fun os started H enc _ => lifted os started H enc)
theorem proved : Rows.FrameTellsSaid := over
end Go.Proofs.Ythcmokglgepgjaa.frameTells
namespace Go.Proofs.Ythcmokglgepgjaa
/-- The row, under a short name, for the claim. -/
theorem frameTells_holds : Rows.FrameTellsSaid := frameTells.proved
end Go.Proofs.Ythcmokglgepgjaa
