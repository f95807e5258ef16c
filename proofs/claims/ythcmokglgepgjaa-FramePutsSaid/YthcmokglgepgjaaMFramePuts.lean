/- FramePuts: for every input the call returns true, and each argument reads behind the call as it read before it. No condition. (Part 3 of 3: this session's texts, laid together by wip/merge.py.) -/
import Derived.Lib.Bytes
import Derived.Test.YthcmokglgepgjaaWf
import Derived.Test.YthcmokglgepgjaaRows
import Derived.Test.YthcmokglgepgjaaOpens
import Derived.WalkKit
import Derived.ProofKit
import Derived.OpenShut
import Derived.ShutString
import Derived.ChangeOld
import Derived.Below
import Derived.SizedLaws
import Derived.Test.YthcmokglgepgjaaMFramePuts0
import Derived.Test.YthcmokglgepgjaaMFramePuts1
/- Frames, plain law: the code's and the document's are the same, and what is put is got. -/
namespace Go.Proofs.Ythcmokglgepgjaa.Frame
open Go Go.RowKit Go.Proofs.Ythcmokglgepgjaa.X Go.Proofs.Ythcmokglgepgjaa.Dec Go.Proofs.Ythcmokglgepgjaa.Enc Go.Proofs.Ythcmokglgepgjaa.Read Go.Proofs.YthcmokglgepgjaaW.PrintWords Go.Proofs.YthcmokglgepgjaaW.PrintLast Go.Proofs.YthcmokglgepgjaaW.PrintMore
set_option linter.unusedVariables false
/-- A sum's bytes, the lowest first. -/
def sumB (n : Nat) : List Int := [(n : Int) % 256, (n : Int) / 256 % 256, (n : Int) / 65536 % 256, (n : Int) / 16777216 % 256]
theorem sumB_bytes (n : Nat) : IsBytes (sumB n) := by
  intro x hx
  simp only [sumB, List.mem_cons, List.not_mem_nil, or_false] at hx
  rcases hx with rfl | rfl | rfl | rfl <;> omega
theorem sumB_inj {m n : Nat} (hm : m < 4294967296) (hn : n < 4294967296) (h : sumB m = sumB n) : m = n := by
  simp only [sumB, List.cons.injEq] at h
  omega
/-- The sum of bytes. -/
def sum (l : List Int) : Nat := Crc.more 0 l
theorem sum_lt {l : List Int} (hb : IsBytes l) : sum l < 4294967296 := Crc.xor_lt (by decide) (Crc.run_lt hb (Crc.xor_lt (by decide) (by decide)))
def frameL (l : List Int) : List Int := enc l.length ++ sumB (sum l) ++ l
theorem frameL_bytes {l : List Int} (hb : IsBytes l) : IsBytes (frameL l) := by
  intro x hx
  rcases List.mem_append.1 hx with hx | hx
  · rcases List.mem_append.1 hx with hx | hx
    · exact enc_bytes _ x hx
    · exact sumB_bytes _ x hx
  · exact hb x hx
theorem enc_len (n : Nat) (h : n < 18446744073709551616) : (enc n).length ≤ 10 := by
  unfold enc; rw [encL_length]; exact grp_le h
theorem frameL_len (l : List Int) (h : l.length < 1000000000) : (frameL l).length ≤ l.length + 14 := by
  unfold frameL; rw [List.length_append, List.length_append]; have := enc_len l.length (by omega); simp [sumB]; omega
theorem crc_one {l : List Int} (hb : IsBytes l) (hl : l.length < 1000000000) (k : Nat) (hk : l.length + 2 < k) : crc_Of.f k [l] = some ((sum l : Nat) : Int) := by
  have := Crc.of_is [l] (by intro m hm; obtain rfl := List.mem_singleton.mp hm; exact ⟨hb, hl⟩) (by simp) (l.length + 1) (by intro m hm; obtain rfl := List.mem_singleton.mp hm; omega) k (by simp; omega)
  simpa [sum] using this
theorem sumOf_is {l : List Int} (hb : IsBytes l) (hl : l.length < 1000000000) (k : Nat) (hk : l.length + 2 < k) : frame_sumOf.f k l = some (sumB (sum l)) := by
  unfold frame_sumOf.f
  rw [crc_one hb hl k hk]
  rfl
theorem put_is {l : List Int} (hb : IsBytes l) (hl : l.length < 1000000000) (k : Nat) (hk : l.length + 20 < k) : frame_Put.f k l = some (frameL l) := by
  have he := enc_len l.length (by omega)
  unfold frame_Put.f
  rw [wrap_u64_of (by omega) (by omega), num_is l.length (by omega) k (by omega), Option.bind_some, sumOf_is hb hl k (by omega), Option.bind_some]
  rw [if_pos (by simp [sumB]; omega), Option.bind_some, if_pos (by rw [List.length_append]; simp [sumB]; omega)]
  rfl
theorem rof_is {l : List Int} (hb : IsBytes l) (hl : l.length < 1000000000) (k : Nat) (hk : 10 * l.length < k) : firkinref02_Of.f k l = some ((sum l : Nat) : Int) := by
  unfold firkinref02_Of.f
  have := Crc.ref_is l hb hl 0 (by decide) k hk
  rw [show ((0 : Nat) : Int) = 0 from rfl] at this
  rw [this]; rfl
theorem rput_is {l : List Int} (hb : IsBytes l) (hl : l.length < 1000000000) (k : Nat) (hk : 10 * l.length + 20 < k) : firkinref03_Put.f k l = some (frameL l) := by
  have he := enc_len l.length (by omega)
  have hs := sum_lt hb
  unfold firkinref03_Put.f
  rw [rof_is hb hl k (by omega), Option.bind_some, wrap_u64_of (by omega) (by omega), rnum_is l.length (by omega) k (by omega), Option.bind_some, Option.bind_some]
  have e : ([((sum l : Nat) : Int) % 256, ((Int.tdiv ((sum l : Nat) : Int) 256) % 4294967296) % 256, ((Int.tdiv ((sum l : Nat) : Int) 65536) % 4294967296) % 256, ((Int.tdiv ((sum l : Nat) : Int) 16777216) % 4294967296) % 256] : List Int) = sumB (sum l) := by
    rw [Int.tdiv_eq_ediv_of_nonneg (by omega), Int.tdiv_eq_ediv_of_nonneg (by omega), Int.tdiv_eq_ediv_of_nonneg (by omega)]
    unfold sumB
    congr 1
    congr 1
    · omega
    congr 1
    · omega
    congr 1
    omega
  rw [e]
  rw [if_pos (by simp [sumB]; omega), Option.bind_some, if_pos (by rw [List.length_append]; simp [sumB]; omega)]
  rfl
/-- What bytes begin with: the frame's bytes, and how many bytes it has. -/
def gGet (l : List Int) : List Int × Int × Int :=
  let a := gBelow l false 1048577
  let s := gTake a.2.1 a.2.2 4
  let x := gTake s.2.1 s.2.2 a.1
  if x.2.2 = true then ([], 0, 2) else if s.1 = sumB (sum x.1) then (x.1, (l.length : Int) - (x.2.1.length : Int), 0) else ([], 0, 13)
theorem strEq {a b : List Int} (ha : IsBytes a) (hb : IsBytes b) : ((strOfNums a).toList = (strOfNums b).toList) ↔ a = b := by
  rw [Go.Lib.strOfNums_toList, Go.Lib.strOfNums_toList]
  constructor
  · intro h
    have hl : a.length = b.length := by have := congrArg List.length h; simpa [Go.Lib.bytesOf] using this
    apply List.ext_getElem hl
    intro i h1 h2
    have h3 := congrArg (fun l : List UInt8 => l[i]?) h
    simp only [Go.Lib.bytesOf, List.getElem?_map, List.getElem?_eq_getElem h1, List.getElem?_eq_getElem h2, Option.map_some, Option.some.injEq] at h3
    have ha1 := ha _ (List.getElem_mem h1)
    have hb1 := hb _ (List.getElem_mem h2)
    have h4 := congrArg UInt8.toNat h3
    rw [UInt8.toNat_ofNat', UInt8.toNat_ofNat'] at h4
    omega
  · rintro rfl; rfl
theorem get_is {l : List Int} (hb : IsBytes l) (hl : l.length < 1000000000) (k : Nat) (hk : l.length + 2 < k) : frame_Get.f k l = some (gGet l) := by
  have hg : GoodS l false := GoodS.of ⟨hb, by omega⟩
  unfold frame_Get.f vint_From.f
  rw [Option.bind_some, below_g hg _ (by decide), Option.bind_some]
  have ha := gBelow_good hg 1048577
  have hal := gBelow_len l false 1048577
  have har := gBelow_range hg 1048577
  unfold gGet
  generalize gBelow l false 1048577 = a at ha hal har ⊢
  obtain ⟨n, l1, b1⟩ := a
  simp only at ha hal har ⊢
  rw [take_g ha, Option.bind_some]
  have hs := gTake_good ha 4
  have hsl := gTake_len l1 b1 4
  have hsb := gTake_bytes ha 4
  generalize gTake l1 b1 4 = s at hs hsl hsb ⊢
  obtain ⟨s1, l2, b2⟩ := s
  simp only at hs hsl hsb ⊢
  rw [take_g hs, Option.bind_some]
  have hx := gTake_good hs n
  have hxl := gTake_len l2 b2 n
  have hxb := gTake_bytes hs n
  have hxn : (gTake l2 b2 n).1.length ≤ l2.length := by
    unfold gTake; split
    · simp
    · rw [List.length_take]; exact Nat.min_le_right _ _
  generalize gTake l2 b2 n = x at hx hxl hxb hxn ⊢
  obtain ⟨x1, l3, b3⟩ := x
  simp only at hx hxl hxb hxn ⊢
  unfold vint_Source_Ok.f
  rw [Option.bind_some]
  cases b3 with
  | true => rfl
  | false =>
    simp only [Bool.not_false, if_true, Bool.false_eq_true, if_false]
    rw [sumOf_is hxb (by omega) k (by omega), Option.bind_some]
    by_cases e : s1 = sumB (sum x1)
    · rw [if_pos ((strEq hsb (sumB_bytes _)).mpr e), if_pos e, left_g hx, Option.bind_some, w64 (by omega) (by omega)]
    · rw [if_neg (fun h => e ((strEq hsb (sumB_bytes _)).mp h)), if_neg e]
theorem four {s : List Int} (hb : IsBytes s) (h4 : s.length = 4) {n : Nat} (hn : n < 4294967296) : four4 s = (n : Int) ↔ s = sumB n := by
  obtain ⟨a, b, c, d, rfl⟩ : ∃ a b c d, s = [a, b, c, d] := by
    match s, h4 with
    | [a, b, c, d], _ => exact ⟨a, b, c, d, rfl⟩
  have ha := hb a (by simp)
  have hb' := hb b (by simp)
  have hc := hb c (by simp)
  have hd := hb d (by simp)
  simp only [four4, sumB, List.cons.injEq, and_true]
  omega
theorem rget_is {l : List Int} (hb : IsBytes l) (hl : l.length < 1000000000) (k : Nat) (hk : 10 * l.length + 2 < k) : firkinref03_Get.f k l = some (gGet l) := by
  have hg : GoodS l false := GoodS.of ⟨hb, by omega⟩
  unfold firkinref03_Get.f
  rw [rbelow_g hg _ (by decide), Option.bind_some]
  have ha := gBelow_good hg 1048577
  have hal := gBelow_len l false 1048577
  unfold gGet
  generalize gBelow l false 1048577 = a at ha hal ⊢
  obtain ⟨n, l1, b1⟩ := a
  simp only at ha hal ⊢
  rw [rtake_g ha, Option.bind_some]
  have hs := gTake_good ha 4
  have hsl := gTake_len l1 b1 4
  have hsb := gTake_bytes ha 4
  have hs4 : (gTake l1 b1 4).2.2 = false → (gTake l1 b1 4).1.length = 4 := by
    unfold gTake; split
    · intro h; cases h
    · rename_i h
      intro _
      simp only [not_or] at h
      have := h.2.2
      simp; omega
  generalize gTake l1 b1 4 = s at hs hsl hsb hs4 ⊢
  obtain ⟨s1, l2, b2⟩ := s
  simp only at hs hsl hsb hs4 ⊢
  rw [rtake_g hs, Option.bind_some]
  have hx := gTake_good hs n
  have hxl := gTake_len l2 b2 n
  have hxb := gTake_bytes hs n
  have hx2 : (gTake l2 b2 n).2.2 = false → b2 = false := by
    unfold gTake; split
    · intro h; cases h
    · rename_i h
      intro _
      simp only [not_or] at h
      simpa using h.1
  have hxn : (gTake l2 b2 n).1.length ≤ l2.length := by
    unfold gTake; split
    · simp
    · rw [List.length_take]; exact Nat.min_le_right _ _
  generalize gTake l2 b2 n = x at hx hxl hxb hx2 hxn ⊢
  obtain ⟨x1, l3, b3⟩ := x
  simp only at hx hxl hxb hx2 hxn ⊢
  cases b3 with
  | true => rfl
  | false =>
    have h4 := hs4 (hx2 rfl)
    have hlt := sum_lt hxb
    simp only [Bool.false_eq_true, if_false]
    rw [if_pos ⟨h4, hsb⟩, rof_is hxb (by omega) k (by omega), Option.bind_some]
    by_cases e : s1 = sumB (sum x1)
    · rw [if_pos ((four hsb h4 hlt).mpr e), if_pos e]
    · rw [if_neg (fun h => e ((four hsb h4 hlt).mp h)), if_neg e]
theorem get_put {l : List Int} (hl : l.length ≤ 1048576) (rest : List Int) : gGet (frameL l ++ rest) = (l, ((frameL l).length : Int), 0) := by
  unfold gGet
  have e1 : frameL l ++ rest = enc l.length ++ (sumB (sum l) ++ (l ++ rest)) := by unfold frameL; simp [List.append_assoc]
  have h4 : ((sumB (sum l)).length : Int) = 4 := rfl
  have e2 : gBelow (frameL l ++ rest) false 1048577 = ((l.length : Int), sumB (sum l) ++ (l ++ rest), false) := by rw [e1]; exact gBelow_enc (by omega) (by decide) _
  have e3 : gTake (sumB (sum l) ++ (l ++ rest)) false 4 = (sumB (sum l), l ++ rest, false) := by rw [← h4]; exact gTake_app _ _
  have e4 := gTake_app l rest
  simp only [e2, e3, e4]
  rw [if_neg (by decide), if_pos trivial, List.length_append]
  simp
theorem same_is (a b : List Int) : firkinref01_Same.f a b = some (decide ((strOfNums a).toList = (strOfNums b).toList)) := by
  unfold firkinref01_Same.f
  first | rfl | (simp; done) | (congr 1; rw [Bool.eq_iff_iff]; simp)
theorem same_self (l : List Int) : firkinref01_Same.f l l = some true := by rw [same_is]; simp
end Go.Proofs.Ythcmokglgepgjaa.Frame
/- FramePuts: the code's frame of every bytes is the document's, and it is got again, whatever stands behind it. No condition. -/
namespace Go.Proofs.Ythcmokglgepgjaa.True_
open Go Go.RowKit Go.Proofs.Ythcmokglgepgjaa.X Go.Proofs.Ythcmokglgepgjaa.Dec Go.Proofs.Ythcmokglgepgjaa.Frame
theorem FramePuts : ∀ (x0 : List Int) (x1 : List Int), (x0.length ≤ maxLen ∧ ∀ z ∈ x0, (Lit.int .u8 z).wf = true) → (x1.length ≤ maxLen ∧ ∀ z ∈ x1, (Lit.int .u8 z).wf = true) → ∃ k, firkinlaw03_FramePuts.f k x0 x1 = some true := by
  intro x0 x1 h0 h1
  have hb0 : IsBytes x0 := fun x hx => byte_bounds (h0.2 x hx)
  have hb1 : IsBytes x1 := fun x hx => byte_bounds (h1.2 x hx)
  refine ⟨20001, ?_⟩
  unfold firkinlaw03_FramePuts.f
  by_cases hl0 : (x0.length : Int) > 1000
  · rw [if_pos hl0, firkinlaw03_FramePuts.j0, if_pos rfl]; rfl
  rw [if_neg hl0]
  by_cases hl1 : (x1.length : Int) > 1000
  · rw [decide_eq_true hl1, firkinlaw03_FramePuts.j0, if_pos rfl]; rfl
  rw [decide_eq_false hl1, firkinlaw03_FramePuts.j0, if_neg (by decide)]
  have hfl := frameL_len x0 (by omega)
  rw [put_is hb0 (by omega) 20000 (by omega), Option.bind_some, Option.bind_some, if_pos (by simp; omega), Option.bind_some, List.nil_append, if_pos (by omega)]
  have hbb : IsBytes (frameL x0 ++ x1) := fun x hx => (List.mem_append.1 hx).elim (frameL_bytes hb0 x) (hb1 x)
  rw [get_is hbb (by rw [List.length_append]; omega) 20000 (by rw [List.length_append]; omega), Option.bind_some, get_put (by omega), rput_is hb0 (by omega) 20000 (by omega), Option.bind_some, same_self, Option.bind_some, if_pos rfl, same_self, Option.bind_some, if_pos rfl, if_pos rfl]
  rfl
end Go.Proofs.Ythcmokglgepgjaa.True_
/- FramePuts: for every input the call returns true, and each argument reads behind the call as it read before it. No condition. -/
namespace Go.Proofs.Ythcmokglgepgjaa.framePuts
open Go.ChangeShapes Go.WideShapes Go.ChangeAt Go.RowKit Go.Proofs.Ythcmokglgepgjaa.Opens Go.Proofs.Ythcmokglgepgjaa.X Go.Proofs.YthcmokglgepgjaaW.PrintWords Go.Proofs.YthcmokglgepgjaaW.PrintLast Go.Proofs.YthcmokglgepgjaaW.PrintMore
open Go.ChangeMaps (open_string shut_string)
set_option linter.unusedVariables false
set_option linter.unusedSimpArgs false
theorem own : ownKnob Try.prog.godebug = none := by kernel_rfl
theorem laidOut : laidOutB Try.prog = true := by kernel_rfl
set_option maxRecDepth 100000 in
theorem lifted (os : Os) (started : os.Started) (H : Type) (enc : TypeId × Value → H) :
    ReturnsInHanded {} Try.checked os 3 .any (Rows.framePutsSpec.pre6 enc Try.prog Try.f3 Rows.framePutsRow.domain false) (Rows.framePutsSpec.post enc Try.prog Try.f3 false true false false) := by
  refine returnsInHanded_of_change_sized (C := Try.checked) own started (by kernel_rfl) Try.func3
    (ChangeSpec.witness6 (enc := enc) (C := Try.checked) false ⟨#[], #[.slice none 0 0, .slice none 0 0], []⟩ 8 (by kernel_rfl) (by kernel_rfl) (by kernel_rfl) (by kernel_rfl)) ?_
  intro W base args ds gs before hval0 hW hcnd hsz0 _
  have hval : ∀ (j : Nat) t v, Try.f3.params[j]? = some t → args[j]? = some v → Value.okWide Try.prog W .any base t v := hval0
  have hW' := hW
  obtain ⟨p, q, hA0, hV, rfl, hfz, hnd⟩ := hW
  have hA : DataW.TrodAll enc Try.prog W 0 (fun _ => true) true Try.f3.params.toList args.toList ds p := hA0
  rw [Try.params3] at hA hval
  obtain ⟨v0, vs0, d0, ds0, p0, q0, hargs, rfl, rfl, h0, r0⟩ := trodAll_cons hA
  obtain ⟨v1, vs1, d1, ds1, p1, q1, rfl, rfl, rfl, h1, r1⟩ := trodAll_cons r0
  obtain ⟨rfl, rfl, rfl⟩ := trodAll_nil r1
  obtain rfl : args = #[v0, v1] := by cases args; simp_all
  obtain ⟨rfl, rfl⟩ := trodVars_none hV
  have k0 := h0
  have lt0 : ∀ x ∈ p0, x.block < W.heap.size := by obtain ⟨m, hm⟩ := k0; exact DataW.trod_lt m _ _ _ hm
  obtain ⟨x0, hk0, ok0⟩ := Opens.arg (Opens.slice Try.underlying22 (by kernel_rfl) (Opens.int Try.underlying5 (by kernel_rfl))) h0
  obtain ⟨a0, len0, cap0, rfl⟩ := okWide_slice Try.underlying22 (hval 0 22 v0 rfl rfl)
  obtain ⟨A0, c0, hcs0, hc0, hr0⟩ := hk0
  simp only [Value.cells] at hcs0
  injection hcs0 with hcs0 _
  injection hcs0 with e1_0 e2_0 e3_0
  subst e1_0 e2_0 e3_0
  have k1 := h1
  have lt1 : ∀ x ∈ p1, x.block < W.heap.size := by obtain ⟨m, hm⟩ := k1; exact DataW.trod_lt m _ _ _ hm
  obtain ⟨x1, hk1, ok1⟩ := Opens.arg (Opens.slice Try.underlying22 (by kernel_rfl) (Opens.int Try.underlying5 (by kernel_rfl))) h1
  obtain ⟨a1, len1, cap1, rfl⟩ := okWide_slice Try.underlying22 (hval 1 22 v1 rfl rfl)
  obtain ⟨A1, c1, hcs1, hc1, hr1⟩ := hk1
  simp only [Value.cells] at hcs1
  injection hcs1 with hcs1 _
  injection hcs1 with e1_1 e2_1 e3_1
  subst e1_1 e2_1 e3_1
  clear hA0 hval0 hsz0
  obtain ⟨k, h⟩ := True_.FramePuts x0 x1 ok0 ok1
  refine (firkinlaw03_FramePuts.calls k _ _ x0 _ _ x1 true W hr0 hc0 hr1 hc1 h).mono fun e W' ⟨he, bel0⟩ => ?_
  have bel : Below W.heap.size W W' := bel0
  subst he
  exact ⟨_, rfl, _, _, _, [], _, [], hW', trodAll_mk1 (shut_bool Try.underlying4 _), (trodAll_cons_mk (Below.trod laidOut (by kernel_rfl) (of_decide_eq_true (by kernel_rfl)) k0 bel lt0) (trodAll_cons_mk (Below.trod laidOut (by kernel_rfl) (of_decide_eq_true (by kernel_rfl)) k1 bel lt1) trodAll_mk0)), rfl, bel.frame _, fun h => by cases h⟩
theorem over : Rows.framePutsRow.holds Try.pinned (OpenSpec.ofChange Rows.framePutsSpec) :=
  OpenClaim.holds_of_wide 3 Try.f3 rfl rfl rfl rfl rfl rfl rfl ⟨rfl, rfl, rfl, rfl, rfl⟩ rfl rfl rfl rfl rfl (by kernel_rfl) Try.func3 (by kernel_rfl)
    (of_decide_eq_true (by kernel_rfl)) (by unfold Func.isWrapper; first | (rw [if_pos (by decide +kernel)]; kernel_rfl) | (rw [if_neg (by decide +kernel)]; exact ⟨rfl, rfl⟩))
    (fun os started H enc _ => lifted os started H enc)
theorem proved : Rows.FramePutsSaid := over
end Go.Proofs.Ythcmokglgepgjaa.framePuts
namespace Go.Proofs.Ythcmokglgepgjaa
/-- The row, under a short name, for the claim. -/
theorem framePuts_holds : Rows.FramePutsSaid := framePuts.proved
end Go.Proofs.Ythcmokglgepgjaa
