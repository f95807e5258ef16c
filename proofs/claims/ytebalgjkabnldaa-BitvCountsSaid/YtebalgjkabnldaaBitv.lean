/- Plain facts on the printed functions of layer 4 (bitv): what Pack, Unpack, Places and their references compute. -/
import Derived.Test.YtebalgjkabnldaaX6
import Derived.Test.YtebalgjkabnldaaX5
import Derived.Laws.BitsAllLaws
namespace Go.Proofs.Ytebalgjkabnldaa.Bitv
open Go.RowKit Go.Proofs.Ytebalgjkabnldaa.X Go.Proofs.YtebalgjkabnldaaW.PrintWords Go.Proofs.YtebalgjkabnldaaW.PrintLast Go.Proofs.YtebalgjkabnldaaW.PrintMore
set_option linter.unusedVariables false

theorem w64 {x : Int} (h0 : -9223372036854775808 ≤ x) (h1 : x < 9223372036854775808) : wrap64 x = x := by unfold wrap64; omega
theorem td8 {x : Int} (h0 : 0 ≤ x) : Int.tdiv x 8 = x / 8 := Int.tdiv_eq_ediv_of_nonneg h0
theorem tm8 {x : Int} (h0 : 0 ≤ x) : Int.tmod x 8 = x % 8 := Int.tmod_eq_emod_of_nonneg h0
theorem rd_nat (xs : List Int) (q : Nat) : rd xs (q : Int) = xs.getD q 0 := rfl
theorem need_nat (n : Nat) (h : n < 9223372036854775808) : bitv_need.f (n : Int) = some (((n + 7) / 8 : Nat) : Int) := by
  unfold bitv_need.f
  by_cases h0 : n = 0
  · subst h0; rfl
  · rw [if_neg (by omega), w64 (x := (n : Int) - 1) (by omega) (by omega), td8 (by omega), w64 (x := ((n : Int) - 1) / 8) (by omega) (by omega), w64 (by omega) (by omega)]
    congr 1; omega

/-- Bytes, by their bits. -/
def BitsOf (x : List Int) (m : Nat) (p : Nat → Bool) : Prop :=
  x.length = m ∧ ∀ q, q < m → (0 ≤ x.getD q 0 ∧ x.getD q 0 < 256) ∧ ∀ j, j < 8 → (x.getD q 0).toNat.testBit j = p (8 * q + j)
theorem BitsOf.uniq {x y : List Int} {m : Nat} {p : Nat → Bool} (hx : BitsOf x m p) (hy : BitsOf y m p) : x = y := by
  apply List.ext_getElem (by rw [hx.1, hy.1])
  intro q h1 h2
  have hq : q < m := hx.1 ▸ h1
  obtain ⟨⟨a1, a2⟩, a3⟩ := hx.2 q hq
  obtain ⟨⟨b1, b2⟩, b3⟩ := hy.2 q hq
  have e : (x.getD q 0).toNat = (y.getD q 0).toNat := by
    apply Nat.eq_of_testBit_eq
    intro j
    by_cases hj : j < 8
    · rw [a3 j hj, b3 j hj]
    · have hp : (256 : Nat) ≤ 2 ^ j := by
        have : (2 : Nat) ^ 8 ≤ 2 ^ j := Nat.pow_le_pow_right (by decide) (by omega)
        simpa using this
      rw [Nat.testBit_lt_two_pow (by omega), Nat.testBit_lt_two_pow (by omega)]
  have e1 : x.getD q 0 = x[q] := by simp [List.getD, h1]
  have e2 : y.getD q 0 = y[q] := by simp [List.getD, h2]
  omega
theorem BitsOf.zero (m : Nat) : BitsOf (List.replicate m 0) m (fun _ => false) := by
  refine ⟨by simp, fun q hq => ?_⟩
  have e : (List.replicate m (0 : Int)).getD q 0 = 0 := by simp [List.getD, hq]
  rw [e]; exact ⟨by omega, fun j _ => by simp⟩
theorem BitsOf.congr {x : List Int} {m : Nat} {p p' : Nat → Bool} (h : BitsOf x m p) (hp : ∀ i, i < 8 * m → p i = p' i) : BitsOf x m p' :=
  ⟨h.1, fun q hq => ⟨(h.2 q hq).1, fun j hj => by rw [(h.2 q hq).2 j hj, hp _ (by omega)]⟩⟩
theorem BitsOf.set {x : List Int} {m : Nat} {p : Nat → Bool} (h : BitsOf x m p) (i : Nat) (hi : i / 8 < m) (v : Int) (hv0 : 0 ≤ v) (hv1 : v < 256)
    (hv : ∀ j, j < 8 → v.toNat.testBit j = ((x.getD (i / 8) 0).toNat.testBit j || decide (j = i % 8))) :
    BitsOf (x.set (i / 8) v) m (fun j => p j || decide (j = i)) := by
  refine ⟨by simp [h.1], fun q hq => ?_⟩
  by_cases e : q = i / 8
  · subst e
    have e1 : (x.set (i / 8) v).getD (i / 8) 0 = v := by simp [List.getD, h.1, hi]
    rw [e1]
    refine ⟨⟨hv0, hv1⟩, fun j hj => ?_⟩
    rw [hv j hj, (h.2 _ hq).2 j hj]
    congr 1
    apply decide_eq_decide.mpr; omega
  · have e1 : (x.set (i / 8) v).getD q 0 = x.getD q 0 := by simp [List.getD, Ne.symm e]
    rw [e1]
    refine ⟨(h.2 q hq).1, fun j hj => ?_⟩
    rw [(h.2 q hq).2 j hj]
    show p (8 * q + j) = (p (8 * q + j) || decide (8 * q + j = i))
    have : decide (8 * q + j = i) = false := by apply decide_eq_false; omega
    rw [this, Bool.or_false]
theorem shl1 (j : Nat) (hj : j < 8) : shl .u8 1 (j : Int) = ((2 ^ j : Nat) : Int) := by
  match j, hj with
  | 0, _ | 1, _ | 2, _ | 3, _ | 4, _ | 5, _ | 6, _ | 7, _ => rfl
theorem getD_take (l : List Bool) (i q : Nat) : (l.take i).getD q false = (decide (q < i) && l.getD q false) := by
  by_cases h : q < i
  · simp [List.getD, h]
  · simp [List.getD, h, List.getElem?_take]
theorem rdOf_nat (l : List Bool) (i : Nat) : rdOf false l (i : Int) = l.getD i false := rfl

/-- What Pack's loop comes to. -/
theorem pack_loop (l : List Bool) (hl : l.length < 1000000) (d : Nat) : ∀ (k i : Nat) (x : List Int), i + d = l.length → d < k →
    BitsOf x ((l.length + 7) / 8) (fun j => decide (j < i) && l.getD j false) →
    ∃ y, bitv_Pack.l0 k x l (l.length : Int) (i : Int) = some y ∧ BitsOf y ((l.length + 7) / 8) (fun j => l.getD j false) := by
  induction d with
  | zero =>
    intro k i x hd hk hx
    obtain ⟨k, rfl⟩ : ∃ m, k = m + 1 := ⟨k - 1, by omega⟩
    refine ⟨x, ?_, hx.congr fun j hj => ?_⟩
    · simp only [bitv_Pack.l0]; rw [if_neg (by omega)]
    · by_cases h : j < i
      · simp [h]
      · have : l.getD j false = false := by simp [List.getD, List.getElem?_eq_none (by omega : l.length ≤ j)]
        rw [this, Bool.and_false]
  | succ d ih =>
    intro k i x hd hk hx
    obtain ⟨k, rfl⟩ : ∃ m, k = m + 1 := ⟨k - 1, by omega⟩
    simp only [bitv_Pack.l0]
    rw [if_pos (by omega), if_pos (by omega), if_pos (by omega), rdOf_nat, w64 (x := (i : Int) + 1) (by omega) (by omega)]
    have hi : ((i : Int) + 1) = ((i + 1 : Nat) : Int) := by omega
    rw [hi]
    by_cases hb : l.getD i false = true
    · rw [if_pos hb, td8 (by omega), tm8 (by omega), w64 (by omega) (by omega)]
      have hq : ((i : Int) / 8) = ((i / 8 : Nat) : Int) := by omega
      have hm : ((i : Int) % 8) = ((i % 8 : Nat) : Int) := by omega
      rw [hq, hm, rd_nat, if_pos (by omega), if_pos (by rw [hx.1]; omega), if_pos (by omega), shl1 _ (by omega)]
      have hb8 := hx.2 (i / 8) (by omega)
      have hp2 : (2 ^ (i % 8) : Nat) < 256 := by
        have : (2 : Nat) ^ (i % 8) < 2 ^ 8 := Nat.pow_lt_pow_right (by decide) (by omega)
        simpa using this
      rw [u8_or _ _ hb8.1.1 hb8.1.2 (Int.natCast_nonneg _) (by omega)]
      refine ih k (i + 1) _ (by omega) (by omega) ?_
      rw [Int.toNat_natCast]
      have hs := hx.set i (by omega) (((x.getD (i / 8) 0).toNat ||| (2 ^ (i % 8) : Nat) : Nat) : Int) (by omega) (by
        have : (x.getD (i / 8) 0).toNat ||| (2 ^ (i % 8) : Nat) < 2 ^ 8 := Nat.or_lt_two_pow (by omega) (by omega)
        omega) (fun j hj => by
          rw [Int.toNat_natCast, Nat.testBit_or, Nat.testBit_two_pow]
          congr 1; apply decide_eq_decide.mpr; omega)
      rw [Int.toNat_natCast]
      refine hs.congr fun j _ => ?_
      by_cases e : j = i
      · subst e; rw [hb]; simp
      · have : (decide (j < i + 1)) = decide (j < i) := by apply decide_eq_decide.mpr; omega
        simp [this, e]
    · rw [if_neg hb]
      refine ih k (i + 1) x (by omega) (by omega) (hx.congr fun j _ => ?_)
      by_cases e : j = i
      · subst e; simp at hb; simp [hb]
      · have : (decide (j < i + 1)) = decide (j < i) := by apply decide_eq_decide.mpr; omega
        rw [this]
theorem pack_is (l : List Bool) (hl : l.length < 1000000) (k : Nat) (hk : l.length < k) :
    ∃ y, bitv_Pack.f k l = some y ∧ BitsOf y ((l.length + 7) / 8) (fun j => l.getD j false) := by
  unfold bitv_Pack.f
  rw [need_nat _ (by omega)]
  simp only [Option.bind_some]
  rw [if_pos (by omega), if_pos (by omega), Int.toNat_natCast]
  refine pack_loop l hl l.length k 0 _ (by omega) hk ((BitsOf.zero _).congr fun j _ => ?_)
  simp

/-- Bit i of bytes. -/
def bitAt (b : List Int) (i : Nat) : Bool := (b.getD (i / 8) 0).toNat.testBit (i % 8)
def IsBytes (b : List Int) : Prop := ∀ x ∈ b, 0 ≤ x ∧ x < 256
theorem IsBytes.get {b : List Int} (h : IsBytes b) (q : Nat) : 0 ≤ b.getD q 0 ∧ b.getD q 0 < 256 := by
  by_cases hq : q < b.length
  · have : b.getD q 0 = b[q] := by simp [List.getD, hq]
    rw [this]; exact h _ (List.getElem_mem hq)
  · have : b.getD q 0 = 0 := by simp [List.getD, List.getElem?_eq_none (by omega : b.length ≤ q)]
    rw [this]; omega
theorem IsBytes.bits {b : List Int} (h : IsBytes b) : BitsOf b b.length (bitAt b) :=
  ⟨rfl, fun q hq => ⟨h.get q, fun j hj => by unfold bitAt; rw [show (8 * q + j) / 8 = q by omega, show (8 * q + j) % 8 = j by omega]⟩⟩
theorem byte_bounds {x : Int} (h : (Lit.int .u8 x).wf = true) : 0 ≤ x ∧ x < 256 := by
  have h' : (decide ((0 : Int) ≤ x) && decide (x ≤ 255)) = true := h
  rw [Bool.and_eq_true, decide_eq_true_eq, decide_eq_true_eq] at h'
  omega
theorem wf_bytes {b : List Int} (h : ∀ x ∈ b, (Lit.int .u8 x).wf = true) : IsBytes b := by
  intro x hx
  have := h x hx
  exact byte_bounds this
theorem shr_val (x : Int) (h0 : 0 ≤ x) (j : Nat) (hj : j < 8) : shr .u8 x (j : Int) = ((x.toNat / 2 ^ j : Nat) : Int) := by
  unfold shr
  rw [show min (j : Int).toNat (IntKind.u8).bits = j from by simp [IntKind.bits]; omega]
  obtain ⟨n, rfl⟩ := Int.eq_ofNat_of_zero_le h0
  simp
theorem bit_and (x : Int) (h0 : 0 ≤ x) (h1 : x < 256) (j : Nat) (hj : j < 8) : Go.bits .and .u8 (shr .u8 x (j : Int)) 1 = if x.toNat.testBit j then 1 else 0 := by
  have hb : x.toNat / 2 ^ j < 256 := Nat.lt_of_le_of_lt (Nat.div_le_self _ _) (by omega)
  rw [shr_val x h0 j hj, Nat.testBit_eq_decide_div_mod_eq]
  generalize x.toNat / 2 ^ j = y at hb ⊢
  rw [u8_and _ _ (by omega) (by omega) (by omega) (by omega), Int.toNat_natCast, show (1 : Int).toNat = 1 from rfl, Nat.and_one_is_mod]
  by_cases h : y % 2 = 1
  · simp [h]
  · have : y % 2 = 0 := by omega
    simp [this]
theorem bit_mod (x : Int) (h0 : 0 ≤ x) (h1 : x < 256) (j : Nat) (hj : j < 8) : Int.tmod (shr .u8 x (j : Int)) 2 = if x.toNat.testBit j then 1 else 0 := by
  rw [shr_val x h0 j hj, Int.tmod_eq_emod_of_nonneg (Int.natCast_nonneg _), Nat.testBit_eq_decide_div_mod_eq]
  generalize x.toNat / 2 ^ j = y
  by_cases h : y % 2 = 1
  · simp [h]; omega
  · have : y % 2 = 0 := by omega
    simp [this]; omega

def bad (b : List Int) (n : Nat) : Bool := (List.range (8 * b.length)).any (fun j => decide (n ≤ j) && bitAt b j)
def unS (b : List Int) (n : Nat) : List Bool × Bool := if bad b n then ([], false) else ((List.range n).map (bitAt b), true)
def part (b : List Int) (n i : Nat) : List Bool := (List.range n).map (fun j => decide (j < i) && bitAt b j)
theorem part_zero (b : List Int) (n : Nat) : part b n 0 = List.replicate n false := by
  apply List.ext_getElem (by simp [part]); intro j h1 h2; simp [part]
theorem part_set (b : List Int) (n i : Nat) (hi : i < n) : (part b n i).set i (bitAt b i) = part b n (i + 1) := by
  apply List.ext_getElem (by simp [part]); intro j h1 h2
  simp only [part, List.getElem_set, List.getElem_map, List.getElem_range]
  by_cases e : i = j
  · subst e; simp
  · have : decide (j < i + 1) = decide (j < i) := by apply decide_eq_decide.mpr; omega
    simp [e, this]
theorem part_over (b : List Int) (n i : Nat) (hi : n ≤ i) : part b n (i + 1) = part b n i := by
  apply List.ext_getElem (by simp [part]); intro j h1 h2
  simp only [part, List.getElem_map, List.getElem_range]
  have hj : j < n := by simpa [part] using h1
  have : decide (j < i + 1) = decide (j < i) := by apply decide_eq_decide.mpr; omega
  rw [this]
theorem part_end (b : List Int) (n i : Nat) (hi : n ≤ i) : part b n i = (List.range n).map (bitAt b) := by
  apply List.ext_getElem (by simp [part]); intro j h1 h2
  simp only [part, List.getElem_map, List.getElem_range]
  have hj : j < n := by simpa [part] using h1
  rw [decide_eq_true (by omega : j < i), Bool.true_and]
theorem bad_true {b : List Int} {n i : Nat} (hi : i < 8 * b.length) (hn : n ≤ i) (h : bitAt b i = true) : bad b n = true := by
  unfold bad; rw [List.any_eq_true]; exact ⟨i, by simpa using hi, by simp [hn, h]⟩
theorem bad_false {b : List Int} {n : Nat} (h : ∀ j, j < 8 * b.length → n ≤ j → bitAt b j = false) : bad b n = false := by
  unfold bad; rw [List.any_eq_false]; intro j hj
  have hj' : j < 8 * b.length := by simpa using hj
  by_cases e : n ≤ j
  · simp [h j hj' e]
  · simp [e]

theorem unpack_loop (b : List Int) (hb : IsBytes b) (n : Nat) (hl : b.length < 1000000) (hn : n ≤ 8 * b.length) (d : Nat) : ∀ (k i : Nat), i + d = 8 * b.length → d < k →
    (∀ j, j < i → n ≤ j → bitAt b j = false) →
    bitv_Unpack.l0 k b (n : Int) (part b n i) ((8 * b.length : Nat) : Int) (i : Int) = some (unS b n) := by
  induction d with
  | zero =>
    intro k i hd hk hz
    obtain ⟨k, rfl⟩ : ∃ m, k = m + 1 := ⟨k - 1, by omega⟩
    simp only [bitv_Unpack.l0]
    rw [if_neg (by omega), part_end b n i (by omega)]
    unfold unS
    rw [bad_false (fun j hj hnj => hz j (by omega) hnj)]; rfl
  | succ d ih =>
    intro k i hd hk hz
    obtain ⟨k, rfl⟩ : ∃ m, k = m + 1 := ⟨k - 1, by omega⟩
    simp only [bitv_Unpack.l0]
    rw [if_pos (by omega), td8 (by omega), tm8 (by omega), w64 (x := (i : Int) / 8) (by omega) (by omega), w64 (x := (i : Int) + 1) (by omega) (by omega)]
    rw [show ((i : Int) / 8) = ((i / 8 : Nat) : Int) by omega, show ((i : Int) % 8) = ((i % 8 : Nat) : Int) by omega, show ((i : Int) + 1) = ((i + 1 : Nat) : Int) by omega]
    rw [if_pos (by omega), if_pos (by omega), if_pos (by omega), rd_nat, bit_and _ (hb.get _).1 (hb.get _).2 _ (by omega)]
    have he : (b.getD (i / 8) 0).toNat.testBit (i % 8) = bitAt b i := rfl
    rw [he]
    by_cases hin : i < n
    · have hlen : (part b n i).length = n := by simp [part]
      rw [if_pos (by omega), if_pos (by omega), if_pos (by omega), Int.toNat_natCast]
      have : (((if bitAt b i = true then (1 : Int) else 0)) == 1) = bitAt b i := by cases bitAt b i <;> rfl
      rw [this, part_set b n i hin]
      exact ih k (i + 1) (by omega) (by omega) (fun j hj hnj => hz j (by omega) hnj)
    · rw [if_neg (by omega)]
      by_cases hbit : bitAt b i = true
      · rw [if_pos hbit, if_pos rfl]; unfold unS; rw [bad_true (by omega) (by omega) hbit]; rfl
      · rw [if_neg hbit, if_neg (by decide), ← part_over b n i (by omega)]
        refine ih k (i + 1) (by omega) (by omega) (fun j hj hnj => ?_)
        by_cases e : j = i
        · subst e; simpa using hbit
        · exact hz j (by omega) hnj
theorem runpack_loop (b : List Int) (hb : IsBytes b) (n : Nat) (hl : b.length < 1000000) (hn : n ≤ 8 * b.length) (d : Nat) : ∀ (k i : Nat), i + d = 8 * b.length → 2 * d < k →
    (∀ j, j < i → n ≤ j → bitAt b j = false) →
    firkinref04_Unpack.l0 k b (n : Int) (part b n i) (i : Int) = some (unS b n) := by
  induction d with
  | zero =>
    intro k i hd hk hz
    obtain ⟨k, rfl⟩ : ∃ m, k = m + 1 := ⟨k - 1, by omega⟩
    simp only [firkinref04_Unpack.l0]
    rw [w64 (x := 8 * (b.length : Int)) (by omega) (by omega), if_neg (by omega), part_end b n i (by omega)]
    unfold unS
    rw [bad_false (fun j hj hnj => hz j (by omega) hnj)]; rfl
  | succ d ih =>
    intro k i hd hk hz
    obtain ⟨k, rfl⟩ : ∃ m, k = m + 2 := ⟨k - 2, by omega⟩
    simp only [firkinref04_Unpack.l0]
    rw [w64 (x := 8 * (b.length : Int)) (by omega) (by omega), if_pos (by omega), td8 (by omega), tm8 (by omega), w64 (x := (i : Int) / 8) (by omega) (by omega)]
    rw [show ((i : Int) / 8) = ((i / 8 : Nat) : Int) by omega, show ((i : Int) % 8) = ((i % 8 : Nat) : Int) by omega]
    rw [if_pos (by omega), if_pos (by omega), if_pos (by omega), rd_nat, bit_mod _ (hb.get _).1 (hb.get _).2 _ (by omega)]
    have he : (b.getD (i / 8) 0).toNat.testBit (i % 8) = bitAt b i := rfl
    rw [he]
    have hbb : (((if bitAt b i = true then (1 : Int) else 0)) == 1) = bitAt b i := by cases bitAt b i <;> rfl
    rw [hbb]
    have h1 : ((i : Int) + 1) = ((i + 1 : Nat) : Int) := by omega
    by_cases hin : i < n
    · have hlen : (part b n i).length = n := by simp [part]
      rw [if_neg (by omega)]
      simp only [firkinref04_Unpack.j2]
      rw [if_neg (by decide), if_pos (by omega), if_pos (by omega), if_pos (by omega), Int.toNat_natCast, w64 (x := (i : Int) + 1) (by omega) (by omega), h1, part_set b n i hin]
      exact ih k (i + 1) (by omega) (by omega) (fun j hj hnj => hz j (by omega) hnj)
    · rw [if_pos (by omega)]
      simp only [firkinref04_Unpack.j2]
      by_cases hbit : bitAt b i = true
      · rw [if_pos hbit]; unfold unS; rw [bad_true (by omega) (by omega) hbit]; rfl
      · rw [if_neg hbit, if_neg (by omega), w64 (x := (i : Int) + 1) (by omega) (by omega), h1, ← part_over b n i (by omega)]
        refine ih k (i + 1) (by omega) (by omega) (fun j hj hnj => ?_)
        by_cases e : j = i
        · subst e; simpa using hbit
        · exact hz j (by omega) hnj
/-- What Unpack answers, for any number. -/
def unZ (b : List Int) (n : Int) : List Bool × Bool := if 0 ≤ n ∧ (n.toNat + 7) / 8 = b.length then unS b n.toNat else ([], false)
theorem unpack_is (b : List Int) (hb : IsBytes b) (hl : b.length < 1000000) (n : Int) (hn : -9223372036854775808 ≤ n ∧ n < 9223372036854775808) (k : Nat) (hk : 8 * b.length + 2 < k) :
    bitv_Unpack.f k b n = some (unZ b n) := by
  obtain ⟨k, rfl⟩ : ∃ m, k = m + 1 := ⟨k - 1, by omega⟩
  unfold bitv_Unpack.f unZ
  by_cases h0 : n < 0
  · rw [if_pos h0, if_neg (by omega)]; simp only [bitv_Unpack.j0]; rfl
  · obtain ⟨m, rfl⟩ := Int.eq_ofNat_of_zero_le (by omega : 0 ≤ n)
    rw [if_neg h0, need_nat m (by omega)]
    simp only [Option.bind_some, Int.toNat_natCast, bitv_Unpack.j0]
    by_cases h1 : (m + 7) / 8 = b.length
    · have : ((((m + 7) / 8 : Nat) : Int) != (b.length : Int)) = false := by rw [h1]; simp
      rw [this, if_neg (by decide), if_pos (by omega), if_pos (by omega), if_pos ⟨by omega, h1⟩, w64 (x := 8 * (b.length : Int)) (by omega) (by omega), ← part_zero b m]
      rw [show (8 * (b.length : Int)) = ((8 * b.length : Nat) : Int) by omega]
      exact unpack_loop b hb m hl (by omega) (8 * b.length) k 0 (by omega) (by omega) (fun j hj => absurd hj (by omega))
    · have : ((((m + 7) / 8 : Nat) : Int) != (b.length : Int)) = true := by rw [bne_iff_ne]; omega
      rw [this, if_pos rfl, if_neg (fun h => h1 h.2)]
theorem runpack_is (b : List Int) (hb : IsBytes b) (hl : b.length < 1000000) (n : Int) (hn : -9223372036854775808 ≤ n ∧ n < 9223372036854775808) (k : Nat) (hk : 16 * b.length + 2 < k) :
    firkinref04_Unpack.f k b n = some (unZ b n) := by
  obtain ⟨k, rfl⟩ : ∃ m, k = m + 1 := ⟨k - 1, by omega⟩
  have jt : firkinref04_Unpack.j0 (k + 1) b n true = some ([], false) := by simp only [firkinref04_Unpack.j0, if_true]
  unfold firkinref04_Unpack.f unZ
  rw [w64 (x := 8 * (b.length : Int)) (by omega) (by omega)]
  by_cases h0 : n < 0
  · rw [if_pos h0, jt, if_neg (by omega)]
  · obtain ⟨m, rfl⟩ := Int.eq_ofNat_of_zero_le (by omega : 0 ≤ n)
    rw [if_neg h0, td8 (by omega), w64 (x := (m : Int) / 8) (by omega) (by omega), Int.toNat_natCast]
    by_cases h1 : (m + 7) / 8 = b.length
    · rw [if_neg (by omega), if_neg (by omega), w64 (by omega) (by omega), if_pos ⟨by omega, h1⟩]
      rw [show (decide ((8 * (b.length : Int)) - (m : Int) > 7)) = false by apply decide_eq_false; omega]
      simp only [firkinref04_Unpack.j0]
      rw [if_neg (by decide), if_pos (by omega), if_pos (by omega), Int.toNat_natCast, ← part_zero b m]
      exact runpack_loop b hb m hl (by omega) (8 * b.length) k 0 (by omega) (by omega) (fun j hj => absurd hj (by omega))
    · rw [if_neg (show ¬ (0 ≤ (m : Int) ∧ (m + 7) / 8 = b.length) from fun h => h1 h.2)]
      by_cases h2 : (m : Int) / 8 > (b.length : Int)
      · rw [if_pos h2, jt]
      · rw [if_neg h2]
        by_cases h3 : (m : Int) > 8 * (b.length : Int)
        · rw [if_pos h3, jt]
        · rw [if_neg h3, w64 (by omega) (by omega), show (decide ((8 * (b.length : Int)) - (m : Int) > 7)) = true by apply decide_eq_true; omega, jt]
theorem same_bools (l : List Bool) (hl : l.length < 100000000) (d : Nat) : ∀ (k i : Nat), i + d = l.length → d < k → firkinref04_Same.l0 k l l (i : Int) = some true := by
  induction d with
  | zero =>
    intro k i hd hk
    obtain ⟨k, rfl⟩ : ∃ m, k = m + 1 := ⟨k - 1, by omega⟩
    simp only [firkinref04_Same.l0]; rw [if_neg (by omega)]
  | succ d ih =>
    intro k i hd hk
    obtain ⟨k, rfl⟩ : ∃ m, k = m + 1 := ⟨k - 1, by omega⟩
    simp only [firkinref04_Same.l0]
    rw [if_pos (by omega), if_pos (by omega), if_pos (by omega), if_neg (by simp), w64 (by omega) (by omega), show ((i : Int) + 1) = ((i + 1 : Nat) : Int) by omega]
    exact ih k (i + 1) (by omega) (by omega)
theorem same_refl (l : List Bool) (hl : l.length < 100000000) (k : Nat) (hk : l.length < k) : firkinref04_Same.f k l l = some true := by
  unfold firkinref04_Same.f; rw [if_pos rfl]; exact same_bools l hl l.length k 0 (by omega) hk
theorem same_bytes (l : List Int) : firkinref01_Same.f l l = some true := by unfold firkinref01_Same.f; simp
theorem live_is (k : Nat) (hk : 10 ≤ k) : firkinlaw04_live.f k = some true := at_rounds firkinlaw04_live.mono hk (by decide +kernel)
theorem unpacks (b : List Int) (n : Int) (hb : IsBytes b) (hn : -9223372036854775808 ≤ n ∧ n < 9223372036854775808) : firkinlaw04_BitvUnpacks.f 5000 b n = some true := by
  unfold firkinlaw04_BitvUnpacks.f
  rw [live_is 5000 (by decide)]
  by_cases hl : (b.length : Int) > 200
  · rw [if_pos hl]; rfl
  · rw [if_neg hl, unpack_is b hb (by omega) n hn 5000 (by omega), runpack_is b hb (by omega) n hn 5000 (by omega)]
    simp only [Option.bind_some]
    have hlen : (unZ b n).1.length < 5000 := by
      unfold unZ unS; split
      · split
        · simp
        · simp; omega
      · simp
    simp only [beq_self_eq_true, if_true]
    rw [same_refl _ (by omega) _ hlen]
    simp only [Option.bind_some, if_true]
    by_cases hok : (unZ b n).2 = true
    · rw [if_pos hok]
      have hz : 0 ≤ n ∧ (n.toNat + 7) / 8 = b.length := by
        apply Classical.byContradiction; intro h; unfold unZ at hok; rw [if_neg h] at hok; cases hok
      have hu : unZ b n = unS b n.toNat := by unfold unZ; rw [if_pos hz]
      rw [hu] at hok ⊢
      have hnb : bad b n.toNat = false := by
        cases e : bad b n.toNat with
        | false => rfl
        | true => unfold unS at hok; rw [e] at hok; cases hok
      have hx : (unS b n.toNat).1 = (List.range n.toNat).map (bitAt b) := by unfold unS; rw [hnb]; rfl
      rw [hx]
      obtain ⟨y, hy, hbits⟩ := pack_is ((List.range n.toNat).map (bitAt b)) (by simp; omega) 5000 (by simp; omega)
      rw [hy]
      simp only [Option.bind_some]
      have e : y = b := by
        refine BitsOf.uniq (m := b.length) (p := bitAt b) ?_ hb.bits
        have h3 : BitsOf y b.length (fun j => ((List.range n.toNat).map (bitAt b)).getD j false) := by
          have := hbits; rwa [List.length_map, List.length_range, hz.2] at this
        refine h3.congr fun j hj => ?_
        by_cases hjn : j < n.toNat
        · simp [List.getD, hjn]
        · have h1 : ((List.range n.toNat).map (bitAt b)).getD j false = false := by simp [List.getD, hjn]
          rw [h1]
          cases e : bitAt b j with
          | false => rfl
          | true => rw [bad_true hj (by omega) e] at hnb; cases hnb
      rw [e, same_bytes]
      simp
    · rw [if_neg hok]

theorem rpack_l1 (l : List Bool) (hl : l.length < 1000000) (d : Nat) : ∀ (k i : Nat) (x : List Int), i + d = l.length → d < k →
    BitsOf x ((l.length + 7) / 8) (fun j => decide (j < i) && l.getD j false) →
    ∃ y, firkinref04_Pack.l1 k l x (i : Int) = some y ∧ BitsOf y ((l.length + 7) / 8) (fun j => l.getD j false) := by
  induction d with
  | zero =>
    intro k i x hd hk hx
    obtain ⟨k, rfl⟩ : ∃ m, k = m + 1 := ⟨k - 1, by omega⟩
    refine ⟨x, ?_, hx.congr fun j hj => ?_⟩
    · simp only [firkinref04_Pack.l1]; rw [if_neg (by omega)]
    · by_cases h : j < i
      · simp [h]
      · have : l.getD j false = false := by simp [List.getD, List.getElem?_eq_none (by omega : l.length ≤ j)]
        rw [this, Bool.and_false]
  | succ d ih =>
    intro k i x hd hk hx
    obtain ⟨k, rfl⟩ : ∃ m, k = m + 1 := ⟨k - 1, by omega⟩
    simp only [firkinref04_Pack.l1]
    rw [if_pos (by omega), if_pos (by omega), rdOf_nat, w64 (x := (i : Int) + 1) (by omega) (by omega)]
    have hi : ((i : Int) + 1) = ((i + 1 : Nat) : Int) := by omega
    rw [hi]
    by_cases hb : l.getD i false = true
    · rw [if_pos hb, td8 (by omega), tm8 (by omega), w64 (by omega) (by omega)]
      have hq : ((i : Int) / 8) = ((i / 8 : Nat) : Int) := by omega
      have hm : ((i : Int) % 8) = ((i % 8 : Nat) : Int) := by omega
      rw [hq, hm, rd_nat, if_pos (by omega), if_pos (by rw [hx.1]; omega), if_pos (by omega), shl1 _ (by omega)]
      have hb8 := hx.2 (i / 8) (by omega)
      have hlow : (x.getD (i / 8) 0).toNat < 2 ^ (i % 8) := by
        apply Nat.lt_pow_two_of_testBit
        intro j hj
        by_cases hj8 : j < 8
        · rw [hb8.2 j hj8]
          show (decide (8 * (i / 8) + j < i) && l.getD (8 * (i / 8) + j) false) = false
          have : decide (8 * (i / 8) + j < i) = false := by apply decide_eq_false; omega
          rw [this, Bool.false_and]
        · have hp : (256 : Nat) ≤ 2 ^ j := by
            have : (2 : Nat) ^ 8 ≤ 2 ^ j := Nat.pow_le_pow_right (by decide) (by omega)
            simpa using this
          exact Nat.testBit_lt_two_pow (by omega)
      have hp2 : (2 ^ (i % 8) : Nat) ≤ 128 := by
        have : (2 : Nat) ^ (i % 8) ≤ 2 ^ 7 := Nat.pow_le_pow_right (by decide) (by omega)
        simpa using this
      have hsum : (x.getD (i / 8) 0 + ((2 ^ (i % 8) : Nat) : Int)) % 256 = (((x.getD (i / 8) 0).toNat ||| (2 ^ (i % 8) : Nat) : Nat) : Int) := by
        have h1 := Nat.two_pow_add_eq_or_of_lt hlow 1
        rw [Nat.mul_one] at h1
        rw [Nat.or_comm, ← h1]
        omega
      rw [hsum]
      refine ih k (i + 1) _ (by omega) (by omega) ?_
      rw [Int.toNat_natCast]
      have hs := hx.set i (by omega) (((x.getD (i / 8) 0).toNat ||| (2 ^ (i % 8) : Nat) : Nat) : Int) (by omega) (by
        have : (x.getD (i / 8) 0).toNat ||| (2 ^ (i % 8) : Nat) < 2 ^ 8 := Nat.or_lt_two_pow (by omega) (by omega)
        omega) (fun j hj => by
          rw [Int.toNat_natCast, Nat.testBit_or, Nat.testBit_two_pow]
          congr 1; apply decide_eq_decide.mpr; omega)
      refine hs.congr fun j _ => ?_
      by_cases e : j = i
      · subst e; rw [hb]; simp
      · have : (decide (j < i + 1)) = decide (j < i) := by apply decide_eq_decide.mpr; omega
        simp [this, e]
    · rw [if_neg hb]
      refine ih k (i + 1) x (by omega) (by omega) (hx.congr fun j _ => ?_)
      by_cases e : j = i
      · subst e; simp at hb; simp [hb]
      · have : (decide (j < i + 1)) = decide (j < i) := by apply decide_eq_decide.mpr; omega
        rw [this]
theorem rpack_l0 (l : List Bool) (hl : l.length < 1000000) (d : Nat) : ∀ (k i : Nat), i + d = (l.length + 7) / 8 → d + l.length + 1 < k →
    ∃ y, firkinref04_Pack.l0 k l (List.replicate i 0) = some y ∧ BitsOf y ((l.length + 7) / 8) (fun j => l.getD j false) := by
  induction d with
  | zero =>
    intro k i hd hk
    obtain ⟨k, rfl⟩ : ∃ m, k = m + 1 := ⟨k - 1, by omega⟩
    simp only [firkinref04_Pack.l0, List.length_replicate]
    rw [w64 (by omega) (by omega), if_neg (by omega)]
    have hi : i = (l.length + 7) / 8 := by omega
    subst hi
    exact rpack_l1 l hl l.length k 0 _ (by omega) (by omega) ((BitsOf.zero _).congr fun j _ => by simp)
  | succ d ih =>
    intro k i hd hk
    obtain ⟨k, rfl⟩ : ∃ m, k = m + 1 := ⟨k - 1, by omega⟩
    simp only [firkinref04_Pack.l0, List.length_replicate]
    rw [w64 (by omega) (by omega), if_pos (by omega), if_pos (by omega)]
    have : List.replicate i (0 : Int) ++ [0] = List.replicate (i + 1) 0 := by rw [← List.replicate_succ']
    rw [this]
    exact ih k (i + 1) (by omega) (by omega)
theorem rpack_is (l : List Bool) (hl : l.length < 1000000) (k : Nat) (hk : 3 * l.length + 10 < k) :
    ∃ y, firkinref04_Pack.f k l = some y ∧ BitsOf y ((l.length + 7) / 8) (fun j => l.getD j false) := by
  unfold firkinref04_Pack.f
  exact rpack_l0 l hl ((l.length + 7) / 8) k 0 (by omega) (by omega)
theorem packs (l : List Bool) : firkinlaw04_BitvPacks.f 10000 l = some true := by
  unfold firkinlaw04_BitvPacks.f
  rw [live_is 10000 (by decide)]
  by_cases hl : (l.length : Int) > 1000
  · rw [if_pos hl]; rfl
  · rw [if_neg hl]
    obtain ⟨y, hy, hb⟩ := pack_is l (by omega) 10000 (by omega)
    obtain ⟨z, hz, hc⟩ := rpack_is l (by omega) 10000 (by omega)
    have e := hb.uniq hc
    subst e
    rw [hy, hz]
    simp only [Option.bind_some]
    have hyb : IsBytes y := by
      intro x hx
      obtain ⟨q, hq, rfl⟩ := List.getElem_of_mem hx
      have h1 := (hb.2 q (hb.1 ▸ hq)).1
      have h2 : y.getD q 0 = y[q] := by simp [List.getD, hq]
      rw [h2] at h1; exact h1
    rw [unpack_is y hyb (by rw [hb.1]; omega) _ (by omega) 10000 (by rw [hb.1]; omega)]
    have hun : unZ y (l.length : Int) = (l, true) := by
      unfold unZ
      rw [if_pos ⟨by omega, by rw [Int.toNat_natCast, hb.1]⟩, Int.toNat_natCast]
      have hnb : bad y l.length = false := bad_false fun j hj hnj => by
        have h1 := (hb.2 (j / 8) (by rw [hb.1] at hj; omega)).2 (j % 8) (by omega)
        rw [show 8 * (j / 8) + j % 8 = j by omega] at h1
        unfold bitAt; rw [h1]; simp [List.getD, List.getElem?_eq_none hnj]
      unfold unS; rw [hnb]
      have : (List.range l.length).map (bitAt y) = l := by
        apply List.ext_getElem (by simp)
        intro j h1 h2
        have h3 := (hb.2 (j / 8) (by omega)).2 (j % 8) (by omega)
        rw [show 8 * (j / 8) + j % 8 = j by omega] at h3
        simp only [List.getElem_map, List.getElem_range]
        unfold bitAt; rw [h3]; simp [List.getD, h2]
      rw [this]; rfl
    rw [hun]
    simp only [Option.bind_some, same_bytes, same_refl l (by omega) 10000 (by omega)]
    simp
end Go.Proofs.Ytebalgjkabnldaa.Bitv
