/- Plain facts on layer 2 (crc): the sum, bit by bit; the program's is it. -/
import Derived.Test.YtbkpcepnhjnpgaaX2
import Derived.Laws.BitsAllLaws
namespace Go.Proofs.Ytbkpcepnhjnpgaa.Crc
open Go.RowKit Go.Proofs.Ytbkpcepnhjnpgaa.X Go.Proofs.YtbkpcepnhjnpgaaW.PrintWords Go.Proofs.YtbkpcepnhjnpgaaW.PrintLast Go.Proofs.YtbkpcepnhjnpgaaW.PrintMore
set_option linter.unusedVariables false
theorem w64 {x : Int} (h0 : -9223372036854775808 ≤ x) (h1 : x < 9223372036854775808) : wrap64 x = x := by unfold wrap64; omega
/-- One bit's step. -/
def st (s : Nat) : Nat := (s / 2) ^^^ (if s % 2 = 1 then 2197175160 else 0)
def st4 (s : Nat) : Nat := st (st (st (st s)))
def st8 (s : Nat) : Nat := st4 (st4 s)
theorem st_lt {s : Nat} (h : s < 4294967296) : st s < 4294967296 := by
  unfold st
  have : s / 2 ^^^ (if s % 2 = 1 then 2197175160 else 0) < 2 ^ 32 := Nat.xor_lt_two_pow (by omega) (by split <;> omega)
  simpa using this
theorem st4_lt {s : Nat} (h : s < 4294967296) : st4 s < 4294967296 := st_lt (st_lt (st_lt (st_lt h)))
theorem st_xor (a b : Nat) : st (a ^^^ b) = st a ^^^ st b := by
  unfold st
  rw [Nat.xor_div_two]
  have h := @Nat.xor_mod_two_eq_one a b
  by_cases ha : a % 2 = 1 <;> by_cases hb : b % 2 = 1
  · have : ¬ (a ^^^ b) % 2 = 1 := by rw [h]; simp [ha, hb]
    rw [if_neg this, if_pos ha, if_pos hb, Nat.xor_zero, Nat.xor_assoc, Nat.xor_comm 2197175160 _, Nat.xor_assoc, Nat.xor_self, Nat.xor_zero]
  · have : (a ^^^ b) % 2 = 1 := by rw [h]; simp [ha, hb]
    rw [if_pos this, if_pos ha, if_neg hb, Nat.xor_zero, Nat.xor_assoc, Nat.xor_assoc, Nat.xor_comm (b / 2)]
  · have : (a ^^^ b) % 2 = 1 := by rw [h]; simp [ha, hb]
    rw [if_pos this, if_neg ha, if_pos hb, Nat.xor_zero, Nat.xor_assoc]
  · have : ¬ (a ^^^ b) % 2 = 1 := by rw [h]; simp [ha, hb]
    rw [if_neg this, if_neg ha, if_neg hb, Nat.xor_zero, Nat.xor_zero, Nat.xor_zero]
theorem st4_xor (a b : Nat) : st4 (a ^^^ b) = st4 a ^^^ st4 b := by unfold st4; rw [st_xor, st_xor, st_xor, st_xor]
theorem split16 (x : Nat) : x = (16 * (x / 16)) ^^^ (x % 16) := by
  apply Nat.eq_of_testBit_eq
  intro i
  have e1 : 16 * (x / 16) = (x >>> 4) <<< 4 := by rw [Nat.shiftLeft_eq, Nat.shiftRight_eq_div_pow]; omega
  have e2 : x % 16 = x % 2 ^ 4 := rfl
  rw [Nat.testBit_xor, e1, e2, Nat.testBit_shiftLeft, Nat.testBit_mod_two_pow, Nat.testBit_shiftRight]
  by_cases hi : 4 ≤ i
  · have h1 : 4 + (i - 4) = i := by omega
    have h2 : decide (i < 4) = false := by simp; omega
    simp [hi, h1, h2]
  · have h2 : decide (i < 4) = true := by simp; omega
    simp [hi, h2]
theorem st4_16 (h : Nat) : st4 (16 * h) = h := by
  have s1 : st (16 * h) = 8 * h := by unfold st; rw [if_neg (by omega), Nat.xor_zero]; omega
  have s2 : st (8 * h) = 4 * h := by unfold st; rw [if_neg (by omega), Nat.xor_zero]; omega
  have s3 : st (4 * h) = 2 * h := by unfold st; rw [if_neg (by omega), Nat.xor_zero]; omega
  have s4 : st (2 * h) = h := by unfold st; rw [if_neg (by omega), Nat.xor_zero]; omega
  unfold st4; rw [s1, s2, s3, s4]
theorem tab_is : ∀ j, j < 16 → halfTab.getD j 0 = ((st4 j : Nat) : Int)
  | 0, _ | 1, _ | 2, _ | 3, _ | 4, _ | 5, _ | 6, _ | 7, _ | 8, _ | 9, _ | 10, _ | 11, _ | 12, _ | 13, _ | 14, _ | 15, _ => by decide +kernel
  | n + 16, h => absurd h (by omega)
theorem half_is (x : Nat) (h : x < 4294967296) : crc_half.f (x : Int) = some ((st4 x : Nat) : Int) := by
  unfold crc_half.f
  rw [if_pos ⟨by omega, by omega⟩, show ((x : Int) % 16).toNat = x % 16 by omega, tab_is _ (Nat.mod_lt _ (by decide)), show ((x : Int) / 16) = ((x / 16 : Nat) : Int) by omega]
  have hl : st4 (x % 16) < 4294967296 := st4_lt (by omega)
  rw [u32_xor _ _ (by omega) (by omega) (by omega) (by omega), Int.toNat_natCast, Int.toNat_natCast]
  have hx : st4 x = x / 16 ^^^ st4 (x % 16) := by
    conv => lhs; rw [split16 x]
    rw [st4_xor, st4_16]
  rw [hx]
/-- The state behind bytes. -/
def run (s : Nat) (l : List Int) : Nat := l.foldl (fun s c => st8 (s ^^^ c.toNat)) s
def IsBytes (b : List Int) : Prop := ∀ x ∈ b, 0 ≤ x ∧ x < 256
theorem byte_bounds {x : Int} (h : (Lit.int .u8 x).wf = true) : 0 ≤ x ∧ x < 256 := by
  have h' : (decide ((0 : Int) ≤ x) && decide (x ≤ 255)) = true := h
  rw [Bool.and_eq_true, decide_eq_true_eq, decide_eq_true_eq] at h'
  omega
theorem u32_bounds {x : Int} (h : (Lit.int .u32 x).wf = true) : 0 ≤ x ∧ x < 4294967296 := by
  have h' : (decide ((0 : Int) ≤ x) && decide (x ≤ 4294967295)) = true := h
  rw [Bool.and_eq_true, decide_eq_true_eq, decide_eq_true_eq] at h'
  omega
theorem xor_lt {a b : Nat} (ha : a < 4294967296) (hb : b < 4294967296) : a ^^^ b < 4294967296 := by
  have : a ^^^ b < 2 ^ 32 := Nat.xor_lt_two_pow (by omega) (by omega)
  simpa using this
theorem run_cons (s : Nat) (c : Int) (l : List Int) : run s (c :: l) = run (st8 (s ^^^ c.toNat)) l := by unfold run; rw [List.foldl_cons]
theorem st8_eq (s : Nat) : st8 s = st4 (st4 s) := rfl
theorem run_lt {l : List Int} (hb : IsBytes l) : ∀ {s : Nat}, s < 4294967296 → run s l < 4294967296 := by
  induction l with
  | nil => intro s h; exact h
  | cons c l ih =>
    intro s h
    have hc := hb c (List.mem_cons_self ..)
    rw [run_cons]
    exact ih (fun x hx => hb x (List.mem_cons_of_mem _ hx)) (st4_lt (st4_lt (xor_lt h (by omega))))
/-- A sum behind bytes, as the document says it. -/
def more (sum : Nat) (l : List Int) : Nat := 4294967295 ^^^ run (4294967295 ^^^ sum) l
theorem rd_nat (xs : List Int) (q : Nat) : rd xs (q : Int) = xs.getD q 0 := rfl
theorem drop_get {l : List Int} {i : Nat} (h : i < l.length) : l.drop i = l.getD i 0 :: l.drop (i + 1) := by
  rw [List.drop_eq_getElem_cons h]; simp [List.getD, h]
theorem get_byte {l : List Int} (hb : IsBytes l) {i : Nat} (h : i < l.length) : 0 ≤ l.getD i 0 ∧ l.getD i 0 < 256 := by
  have : l.getD i 0 = l[i] := by simp [List.getD, h]
  rw [this]; exact hb _ (List.getElem_mem h)
theorem more_loop (l : List Int) (hb : IsBytes l) (hl : l.length < 1000000000) (d : Nat) : ∀ (k i s : Nat), i + d = l.length → d < k → s < 4294967296 →
    crc_More.l0 k (s : Int) l (l.length : Int) (i : Int) = some ((4294967295 ^^^ run s (l.drop i) : Nat) : Int) := by
  induction d with
  | zero =>
    intro k i s hd hk hs
    obtain ⟨k, rfl⟩ : ∃ m, k = m + 1 := ⟨k - 1, by omega⟩
    simp only [crc_More.l0]
    rw [if_neg (by omega), u32_xor _ _ (by omega) (by omega) (by omega) (by omega), List.drop_eq_nil_of_le (by omega), Int.toNat_natCast, show (4294967295 : Int).toNat = 4294967295 by decide]
    unfold run; rw [List.foldl_nil]
  | succ d ih =>
    intro k i s hd hk hs
    obtain ⟨k, rfl⟩ : ∃ m, k = m + 1 := ⟨k - 1, by omega⟩
    have hi : i < l.length := by omega
    have hc := get_byte hb hi
    simp only [crc_More.l0]
    rw [if_pos (by omega), if_pos (by omega), if_pos (by omega), rd_nat, show l.getD i 0 % 4294967296 = l.getD i 0 by omega, u32_xor _ _ (by omega) (by omega) (by omega) (by omega), Int.toNat_natCast]
    have hx := xor_lt hs (show (l.getD i 0).toNat < 4294967296 by omega)
    rw [half_is _ hx, Option.bind_some, half_is _ (st4_lt hx), Option.bind_some]
    rw [w64 (by omega) (by omega), show ((i : Int) + 1) = ((i + 1 : Nat) : Int) by omega, ih k (i + 1) _ (by omega) (by omega) (st4_lt (st4_lt hx)), drop_get hi]
    rw [run_cons, st8_eq]
theorem more_is (l : List Int) (hb : IsBytes l) (hl : l.length < 1000000000) (s : Nat) (hs : s < 4294967296) (k : Nat) (hk : l.length < k) : crc_More.f k (s : Int) l = some ((more s l : Nat) : Int) := by
  unfold crc_More.f
  rw [u32_xor _ _ (by omega) (by omega) (by omega) (by omega), Int.toNat_natCast, show (4294967295 : Int).toNat = 4294967295 by decide]
  have := more_loop l hb hl l.length k 0 _ (by omega) hk (xor_lt (show 4294967295 < 4294967296 by decide) hs)
  rw [List.drop_zero] at this
  exact this
theorem of_loop (ls : List (List Int)) (hb : ∀ l ∈ ls, IsBytes l ∧ l.length < 1000000000) (hl : ls.length < 1000000000) (K : Nat) (hK : ∀ l ∈ ls, l.length < K) (d : Nat) : ∀ (k i s : Nat), i + d = ls.length → d + K < k → s < 4294967296 →
    crc_Of.l0 k (s : Int) ls (ls.length : Int) (i : Int) = some (((ls.drop i).foldl more s : Nat) : Int) := by
  induction d with
  | zero =>
    intro k i s hd hk hs
    obtain ⟨k, rfl⟩ : ∃ m, k = m + 1 := ⟨k - 1, by omega⟩
    simp only [crc_Of.l0]
    rw [if_neg (by omega), List.drop_eq_nil_of_le (by omega)]
    rfl
  | succ d ih =>
    intro k i s hd hk hs
    obtain ⟨k, rfl⟩ : ∃ m, k = m + 1 := ⟨k - 1, by omega⟩
    have hi : i < ls.length := by omega
    have hm : ls[i] ∈ ls := List.getElem_mem hi
    simp only [crc_Of.l0]
    rw [if_pos (by omega), if_pos (by omega), if_pos (by omega)]
    have hg : ∀ z : List Int, List.getD ls (i : Int).toNat z = ls[i] := fun z => by rw [Int.toNat_natCast]; simp [List.getD, hi]
    have hg2 : rd_L2 ls (i : Int) = ls[i] := hg _
    rw [hg2, more_is _ (hb _ hm).1 (hb _ hm).2 s hs k (by have := hK _ hm; omega)]
    simp only [Option.bind_some]
    have hlt : more s ls[i] < 4294967296 := xor_lt (by decide) (run_lt (hb _ hm).1 (xor_lt (by decide) hs))
    rw [w64 (by omega) (by omega), show ((i : Int) + 1) = ((i + 1 : Nat) : Int) by omega, ih k (i + 1) _ (by omega) (by omega) hlt, List.drop_eq_getElem_cons hi]
    rfl
theorem of_is (ls : List (List Int)) (hb : ∀ l ∈ ls, IsBytes l ∧ l.length < 1000000000) (hl : ls.length < 1000000000) (K : Nat) (hK : ∀ l ∈ ls, l.length < K) (k : Nat) (hk : ls.length + K < k) :
    crc_Of.f k ls = some ((ls.foldl more 0 : Nat) : Int) := by
  unfold crc_Of.f
  have := of_loop ls hb hl K hK ls.length k 0 0 (by omega) (by omega) (by decide)
  rw [List.drop_zero] at this
  exact this
/-- Parted bytes' sums go on from each other. -/
theorem xx (a b : Nat) : a ^^^ (a ^^^ b) = b := by rw [← Nat.xor_assoc, Nat.xor_self, Nat.zero_xor]
theorem more_append (s : Nat) (l m : List Int) : more s (l ++ m) = more (more s l) m := by
  unfold more run; rw [List.foldl_append, xx]
theorem more_flat (ls : List (List Int)) : ∀ s, ls.foldl more s = more s ls.flatten := by
  induction ls with
  | nil => intro s; show s = _; unfold more run; simp [xx]
  | cons l ls ih => intro s; rw [List.foldl_cons, ih, List.flatten_cons, more_append]
end Go.Proofs.Ytbkpcepnhjnpgaa.Crc
