/- The sum tells up to four neighbours that are others: plain law. -/
import Derived.Test.YtebalgjkabnldaaCrc
namespace Go.Proofs.Ytebalgjkabnldaa.Crc
open Go Go.RowKit Go.Proofs.Ytebalgjkabnldaa.X
set_option linter.unusedVariables false
set_option linter.unusedSimpArgs false
theorem st_inv {s m : Nat} (hs : s < 4294967296) (hm : m < 2147483648) (h : st s = m) : s = 2 * m := by
  unfold st at h
  by_cases ho : s % 2 = 1
  · exfalso
    rw [if_pos ho] at h
    have h1 : (s / 2 ^^^ 2197175160).testBit 31 = true := by
      rw [Nat.testBit_xor, Nat.testBit_lt_two_pow (x := s / 2) (i := 31) (by omega)]
      decide
    rw [h, Nat.testBit_lt_two_pow (by omega)] at h1
    cases h1
  · rw [if_neg ho, Nat.xor_zero] at h
    omega
theorem st8_inv {s m : Nat} (hs : s < 4294967296) (hm : m < 16777216) (h : st8 s = m) : s = 256 * m := by
  unfold st8 st4 at h
  have l1 := st_lt hs
  have l2 := st_lt l1
  have l3 := st_lt l2
  have l4 := st_lt l3
  have l5 := st_lt l4
  have l6 := st_lt l5
  have l7 := st_lt l6
  have h7 := st_inv l7 (by omega) h
  have h6 := st_inv l6 (by omega) h7
  have h5 := st_inv l5 (by omega) h6
  have h4 := st_inv l4 (by omega) h5
  have h3 := st_inv l3 (by omega) h4
  have h2 := st_inv l2 (by omega) h3
  have h1 := st_inv l1 (by omega) h2
  have h0 := st_inv hs (by omega) h1
  omega
theorem st8_xor (a b : Nat) : st8 (a ^^^ b) = st8 a ^^^ st8 b := by rw [st8_eq, st4_xor, st4_xor]; rfl
theorem st8_lt {s : Nat} (h : s < 4294967296) : st8 s < 4294967296 := st4_lt (st4_lt h)
theorem xor_zero_eq {a b : Nat} (h : a ^^^ b = 0) : a = b := by
  have := xx a b
  rw [h, Nat.xor_zero] at this
  exact this
theorem byte_lt {c : Int} (h : 0 ≤ c ∧ c < 256) : c.toNat < 4294967296 := by omega
theorem mix (s t x y : Nat) : (s ^^^ x) ^^^ (t ^^^ y) = (s ^^^ t) ^^^ (x ^^^ y) := by
  rw [Nat.xor_assoc, Nat.xor_assoc, ← Nat.xor_assoc x t y, Nat.xor_comm x t, Nat.xor_assoc t x y]
theorem run_inj {l : List Int} (hb : IsBytes l) : ∀ {s t : Nat}, s < 4294967296 → t < 4294967296 → run s l = run t l → s = t := by
  induction l with
  | nil => intro s t _ _ h; exact h
  | cons c l ih =>
    intro s t hs ht h
    have hc := hb c List.mem_cons_self
    have hl : IsBytes l := fun x hx => hb x (List.mem_cons_of_mem _ hx)
    rw [run_cons, run_cons] at h
    have h1 := ih hl (st8_lt (xor_lt hs (byte_lt hc))) (st8_lt (xor_lt ht (byte_lt hc))) h
    have h2 : st8 ((s ^^^ c.toNat) ^^^ (t ^^^ c.toNat)) = 0 := by rw [st8_xor, h1, Nat.xor_self]
    have h3 := st8_inv (xor_lt (xor_lt hs (byte_lt hc)) (xor_lt ht (byte_lt hc))) (by omega) h2
    rw [mix, Nat.xor_self, Nat.xor_zero] at h3
    exact xor_zero_eq (by omega)
theorem xor_pow {a b : Nat} (k : Nat) (ha : a < 2 ^ k) (hb : b < 2 ^ k) : a ^^^ b < 2 ^ k := Nat.xor_lt_two_pow ha hb
theorem run_diff (n : Nat) : ∀ (b c : List Int), b.length = n → c.length = n → n ≤ 4 → IsBytes b → IsBytes c → ∀ (s t : Nat), s < 4294967296 → t < 4294967296 → run s b = run t c → (s ^^^ t) < 2 ^ (8 * n) ∧ (s ^^^ t = 0 → b = c) := by
  induction n with
  | zero =>
    intro b c hb hc _ _ _ s t _ _ h
    obtain rfl := List.eq_nil_of_length_eq_zero hb
    obtain rfl := List.eq_nil_of_length_eq_zero hc
    have h' : s = t := h
    subst h'
    exact ⟨by rw [Nat.xor_self]; decide, fun _ => rfl⟩
  | succ n ih =>
    intro b c hb hc hn hbb hcc s t hs ht h
    match b, c, hb, hc with
    | x :: b, y :: c, hb, hc =>
      have hx := hbb x List.mem_cons_self
      have hy := hcc y List.mem_cons_self
      rw [run_cons, run_cons] at h
      obtain ⟨h1, h2⟩ := ih b c (by simpa using hb) (by simpa using hc) (by omega) (fun z hz => hbb z (List.mem_cons_of_mem _ hz)) (fun z hz => hcc z (List.mem_cons_of_mem _ hz)) _ _ (st8_lt (xor_lt hs (byte_lt hx))) (st8_lt (xor_lt ht (byte_lt hy))) h
      rw [← st8_xor] at h1 h2
      have hv : 2 ^ (8 * n) ≤ 16777216 := by
        have : 2 ^ (8 * n) ≤ 2 ^ 24 := Nat.pow_le_pow_right (by decide) (by omega)
        simpa using this
      have h3 := st8_inv (xor_lt (xor_lt hs (byte_lt hx)) (xor_lt ht (byte_lt hy))) (Nat.lt_of_lt_of_le h1 hv) rfl
      rw [mix] at h3
      rw [mix] at h1 h2
      generalize st8 ((s ^^^ t) ^^^ (x.toNat ^^^ y.toNat)) = v at h1 h2 h3
      have hxy : x.toNat ^^^ y.toNat < 256 := by
        have := xor_pow (a := x.toNat) (b := y.toNat) 8 (by omega) (by omega)
        simpa using this
      have e : s ^^^ t = (256 * v) ^^^ (x.toNat ^^^ y.toNat) := by
        rw [← h3, Nat.xor_assoc, Nat.xor_self, Nat.xor_zero]
      have hp : (2 : Nat) ^ (8 * (n + 1)) = 256 * 2 ^ (8 * n) := by rw [Nat.mul_succ, Nat.pow_add]; omega
      refine ⟨?_, fun h0 => ?_⟩
      · rw [e]
        refine xor_pow _ ?_ ?_
        · rw [hp]; omega
        · have : 1 ≤ 2 ^ (8 * n) := Nat.one_le_two_pow
          rw [hp]; omega
      · rw [e] at h0
        have h4 := xor_zero_eq h0
        have hv0 : v = 0 := by omega
        have hxy0 : x.toNat ^^^ y.toNat = 0 := by omega
        have h5 := xor_zero_eq hxy0
        rw [h2 hv0]
        have : x = y := by omega
        rw [this]
theorem run_append (s : Nat) (l m : List Int) : run s (l ++ m) = run (run s l) m := by unfold run; rw [List.foldl_append]
/-- Bytes of which up to four neighbours are others have another sum. -/
theorem more_tells (s : Nat) (hs : s < 4294967296) (p b c q : List Int) (hp : IsBytes p) (hb : IsBytes b) (hc : IsBytes c) (hq : IsBytes q) (hl : b.length = c.length) (h4 : b.length ≤ 4) (h : more s (p ++ (b ++ q)) = more s (p ++ (c ++ q))) : b = c := by
  unfold more at h
  have h1 : run (4294967295 ^^^ s) (p ++ (b ++ q)) = run (4294967295 ^^^ s) (p ++ (c ++ q)) := by
    have e1 := xx 4294967295 (run (4294967295 ^^^ s) (p ++ (b ++ q)))
    have e2 := xx 4294967295 (run (4294967295 ^^^ s) (p ++ (c ++ q)))
    rw [h] at e1
    exact e1.symm.trans e2
  rw [run_append, run_append, run_append, run_append] at h1
  have hs0 := xor_lt (a := 4294967295) (by omega) hs
  have hs1 := run_lt hp hs0
  have h2 := run_inj hq (run_lt hb hs1) (run_lt hc hs1) h1
  exact (run_diff b.length b c rfl hl.symm h4 hb hc _ _ hs1 hs1 h2).2 (Nat.xor_self _)
theorem bxor (p y : Int) (hp : 0 ≤ p ∧ p < 256) (hy : 0 ≤ y ∧ y < 256) : Go.bits .xor .u8 p y = ((p.toNat ^^^ y.toNat : Nat) : Int) := by
  exact u8_xor p y hp.1 hp.2 hy.1 hy.2
end Go.Proofs.Ytebalgjkabnldaa.Crc
