/- Bytes that are turned from a place on, plain law. -/
import Derived.Test.YtebalgjkabnldaaCrcTell
namespace Go.Proofs.Ytebalgjkabnldaa.Turned
open Go Go.RowKit Go.Proofs.Ytebalgjkabnldaa.X Go.Proofs.Ytebalgjkabnldaa.Crc
set_option linter.unusedVariables false
set_option linter.unusedSimpArgs false
def turnX (l : List Int) (a : Nat) (t : Nat → Int) : Nat → List Int
  | 0 => l
  | n + 1 => (turnX l a t n).set (a + n) (Go.bits .xor .u8 ((turnX l a t n).getD (a + n) 0) (t n))
theorem turnX_len (l : List Int) (a : Nat) (t : Nat → Int) (n : Nat) : (turnX l a t n).length = l.length := by
  induction n with
  | zero => rfl
  | succ n ih => rw [turnX, List.length_set, ih]
theorem turnX_get (l : List Int) (a : Nat) (t : Nat → Int) (n : Nat) (h : a + n ≤ l.length) : ∀ j, (turnX l a t n).getD j 0 = if a ≤ j ∧ j < a + n then Go.bits .xor .u8 (l.getD j 0) (t (j - a)) else l.getD j 0 := by
  induction n with
  | zero => intro j; rw [if_neg (by omega)]; rfl
  | succ n ih =>
    intro j
    have hi := ih (by omega)
    rw [turnX, List.getD_eq_getElem?_getD, List.getElem?_set, turnX_len]
    by_cases hj : a + n = j
    · rw [if_pos hj, if_pos (by omega), if_pos (by omega), hi (a + n), if_neg (by omega), ← hj, show a + n - a = n by omega]
      rfl
    · rw [if_neg hj, ← List.getD_eq_getElem?_getD, hi j]
      by_cases hr : a ≤ j ∧ j < a + n
      · rw [if_pos hr, if_pos (by omega)]
      · rw [if_neg hr, if_neg (by omega)]
theorem ext_getD {a b : List Int} (hl : a.length = b.length) (h : ∀ j, j < a.length → a.getD j 0 = b.getD j 0) : a = b := by
  apply List.ext_getElem hl
  intro j h1 h2
  have := h j h1
  rw [List.getD_eq_getElem?_getD, List.getD_eq_getElem?_getD, List.getElem?_eq_getElem h1, List.getElem?_eq_getElem h2] at this
  exact this
theorem bytes_getD {l : List Int} (hb : IsBytes l) (j : Nat) (h : j < l.length) : 0 ≤ l.getD j 0 ∧ l.getD j 0 < 256 := get_byte hb h
theorem bytes_of {l : List Int} (h : ∀ j, j < l.length → 0 ≤ l.getD j 0 ∧ l.getD j 0 < 256) : IsBytes l := by
  intro x hx
  obtain ⟨j, hj, rfl⟩ := List.getElem_of_mem hx
  have := h j hj
  rw [List.getD_eq_getElem?_getD, List.getElem?_eq_getElem hj] at this
  exact this
theorem xor_lt8 {x y : Int} (hx : 0 ≤ x ∧ x < 256) (hy : 0 ≤ y ∧ y < 256) : 0 ≤ Go.bits .xor .u8 x y ∧ Go.bits .xor .u8 x y < 256 := by
  rw [bxor x y hx hy]
  have := xor_pow (a := x.toNat) (b := y.toNat) 8 (by omega) (by omega)
  omega
theorem turnX_bytes {l : List Int} (hb : IsBytes l) (a : Nat) {t : Nat → Int} (ht : ∀ i, 0 ≤ t i ∧ t i < 256) (n : Nat) (h : a + n ≤ l.length) : IsBytes (turnX l a t n) := by
  refine bytes_of fun j hj => ?_
  rw [turnX_len] at hj
  rw [turnX_get l a t n h j]
  split
  · exact xor_lt8 (bytes_getD hb j hj) (ht _)
  · exact bytes_getD hb j hj
/-- Where nothing turns, they are the same. -/
theorem turnX_same {l : List Int} (hb : IsBytes l) (a : Nat) {t : Nat → Int} (n : Nat) (h : a + n ≤ l.length) (h0 : ∀ i, i < n → t i = 0) : turnX l a t n = l := by
  refine ext_getD (turnX_len _ _ _ _) fun j hj => ?_
  rw [turnX_len] at hj
  rw [turnX_get l a t n h j]
  split
  · rename_i hr
    have hx := bytes_getD hb j hj
    rw [h0 _ (by omega), bxor _ 0 hx (by decide)]
    show ((((l.getD j 0).toNat ^^^ 0 : Nat)) : Int) = _
    rw [Nat.xor_zero]; omega
  · rfl
/-- Where something turns, the sum is another. -/
theorem turnX_tells {l : List Int} (hb : IsBytes l) (a : Nat) {t : Nat → Int} (ht : ∀ i, 0 ≤ t i ∧ t i < 256) (n : Nat) (hn : n ≤ 4) (h : a + n ≤ l.length) (s : Nat) (hs : s < 4294967296) (h0 : ∃ i, i < n ∧ t i ≠ 0) : more s l ≠ more s (turnX l a t n) := by
  intro he
  have hlen := turnX_len l a t n
  have hbb := turnX_bytes hb a ht n h
  have hget := turnX_get l a t n h
  have hpre : (turnX l a t n).take a = l.take a := by
    refine ext_getD (by rw [List.length_take, List.length_take, hlen]) fun j hj => ?_
    rw [List.length_take, hlen] at hj
    have := hget j
    rw [if_neg (by omega)] at this
    simp only [List.getD_eq_getElem?_getD, List.getElem?_take] at this ⊢
    rw [if_pos (by omega), if_pos (by omega)]; exact this
  have hsuf : (turnX l a t n).drop (a + n) = l.drop (a + n) := by
    refine ext_getD (by rw [List.length_drop, List.length_drop, hlen]) fun j hj => ?_
    have := hget (a + n + j)
    rw [if_neg (by omega)] at this
    simp only [List.getD_eq_getElem?_getD, List.getElem?_drop] at this ⊢
    exact this
  have parts : ∀ m : List Int, m.length = l.length → m = m.take a ++ ((m.drop a).take n ++ m.drop (a + n)) := by
    intro m hm
    have h1 : m.drop (a + n) = (m.drop a).drop n := by rw [List.drop_drop]
    rw [h1, List.take_append_drop, List.take_append_drop]
  have e1 := parts l rfl
  have e2 := parts (turnX l a t n) hlen
  rw [hpre, hsuf] at e2
  rw [e2] at he
  rw [e1] at he
  have hbt : ∀ m : List Int, IsBytes m → IsBytes ((m.drop a).take n) := fun m hm x hx => hm x (List.mem_of_mem_drop (List.mem_of_mem_take hx))
  have heq := more_tells s hs (l.take a) ((l.drop a).take n) (((turnX l a t n).drop a).take n) (l.drop (a + n)) (fun x hx => hb x (List.mem_of_mem_take hx)) (hbt l hb) (hbt _ hbb) (fun x hx => hb x (List.mem_of_mem_drop hx)) (by simp only [List.length_take, List.length_drop, hlen]) (by simp only [List.length_take, List.length_drop]; omega) (by
    have e3 := e1
    simp only [← e3] at he
    rw [← e1]
    exact he)
  obtain ⟨i, hi, hne⟩ := h0
  have h5 := congrArg (fun m => m.getD i 0) heq
  simp only [List.getD_eq_getElem?_getD, List.getElem?_take, List.getElem?_drop] at h5
  rw [if_pos hi, if_pos hi] at h5
  have h6 := hget (a + i)
  rw [if_pos (by omega), show a + i - a = i by omega] at h6
  simp only [List.getD_eq_getElem?_getD] at h6
  rw [← h5] at h6
  have hx := bytes_getD hb (a + i) (by omega)
  rw [List.getD_eq_getElem?_getD] at hx
  generalize l[a + i]?.getD 0 = x at h6 hx
  rw [bxor x (t i) hx (ht i)] at h6
  have h7 : x.toNat ^^^ (t i).toNat = x.toNat := by omega
  have h8 := xx x.toNat (t i).toNat
  rw [h7, Nat.xor_self] at h8
  have := ht i
  omega
end Go.Proofs.Ytebalgjkabnldaa.Turned
