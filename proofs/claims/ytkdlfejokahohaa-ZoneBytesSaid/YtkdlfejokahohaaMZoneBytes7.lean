/- ZoneBytes: for every input the call returns true, and each argument reads behind the call as it read before it. No condition. (Part 8 of 10: this session's texts, laid together by wip/merge.py.) -/
import Derived.Test.YtkdlfejokahohaaEnc0
import Derived.Test.YtkdlfejokahohaaRound
import Derived.Test.YtkdlfejokahohaaMZoneBytes0
import Derived.Test.YtkdlfejokahohaaMZoneBytes1
import Derived.Test.YtkdlfejokahohaaMZoneBytes2
import Derived.Test.YtkdlfejokahohaaMZoneBytes3
import Derived.Test.YtkdlfejokahohaaMZoneBytes4
import Derived.Test.YtkdlfejokahohaaMZoneBytes5
import Derived.Test.YtkdlfejokahohaaMZoneBytes6
set_option maxHeartbeats 8000000
set_option maxRecDepth 100000
/- Cells, plain law: which cells there may be; the code's answer and the document's are the same. -/
namespace Go.Proofs.Ytkdlfejokahohaa.CellPlain
open Go Go.RowKit Go.Proofs.Ytkdlfejokahohaa.X Go.Proofs.Ytkdlfejokahohaa.Dec Go.Proofs.YtkdlfejokahohaaW.PrintWords Go.Proofs.YtkdlfejokahohaaW.PrintLast Go.Proofs.YtkdlfejokahohaaW.PrintMore
set_option linter.unusedVariables false
set_option linter.unusedSimpArgs false
/-- Which cells there may be. -/
def mayC (ty : Int) (null : Bool) (c0 : Bool) (c1 : Int) (c2 : ByteArray) : Bool :=
 if ty < 1 ∨ 3 < ty then false else if c0 = true then null && (c1 == 0) && c2.toList.isEmpty else if ty = 3 then (c1 == 0) && decide ((c2.size : Int) ≤ 40) else c2.toList.isEmpty && (ty == 1 || c1 == 0 || c1 == 1)
theorem may_is (ty : Int) (null : Bool) (c0 : Bool) (c1 : Int) (c2 : ByteArray) : cell_May.f ty null c0 c1 c2 = some (mayC ty null c0 c1 c2) := by
 unfold cell_May.f mayC
 by_cases h1 : ty = 1
 ·subst h1; cases c0 <;> cases null <;> simp [Strs.nilB]
 by_cases h2 : ty = 2
 ·subst h2; cases c0 <;> cases null <;> simp [Strs.nilB]
  all_goals (cases c2.toList <;> simp; split <;> simp_all)
 by_cases h3 : ty = 3
 ·subst h3; cases c0 <;> cases null <;> simp [Strs.nilB]
  all_goals (split <;> simp_all)
 have h : ty < 1 ∨ 3 < ty := by omega
 rw [if_pos h]
 cases c0 <;> cases null <;> simp [h1, h2, h3]
 intro h4 h5
 omega
theorem rmay_is (ty : Int) (null : Bool) (c0 : Bool) (c1 : Int) (c2 : ByteArray) (k : Nat) : firkinref09_May.f (k + 1) ty null c0 c1 c2 = some (mayC ty null c0 c1 c2) := by
 unfold firkinref09_May.f mayC
 by_cases hl : ty < 1
 ·rw [if_pos hl, firkinref09_May.j0, if_pos rfl, if_pos (.inl hl)]
 by_cases hg : ty > 3
 ·rw [if_neg hl, decide_eq_true hg, firkinref09_May.j0, if_pos rfl, if_pos (.inr hg)]
 have hr : ¬ (ty < 1 ∨ 3 < ty) := by omega
 rw [if_neg hl, decide_eq_false hg, firkinref09_May.j0, if_neg hr]
 simp only [Bool.false_eq_true, if_false]
 by_cases h3 : ty = 3
 ·subst h3; cases c0 <;> cases null <;> simp [Strs.nilB]
  all_goals (split <;> simp_all)
 ·by_cases h1 : ty = 1
  ·subst h1; cases c0 <;> cases null <;> simp [Strs.nilB]
   all_goals (cases c2.toList <;> simp)
   all_goals (split <;> simp_all)
  ·have h2 : ty = 2 := by omega
   subst h2; cases c0 <;> cases null <;> simp [Strs.nilB]
   all_goals (cases c2.toList <;> simp)
   all_goals (split <;> simp_all)
end Go.Proofs.Ytkdlfejokahohaa.CellPlain
/- Zones, plain law: which zones there may be, which cells they have; the code's answer and the document's. -/
namespace Go.Proofs.Ytkdlfejokahohaa.CellPlain
open Go Go.RowKit Go.Proofs.Ytkdlfejokahohaa.X Go.Proofs.Ytkdlfejokahohaa.Dec Go.Proofs.YtkdlfejokahohaaW.PrintWords Go.Proofs.YtkdlfejokahohaaW.PrintLast Go.Proofs.YtkdlfejokahohaaW.PrintMore
set_option linter.unusedVariables false
set_option linter.unusedSimpArgs false
/-- Is a cell the one without anything? -/
def noC (c0 : Bool) (c1 : Int) (c2 : ByteArray) : Bool := !c0 && (c1 == 0 && (c2.toList == ([] : List UInt8)))
/-- Which zones there may be. -/
def mayZ (ty z0 z1 : Int) (l0 : Bool) (l1 : Int) (l2 : ByteArray) (h0 : Bool) (h1 : Int) (h2 : ByteArray) : Bool :=
 if ty < 1 ∨ 3 < ty ∨ z0 < 0 ∨ 4096 < z0 ∨ z1 < 0 ∨ z0 < z1 then false
 else if z0 = z1 then noC l0 l1 l2 && noC h0 h1 h2
 else mayC ty false l0 l1 l2 && mayC ty false h0 h1 h2 && decide (ordC l0 l1 l2 h0 h1 h2 ≤ 0)
/-- Which cells may be a zone's. -/
def hasZ (z0 z1 : Int) (l0 : Bool) (l1 : Int) (l2 : ByteArray) (h0 : Bool) (h1 : Int) (h2 : ByteArray) (c0 : Bool) (c1 : Int) (c2 : ByteArray) : Bool :=
 if c0 = true then decide (0 < z1) else decide (z1 < z0) && decide (0 ≤ ordC c0 c1 c2 l0 l1 l2) && decide (ordC c0 c1 c2 h0 h1 h2 ≤ 0)
theorem zmay_is (ty z0 z1 : Int) (l0 : Bool) (l1 : Int) (l2 : ByteArray) (h0 : Bool) (h1 : Int) (h2 : ByteArray) (k : Nat) (hk : 6 < k) : zone_May.f k ty z0 z1 l0 l1 l2 h0 h1 h2 = some (mayZ ty z0 z1 l0 l1 l2 h0 h1 h2) := by
 obtain ⟨k, rfl⟩ : ∃ m, k = m + 2 := ⟨k - 2, by omega⟩
 have e1 : ∀ b, zone_May.j1 (k + 1) ty b z0 z1 l0 l1 l2 h0 h1 h2 = some (if b = true then false else if z1 < z0 then mayC ty false l0 l1 l2 && mayC ty false h0 h1 h2 && decide (ordC l0 l1 l2 h0 h1 h2 ≤ 0) else noC l0 l1 l2 && noC h0 h1 h2) := by
  intro b
  rw [zone_May.j1]
  cases b
  ·simp only [Bool.false_eq_true, if_false, zone_some.f, Option.bind_some, may_is, order_is _ _ _ _ _ _ k (by omega)]
   by_cases h : z1 < z0
   ·simp only [gt_iff_lt, h, decide_true, if_true]
    cases mayC ty false l0 l1 l2 <;> cases mayC ty false h0 h1 h2 <;> simp
   ·simp only [gt_iff_lt, h, decide_false, if_false, Bool.false_eq_true]
    unfold noC
    cases (!l0 && (l1 == 0 && (l2.toList == ([] : List UInt8)))) <;> simp
  ·simp
 have e0 : ∀ b, zone_May.j0 (k + 2) ty b z0 z1 l0 l1 l2 h0 h1 h2 = some (if b = true ∨ z0 < 0 ∨ 4096 < z0 ∨ z1 < 0 ∨ z0 < z1 then false else if z0 = z1 then noC l0 l1 l2 && noC h0 h1 h2 else mayC ty false l0 l1 l2 && mayC ty false h0 h1 h2 && decide (ordC l0 l1 l2 h0 h1 h2 ≤ 0)) := by
  intro b
  rw [zone_May.j0]
  cases b
  ·simp only [Bool.false_eq_true, if_false, false_or, e1]
   by_cases g1 : z0 < 0
   ·simp [g1]
   by_cases g2 : 4096 < z0
   ·simp [g1, g2]
   by_cases g3 : z1 < 0
   ·simp [g1, g2, g3]
   by_cases g4 : z0 < z1
   ·simp [g1, g2, g3, g4]
   by_cases g5 : z0 = z1
   ·subst g5; simp [g1, g2, g3, g4]
   ·have g6 : z1 < z0 := by omega
    simp [g1, g2, g3, g4, g5, g6]
  ·simp
 unfold zone_May.f mayZ
 by_cases g1 : ty < 1
 ·rw [if_pos g1, e0]; simp [g1]
 by_cases g2 : 3 < ty
 ·rw [if_neg g1, e0]; simp [g2]
 rw [if_neg g1, e0]
 simp [g1, g2]
theorem zhas_is (z0 z1 : Int) (l0 : Bool) (l1 : Int) (l2 : ByteArray) (h0 : Bool) (h1 : Int) (h2 : ByteArray) (c0 : Bool) (c1 : Int) (c2 : ByteArray) (k : Nat) (hk : 4 < k) : zone_Has.f k z0 z1 l0 l1 l2 h0 h1 h2 c0 c1 c2 = some (hasZ z0 z1 l0 l1 l2 h0 h1 h2 c0 c1 c2) := by
 unfold zone_Has.f hasZ zone_some.f
 rw [order_is _ _ _ _ _ _ k hk, order_is _ _ _ _ _ _ k hk]
 simp only [Option.bind_some]
 cases c0
 ·simp only [Bool.false_eq_true, if_false]
  by_cases g1 : z1 < z0
  ·simp only [gt_iff_lt, g1, decide_true, if_true, Bool.true_and]
   by_cases g2 : ordC false c1 c2 l0 l1 l2 ≥ 0
   ·rw [if_pos g2]; simp [g2]
   ·rw [if_neg g2]; have : ¬ 0 ≤ ordC false c1 c2 l0 l1 l2 := g2; simp [this]
  ·simp [g1]
 ·simp
end Go.Proofs.Ytkdlfejokahohaa.CellPlain
/- Cells' order, plain law: the document's is the code's. -/
namespace Go.Proofs.Ytkdlfejokahohaa.CellPlain
open Go Go.RowKit Go.Proofs.Ytkdlfejokahohaa.X Go.Proofs.Ytkdlfejokahohaa.Dec Go.Proofs.YtkdlfejokahohaaW.PrintWords Go.Proofs.YtkdlfejokahohaaW.PrintLast Go.Proofs.YtkdlfejokahohaaW.PrintMore
set_option linter.unusedVariables false
set_option linter.unusedSimpArgs false
theorem rorder_is (a0 : Bool) (a1 : Int) (a2 : ByteArray) (b0 : Bool) (b1 : Int) (b2 : ByteArray) (k : Nat) : firkinref09_Order.f (k + 1) a0 a1 a2 b0 b1 b2 = some (ordC a0 a1 a2 b0 b1 b2) := by
 unfold firkinref09_Order.f ordC
 by_cases h0 : a0 = b0
 ·subst h0
  simp only [bne_self_eq_false, Bool.false_eq_true, if_false, ne_eq, not_true_eq_false]
  unfold ordI ordT
  by_cases h1 : a1 < b1
  ·rw [if_pos h1, firkinref09_Order.j0, if_pos rfl]; simp [h1]
  ·rw [if_neg h1]
   by_cases h2 : a1 = b1
   ·subst h2
    rw [if_pos rfl, firkinref09_Order.j0]
    simp only [Int.lt_irrefl, if_false, ne_eq, not_true_eq_false]
    cases h3 : Op.bytesLess a2.toList b2.toList <;> simp
    cases h4 : Op.bytesLess b2.toList a2.toList <;> simp
   ·rw [if_neg h2, firkinref09_Order.j0, if_neg (by decide), if_pos (by omega)]
    have : b1 < a1 := by omega
    simp [h1, this]
 ·rw [if_pos (by simpa using h0), if_pos h0]
  cases a0 <;> rfl
end Go.Proofs.Ytkdlfejokahohaa.CellPlain
/- Zones, plain law: the document's answers. -/
namespace Go.Proofs.Ytkdlfejokahohaa.CellPlain
open Go Go.RowKit Go.Proofs.Ytkdlfejokahohaa.X Go.Proofs.Ytkdlfejokahohaa.Dec Go.Proofs.YtkdlfejokahohaaW.PrintWords Go.Proofs.YtkdlfejokahohaaW.PrintLast Go.Proofs.YtkdlfejokahohaaW.PrintMore
set_option linter.unusedVariables false
set_option linter.unusedSimpArgs false
theorem rzmay_is (ty z0 z1 : Int) (l0 : Bool) (l1 : Int) (l2 : ByteArray) (h0 : Bool) (h1 : Int) (h2 : ByteArray) (k : Nat) : firkinref11_May.f (k + 2) ty z0 z1 l0 l1 l2 h0 h1 h2 = some (mayZ ty z0 z1 l0 l1 l2 h0 h1 h2) := by
 have e0 : ∀ b, firkinref11_May.j0 (k + 2) ty b z0 z1 l0 l1 l2 h0 h1 h2 = some (if b = true then false else if z0 = z1 then noC l0 l1 l2 && noC h0 h1 h2 else mayC ty false l0 l1 l2 && mayC ty false h0 h1 h2 && decide (ordC l0 l1 l2 h0 h1 h2 ≤ 0)) := by
  intro b
  rw [firkinref11_May.j0]
  cases b
  ·simp only [Bool.false_eq_true, if_false, rmay_is, rorder_is, Option.bind_some]
   by_cases g : z0 = z1
   ·rw [if_pos g.symm, if_pos g]
    unfold noC
    cases (!l0 && (l1 == 0 && (l2.toList == ([] : List UInt8)))) <;> simp
   ·rw [if_neg (fun h => g h.symm), if_neg g]
    cases mayC ty false l0 l1 l2 <;> cases mayC ty false h0 h1 h2 <;> simp
  ·simp
 unfold firkinref11_May.f mayZ
 simp only [e0]
 by_cases g1 : ty < 1
 ·simp [g1]
 by_cases g2 : 3 < ty
 ·simp [g1, g2]
 by_cases g3 : z0 < 0
 ·simp [g1, g2, g3]
 by_cases g4 : 4096 < z0
 ·simp [g1, g2, g3, g4]
 by_cases g5 : z1 < 0
 ·simp [g1, g2, g3, g4, g5]
 by_cases g6 : z0 < z1
 ·simp [g1, g2, g3, g4, g5, g6]
 simp [g1, g2, g3, g4, g5, g6]
theorem rzhas_is (z0 z1 : Int) (l0 : Bool) (l1 : Int) (l2 : ByteArray) (h0 : Bool) (h1 : Int) (h2 : ByteArray) (c0 : Bool) (c1 : Int) (c2 : ByteArray) (k : Nat) : firkinref11_Has.f (k + 1) z0 z1 l0 l1 l2 h0 h1 h2 c0 c1 c2 = some (hasZ z0 z1 l0 l1 l2 h0 h1 h2 c0 c1 c2) := by
 unfold firkinref11_Has.f hasZ
 rw [rorder_is, rorder_is]
 simp only [Option.bind_some]
 cases c0
 ·simp only [Bool.false_eq_true, if_false]
  by_cases g1 : z1 < z0
  ·simp only [gt_iff_lt, g1, decide_true, if_true, Bool.true_and]
   by_cases g2 : ordC false c1 c2 l0 l1 l2 ≥ 0
   ·rw [if_pos g2]; simp [g2]
   ·rw [if_neg g2]; have : ¬ 0 ≤ ordC false c1 c2 l0 l1 l2 := g2; simp [this]
  ·simp [g1]
 ·simp
end Go.Proofs.Ytkdlfejokahohaa.CellPlain
/- A number's bytes, plain law: the code's and the document's are the same. -/
namespace Go.Proofs.Ytkdlfejokahohaa.Enc
open Go.RowKit Go.Proofs.Ytkdlfejokahohaa.X Go.Proofs.Ytkdlfejokahohaa.Dec Go.Proofs.YtkdlfejokahohaaW.PrintWords Go.Proofs.YtkdlfejokahohaaW.PrintLast Go.Proofs.YtkdlfejokahohaaW.PrintMore
set_option linter.unusedVariables false
theorem num_loop (n G : Nat) (hG : 1 ≤ G) (hG2 : G ≤ 10) (d : Nat) : ∀ (k i : Nat), i + d = G → d < k →
  vint_Num.l0 k (n : Int) (G : Int) (laid n G i) (G : Int) (i : Int) = some (encL n G) := by
 induction d with
 | zero =>
  intro k i hd hk
  obtain ⟨k, rfl⟩ : ∃ m, k = m + 1 := ⟨k - 1, by omega⟩
  obtain rfl : i = G := by omega
  rw [vint_Num.l0, if_neg (by omega), w64 (by omega) (by omega), if_pos (by omega), if_pos (by rw [laid_length]; omega)]
  rw [show ((i : Int) - 1) = ((i - 1 : Nat) : Int) by omega, rd_nat, Int.toNat_natCast]
  have hg : (laid n i i).getD (i - 1) 0 = ((n / 2 ^ (7 * (i - 1)) % 128 + 128 : Nat) : Int) := by
   simp only [laid, List.getD]
   rw [List.getElem?_map, List.getElem?_range (by omega)]
   simp; omega
  rw [hg, last_seven _ (Nat.mod_lt _ (by decide)), laid_end n i hG]
 | succ d ih =>
  intro k i hd hk
  obtain ⟨k, rfl⟩ : ∃ m, k = m + 1 := ⟨k - 1, by omega⟩
  rw [vint_Num.l0, if_pos (by omega), w64 (x := 7 * (i : Int)) (by omega) (by omega), if_pos (by omega), if_pos (by omega), if_pos (by rw [laid_length]; omega)]
  rw [show (7 * (i : Int)) = ((7 * i : Nat) : Int) by omega, shr_nat n i (by omega), seven, Int.toNat_natCast, laid_set n G i (by omega), w64 (by omega) (by omega), show ((i : Int) + 1) = ((i + 1 : Nat) : Int) by omega]
  exact ih k (i + 1) (by omega) (by omega)
theorem num_is (n : Nat) (h : n < 18446744073709551616) (k : Nat) (hk : 10 < k) : vint_Num.f k (n : Int) = some (enc n) := by
 have hl := len_le n h
 have hg := grp_le (n := n) h
 unfold vint_Num.f bits_Len64.f
 rw [if_pos ⟨by omega, by omega⟩, Option.bind_some, Int.toNat_natCast]
 have e : mx 1 (wrap64 (Int.tdiv (wrap64 ((wrap64 (((Lib.bitLen n : Nat) : Int) + 7)) - 1)) 7)) = ((grp n : Nat) : Int) := by
  rw [w64 (x := ((Lib.bitLen n : Nat) : Int) + 7) (by omega) (by omega), w64 (x := ((Lib.bitLen n : Nat) : Int) + 7 - 1) (by omega) (by omega), Int.tdiv_eq_ediv_of_nonneg (by omega), w64 (by omega) (by omega)]
  unfold mx grp
  split <;> omega
 rw [e]
 rw [if_pos (by omega), Int.toNat_natCast, if_pos (by omega), Option.bind_some, List.length_replicate, ← laid_zero n]
 have := num_loop n (grp n) (grp_has h).1 hg (grp n) k 0 (by omega) (by omega)
 exact this
theorem rnum_loop (n G : Nat) (hn : Has n G) (hlt : n < 18446744073709551616) (hG : G ≤ 10) (d : Nat) : ∀ (k i : Nat) (acc : List Int), i + d = G → 1 ≤ d → d < k → acc = (encL n G).take i →
  firkinref01_Num.l0 k ((n / 2 ^ (7 * i) : Nat) : Int) acc = some (encL n G) := by
 induction d with
 | zero => intro k i acc hd h1; omega
 | succ d ih =>
  intro k i acc hd _ hk hacc
  obtain ⟨k, rfl⟩ : ∃ m, k = m + 1 := ⟨k - 1, by omega⟩
  have hq : n / 2 ^ (7 * i) < 18446744073709551616 := Nat.lt_of_le_of_lt (Nat.div_le_self _ _) hlt
  have hlen : acc.length ≤ 10 := by rw [hacc, List.length_take, encL_length]; omega
  have hget : (encL n G)[i]? = some ((encByte n G i : Nat) : Int) := by
   rw [encL, List.getElem?_map, List.getElem?_range (by omega)]; rfl
  have hsnoc : (encL n G).take i ++ [((encByte n G i : Nat) : Int)] = (encL n G).take (i + 1) := by
   have hi : i < (encL n G).length := by rw [encL_length]; omega
   rw [List.take_succ_eq_append_getElem hi]
   congr 1
   rw [List.getElem?_eq_getElem hi] at hget
   rw [Option.some.inj hget]
  have hpow : 2 ^ (7 * (i + 1)) = 2 ^ (7 * i) * 128 := by rw [show 7 * (i + 1) = 7 * i + 7 by omega, Nat.pow_add]
  rw [firkinref01_Num.l0]
  by_cases hd0 : d = 0
  ·have hi : i + 1 = G := by omega
   have hsm : n / 2 ^ (7 * i) < 128 := by
    have := hn.2.1
    rw [← hi, hpow] at this
    exact Nat.div_lt_of_lt_mul this
   rw [if_neg (by omega), if_pos (by omega), hacc]
   have he : encByte n G i = n / 2 ^ (7 * i) := by unfold encByte; rw [if_neg (by omega), Nat.mod_eq_of_lt hsm, Nat.add_zero]
   rw [show (((n / 2 ^ (7 * i) : Nat) : Int) % 256) = ((n / 2 ^ (7 * i) : Nat) : Int) by omega, ← he, hsnoc, List.take_of_length_le (by rw [encL_length]; omega)]
  ·have hbig : 128 ≤ n / 2 ^ (7 * i) := by
    have h1 := hn.2.2 (by omega)
    have h2 : 2 ^ (7 * (i + 1)) ≤ 2 ^ (7 * (G - 1)) := Nat.pow_le_pow_right (by decide) (by omega)
    rw [hpow] at h2
    rw [Nat.le_div_iff_mul_le (Nat.two_pow_pos _), Nat.mul_comm]
    omega
   have he : encByte n G i = n / 2 ^ (7 * i) % 128 + 128 := by unfold encByte; rw [if_pos (by omega)]
   have hdd : n / 2 ^ (7 * i) / 128 = n / 2 ^ (7 * (i + 1)) := by rw [Nat.div_div_eq_div_mul, hpow]
   rw [if_pos (by omega), if_pos (by omega), Int.tdiv_eq_ediv_of_nonneg (by omega), Int.tmod_eq_emod_of_nonneg (by omega)]
   rw [IntKind.wrap_u64, IntKind.wrap_u64]
   rw [show ((((n / 2 ^ (7 * i) : Nat) : Int) / 128) % 18446744073709551616) = ((n / 2 ^ (7 * i) / 128 : Nat) : Int) by omega, hdd]
   rw [show (((((n / 2 ^ (7 * i) : Nat) : Int) % 128 + 128) % 18446744073709551616) % 256) = ((n / 2 ^ (7 * i) % 128 + 128 : Nat) : Int) by omega, ← he]
   exact ih k (i + 1) _ (by omega) (by omega) (by omega) (by rw [hacc, hsnoc])
theorem rnum_is (n : Nat) (h : n < 18446744073709551616) (k : Nat) (hk : 11 < k) : firkinref01_Num.f k (n : Int) = some (enc n) := by
 unfold firkinref01_Num.f
 have hg := grp_le (n := n) h
 have := rnum_loop n (grp n) (grp_has h) h hg (grp n) k 0 [] (by omega) (grp_has h).1 (by omega) (by simp)
 rw [Nat.mul_zero, Nat.pow_zero, Nat.div_one] at this
 exact this
end Go.Proofs.Ytkdlfejokahohaa.Enc
/- A text's bytes, plain law: the code's and the document's are the same. -/
namespace Go.Proofs.Ytkdlfejokahohaa.EncText
open Go Go.RowKit Go.Proofs.Ytkdlfejokahohaa.X Go.Proofs.Ytkdlfejokahohaa.Dec Go.Proofs.Ytkdlfejokahohaa.Enc Go.Proofs.YtkdlfejokahohaaW.PrintWords Go.Proofs.YtkdlfejokahohaaW.PrintLast Go.Proofs.YtkdlfejokahohaaW.PrintMore
set_option linter.unusedVariables false
/-- A text's bytes, behind how many there are. -/
def encT (s : ByteArray) : List Int := enc s.size ++ bytesOf s
theorem bytesOf_bytes (s : ByteArray) : IsBytes (bytesOf s) := by
 intro x hx
 obtain ⟨y, _, rfl⟩ := List.mem_map.1 hx
 have := y.toNat_lt
 omega
theorem encT_bytes (s : ByteArray) : IsBytes (encT s) := by
 intro x hx
 rcases List.mem_append.1 hx with h | h
 ·exact enc_bytes _ x h
 ·exact bytesOf_bytes _ x h
theorem enc_len (n : Nat) (h : n < 18446744073709551616) : (enc n).length ≤ 10 := by
 unfold enc; rw [encL_length]; exact grp_le h
theorem encT_len (s : ByteArray) (h : s.size < 1000000000000) : (encT s).length ≤ s.size + 10 := by
 unfold encT; rw [List.length_append, bytesOf_length]; have := enc_len s.size (by omega); omega
theorem text_is (s : ByteArray) (h : s.size < 1000000000000) (k : Nat) (hk : 11 < k) : vint_Text.f k s = some (encT s) := by
 have hl := encT_len s h
 unfold vint_Text.f
 rw [num_is s.size (by omega) k (by omega), Option.bind_some, if_pos (by omega)]
 unfold vint_joined.f bytes_Join.f
 unfold encT at hl
 rw [if_pos ⟨rfl, by simp, by simpa using by rw [List.length_append] at hl; omega⟩]
 simp [encT]
theorem wrap_size (s : ByteArray) (h : s.size < 1000000000000) : IntKind.u64.wrap (s.size : Int) = (s.size : Int) := by rw [IntKind.wrap_u64]; omega
theorem rtext_is (s : ByteArray) (h : s.size < 1000000000000) (k : Nat) (hk : 11 < k) : firkinref01_Text.f k s = some (encT s) := by
 have hl := encT_len s h
 unfold encT at hl
 rw [List.length_append, bytesOf_length] at hl
 unfold firkinref01_Text.f
 rw [wrap_size s h, rnum_is s.size (by omega) k hk, Option.bind_some, if_pos (by omega)]
 rfl
theorem same_self (l : List Int) : firkinref01_Same.f l l = some true := by unfold firkinref01_Same.f; simp
end Go.Proofs.Ytkdlfejokahohaa.EncText
/- The order of cells is one: plain law. -/
namespace Go.Proofs.Ytkdlfejokahohaa.CellPlain
open Go Go.RowKit Go.Proofs.Ytkdlfejokahohaa.X Go.Proofs.Ytkdlfejokahohaa.Strs
set_option linter.unusedVariables false
set_option linter.unusedSimpArgs false
theorem less_trans : ∀ x y z : List UInt8, Op.bytesLess x y = true → Op.bytesLess y z = true → Op.bytesLess x z = true
 | [], [], z => fun h => by simp [Op.bytesLess] at h
 | [], _ :: _, [] => fun _ h => by simp [Op.bytesLess] at h
 | [], _ :: _, _ :: _ => fun _ _ => rfl
 | _ :: _, [], _ => fun h => by simp [Op.bytesLess] at h
 | _ :: _, _ :: _, [] => fun _ h => by simp [Op.bytesLess] at h
 | a :: x, b :: y, c :: z => fun h1 h2 => by
  simp only [Op.bytesLess, Bool.or_eq_true, Bool.and_eq_true, decide_eq_true_eq, beq_iff_eq, UInt8.lt_iff_toNat_lt, ← UInt8.toNat_inj] at h1 h2 ⊢
  rcases h1 with h1 | ⟨h1, h1'⟩ <;> rcases h2 with h2 | ⟨h2, h2'⟩
  ·exact .inl (by omega)
  ·exact .inl (by omega)
  ·exact .inl (by omega)
  ·exact .inr ⟨by omega, less_trans x y z h1' h2'⟩
theorem less_asymm {x y : List UInt8} (h : Op.bytesLess x y = true) : Op.bytesLess y x = false := by rw [← less_swap x y, h]; rfl
theorem ordT_swap (a b : List UInt8) : ordT b a = -ordT a b := by
 unfold ordT
 cases h1 : Op.bytesLess a b
 ·cases h2 : Op.bytesLess b a <;> simp
 ·rw [less_asymm h1]; simp
theorem ordT_le {a b : List UInt8} : ordT a b ≤ 0 ↔ Op.bytesLess b a = false := by
 unfold ordT
 cases h1 : Op.bytesLess a b
 ·cases h2 : Op.bytesLess b a <;> simp
 ·rw [less_asymm h1]; simp
theorem ordT_zero {a b : List UInt8} : ordT a b = 0 ↔ a = b := by
 unfold ordT
 cases h1 : Op.bytesLess a b
 ·have := less_swap a b
  rw [h1, Bool.false_or] at this
  by_cases e : a = b
  ·subst e; simp [bytesLess_irrefl]
  ·have e2 : (a == b) = false := beq_eq_false_iff_ne.mpr e
   rw [e2] at this
   rw [← this]; simp [e]
 ·have : a ≠ b := by rintro rfl; rw [bytesLess_irrefl] at h1; cases h1
  simp [this]
theorem ordT_trans {a b c : List UInt8} (h1 : ordT a b ≤ 0) (h2 : ordT b c ≤ 0) : ordT a c ≤ 0 := by
 by_cases e1 : ordT a b = 0
 ·rw [ordT_zero.mp e1]; exact h2
 by_cases e2 : ordT b c = 0
 ·rw [← ordT_zero.mp e2]; exact h1
 have l1 : Op.bytesLess a b = true := by
  unfold ordT at h1 e1; cases h : Op.bytesLess a b
  ·simp only [h, Bool.false_eq_true, if_false] at h1 e1; split at h1 <;> simp_all
  ·rfl
 have l2 : Op.bytesLess b c = true := by
  unfold ordT at h2 e2; cases h : Op.bytesLess b c
  ·simp only [h, Bool.false_eq_true, if_false] at h2 e2; split at h2 <;> simp_all
  ·rfl
 rw [ordT_le]
 exact less_asymm (less_trans _ _ _ l1 l2)
theorem ordT_range (a b : List UInt8) : -1 ≤ ordT a b ∧ ordT a b ≤ 1 := by unfold ordT; split <;> (try split) <;> omega
theorem ordI_swap (a b : Int) : ordI b a = -ordI a b := by unfold ordI; split <;> split <;> (try split) <;> omega
theorem ordC_swap (a0 : Bool) (a1 : Int) (a2 : ByteArray) (b0 : Bool) (b1 : Int) (b2 : ByteArray) : ordC b0 b1 b2 a0 a1 a2 = -ordC a0 a1 a2 b0 b1 b2 := by
 unfold ordC
 rw [ordI_swap a1 b1, ordT_swap a2.toList b2.toList]
 by_cases h : a0 = b0
 ·subst h
  simp only [ne_eq, not_true_eq_false, if_false]
  by_cases h2 : ordI a1 b1 = 0
  ·rw [if_neg (by omega), if_neg (by omega)]
  ·rw [if_pos (by omega), if_pos (by omega)]
 ·have h' : ¬ b0 = a0 := fun e => h e.symm
  rw [if_pos h, if_pos h']
  cases a0 <;> cases b0 <;> simp_all
theorem ordC_range (a0 : Bool) (a1 : Int) (a2 : ByteArray) (b0 : Bool) (b1 : Int) (b2 : ByteArray) : -1 ≤ ordC a0 a1 a2 b0 b1 b2 ∧ ordC a0 a1 a2 b0 b1 b2 ≤ 1 := by
 have := ordT_range a2.toList b2.toList
 unfold ordC ordI
 repeat' split
 all_goals omega
theorem ordC_trans {a0 : Bool} {a1 : Int} {a2 : ByteArray} {b0 : Bool} {b1 : Int} {b2 : ByteArray} {c0 : Bool} {c1 : Int} {c2 : ByteArray} (h1 : ordC a0 a1 a2 b0 b1 b2 ≤ 0) (h2 : ordC b0 b1 b2 c0 c1 c2 ≤ 0) : ordC a0 a1 a2 c0 c1 c2 ≤ 0 := by
 have ht := @ordT_trans a2.toList b2.toList c2.toList
 unfold ordC ordI at *
 cases a0 <;> cases b0 <;> cases c0 <;> simp at h1 h2 ⊢
 all_goals
  generalize ordT a2.toList b2.toList = x at *
  generalize ordT b2.toList c2.toList = y at *
  generalize ordT a2.toList c2.toList = z at *
  repeat' split
  all_goals (try omega)
  all_goals (split at h1 <;> split at h2 <;> (try split at h1) <;> (try split at h2) <;> (try omega))
  all_goals (first | (exact ht (by omega) (by omega)) | skip)
theorem toList_inj {a b : ByteArray} : a.toList = b.toList ↔ a = b := by
 constructor
 ·intro h
  rw [ByteArray.toList_eq, ByteArray.toList_eq] at h
  cases a; cases b
  simp only [ByteArray.mk.injEq]
  exact Array.toList_inj.mp h
 ·rintro rfl; rfl
end Go.Proofs.Ytkdlfejokahohaa.CellPlain
/- A signed number's bytes, plain law: the code's and the document's are the same. -/
namespace Go.Proofs.Ytkdlfejokahohaa.Enc
open Go.RowKit Go.Proofs.Ytkdlfejokahohaa.X Go.Proofs.Ytkdlfejokahohaa.Dec Go.Proofs.YtkdlfejokahohaaW.PrintWords Go.Proofs.YtkdlfejokahohaaW.PrintLast Go.Proofs.YtkdlfejokahohaaW.PrintMore
set_option linter.unusedVariables false
theorem int_is (n : Int) (h0 : -9223372036854775808 ≤ n) (h1 : n < 9223372036854775808) (k : Nat) (hk : 10 < k) : vint_Int.f k n = some (enc (zig n)) := by
 unfold vint_Int.f
 have hz := zig_lt h0 h1
 have e : Go.bits .xor .u64 (IntKind.u64.wrap ((IntKind.u64.wrap n) * 2)) (IntKind.u64.wrap (n / 9223372036854775808)) = ((zig n : Nat) : Int) := by
  rw [IntKind.wrap_u64, IntKind.wrap_u64, IntKind.wrap_u64]
  by_cases hn : n < 0
  ·have e1 : n / 9223372036854775808 = -1 := by omega
   rw [e1, show ((-1 : Int) % 18446744073709551616) = 18446744073709551615 by decide, u64_xor _ _ (by omega) (by omega) (by omega) (by omega), show (18446744073709551615 : Int).toNat = 18446744073709551615 by decide, xor_all _ (by omega)]
   unfold zig
   rw [if_pos hn]
   omega
  ·have e1 : n / 9223372036854775808 = 0 := by omega
   rw [e1, show ((0 : Int) % 18446744073709551616) = 0 by decide, u64_xor _ _ (by omega) (by omega) (by omega) (by omega), show (0 : Int).toNat = 0 from rfl, Nat.xor_zero]
   unfold zig
   rw [if_neg hn]
   omega
 rw [e, num_is _ hz k hk]; rfl
theorem rint_is (n : Int) (h0 : -9223372036854775808 ≤ n) (h1 : n < 9223372036854775808) (k : Nat) (hk : 11 < k) : firkinref01_Int.f k n = some (enc (zig n)) := by
 unfold firkinref01_Int.f
 have hz := zig_lt h0 h1
 simp only [IntKind.wrap_u64]
 by_cases hn : n < 0
 ·rw [if_pos hn]
  have e : ((2 * ((-(n % 18446744073709551616)) % 18446744073709551616)) % 18446744073709551616 - 1) % 18446744073709551616 = ((zig n : Nat) : Int) := by
   unfold zig; rw [if_pos hn]; omega
  rw [e, rnum_is _ hz k hk]; rfl
 ·rw [if_neg hn]
  have e : (2 * (n % 18446744073709551616)) % 18446744073709551616 = ((zig n : Nat) : Int) := by
   unfold zig; rw [if_neg hn]; omega
  rw [e, rnum_is _ hz k hk]; rfl
end Go.Proofs.Ytkdlfejokahohaa.Enc
/- What is read of a source, plain law: numbers, numbers below another one: the code's source and the document's read the same. -/
namespace Go.Proofs.Ytkdlfejokahohaa.Read
open Go Go.RowKit Go.Proofs.Ytkdlfejokahohaa.X Go.Proofs.Ytkdlfejokahohaa.Dec Go.Proofs.Ytkdlfejokahohaa.Enc Go.Proofs.Ytkdlfejokahohaa.Round Go.Proofs.YtkdlfejokahohaaW.PrintWords Go.Proofs.YtkdlfejokahohaaW.PrintLast Go.Proofs.YtkdlfejokahohaaW.PrintMore
set_option linter.unusedVariables false
/-- A source as it can be: of one that failed nothing is left. -/
def GoodS (l : List Int) (bad : Bool) : Prop := Fit l ∧ (bad = true → l = [])
theorem GoodS.nil (b : Bool) : GoodS [] b := ⟨Fit.nil, fun _ => rfl⟩
theorem GoodS.of {l : List Int} (h : Fit l) : GoodS l false := ⟨h, fun h => by cases h⟩
theorem GoodS.drop {l : List Int} {b : Bool} (h : GoodS l b) (k : Nat) : GoodS (l.drop k) b := ⟨h.1.drop k, fun e => by rw [h.2 e]; exact List.drop_nil⟩
def gNum (l : List Int) (bad : Bool) : Int × List Int × Bool :=
 if bad = true ∨ szS 0 l = 0 then (0, [], true) else (((valS 0 (l.take (szS 0 l)) : Nat) : Int), l.drop (szS 0 l), false)
theorem gNum_good {l : List Int} {b : Bool} (h : GoodS l b) : GoodS (gNum l b).2.1 (gNum l b).2.2 := by
 unfold gNum; split
 ·exact GoodS.nil _
 ·exact GoodS.of (h.1.drop _)
theorem gNum_len (l : List Int) (b : Bool) : (gNum l b).2.1.length ≤ l.length := by
 unfold gNum; split <;> simp
theorem gNum_range {l : List Int} {b : Bool} (h : GoodS l b) : 0 ≤ (gNum l b).1 ∧ (gNum l b).1 < 18446744073709551616 := by
 unfold gNum; split
 ·simp
 ·have := val_lt h.1.1 (Nat.le_refl (szS 0 l))
  show 0 ≤ ((_ : Nat) : Int) ∧ ((_ : Nat) : Int) < _
  omega
theorem num_g {l : List Int} {b : Bool} (h : GoodS l b) : vint_Source_Num.f l b = some (gNum l b) := by
 unfold vint_Source_Num.f numS gNum
 rw [if_pos h.1]
 cases b with
 | true => rw [if_pos rfl, if_pos (.inl rfl), h.2 rfl]
 | false =>
  rw [if_neg (by decide)]
  by_cases hz : szS 0 l = 0
  ·rw [if_pos hz, if_pos (.inr hz)]
  ·rw [if_neg hz, if_neg (by simp [hz])]
theorem rnum_g {l : List Int} {b : Bool} (h : GoodS l b) : firkinref01_S_Num.f l b = some (gNum l b) := by
 unfold firkinref01_S_Num.f rnumS gNum
 rw [if_pos h.1]
 cases b with
 | true => obtain rfl := h.2 rfl; rfl
 | false =>
  by_cases hz : szS 0 l = 0
  ·rw [if_pos hz, if_pos (.inr hz)]
  ·rw [if_neg hz, if_neg (by simp [hz])]
def gBelow (l : List Int) (bad : Bool) (n : Int) : Int × List Int × Bool :=
 if (gNum l bad).2.2 = true ∨ n ≤ 0 ∨ n ≤ (gNum l bad).1 then (0, [], true) else gNum l bad
theorem gBelow_good {l : List Int} {b : Bool} (h : GoodS l b) (n : Int) : GoodS (gBelow l b n).2.1 (gBelow l b n).2.2 := by
 unfold gBelow; split
 ·exact GoodS.nil _
 ·exact gNum_good h
theorem gBelow_len (l : List Int) (b : Bool) (n : Int) : (gBelow l b n).2.1.length ≤ l.length := by
 unfold gBelow; split
 ·simp
 ·exact gNum_len l b
theorem gBelow_range {l : List Int} {b : Bool} (h : GoodS l b) (n : Int) : 0 ≤ (gBelow l b n).1 ∧ ((gBelow l b n).1 < n ∨ (gBelow l b n).1 = 0) := by
 unfold gBelow; split
 ·simp
 ·have := gNum_range h; omega
theorem wrap_u64_of {n : Int} (h0 : 0 ≤ n) (h1 : n < 18446744073709551616) : IntKind.u64.wrap n = n := by rw [IntKind.wrap_u64]; omega
theorem below_g {l : List Int} {b : Bool} (h : GoodS l b) (n : Int) (hn : n < 9223372036854775808) : vint_Source_Below.f l b n = some (gBelow l b n) := by
 unfold vint_Source_Below.f vint_Source_Ok.f vint_Source_Fail.f
 rw [num_g h, Option.bind_some]
 obtain ⟨h0, h1⟩ := gNum_range h
 unfold gBelow
 generalize gNum l b = g at h0 h1 ⊢
 obtain ⟨x, l', b'⟩ := g
 simp only [Option.bind_some] at h0 h1 ⊢
 cases b' with
 | true => simp
 | false =>
  by_cases hn0 : n > 0
  ·rw [wrap_u64_of (by omega) (by omega)]
   by_cases hx : x < n
   ·have hw : wrap64 x = x := w64 (by omega) (by omega)
    have : ¬ n ≤ 0 := by omega
    simp [hn0, hx, hw, this]
   ·have : n ≤ x := by omega
    simp [hn0, hx, this]
  ·have : n ≤ 0 := by omega
   simp [hn0, this]
theorem rbelow_g {l : List Int} {b : Bool} (h : GoodS l b) (n : Int) (hn : n < 9223372036854775808) : firkinref01_S_Below.f l b n = some (gBelow l b n) := by
 unfold firkinref01_S_Below.f firkinref01_S_Fail.f
 rw [rnum_g h, Option.bind_some]
 obtain ⟨h0, h1⟩ := gNum_range h
 unfold gBelow
 generalize gNum l b = g at h0 h1 ⊢
 obtain ⟨x, l', b'⟩ := g
 simp only [Option.bind_some] at h0 h1 ⊢
 cases b' with
 | true => simp
 | false =>
  by_cases hn0 : n < 1
  ·have : n ≤ 0 := by omega
   simp [hn0, this]
  ·have hn2 : ¬ n ≤ 0 := by omega
   rw [wrap_u64_of (by omega) (by omega)]
   by_cases hx : x ≥ n
   ·have : n ≤ x := by omega
    simp [hn0, hn2, this]
   ·have hw : wrap64 x = x := w64 (by omega) (by omega)
    have : ¬ n ≤ x := by omega
    simp [hn0, hn2, hw, this]
end Go.Proofs.Ytkdlfejokahohaa.Read
/- What is read of a source, plain law: bytes; the code's source and the document's read the same. -/
namespace Go.Proofs.Ytkdlfejokahohaa.Read
open Go Go.RowKit Go.Proofs.Ytkdlfejokahohaa.X Go.Proofs.Ytkdlfejokahohaa.Dec Go.Proofs.Ytkdlfejokahohaa.Enc Go.Proofs.Ytkdlfejokahohaa.Round Go.Proofs.YtkdlfejokahohaaW.PrintWords Go.Proofs.YtkdlfejokahohaaW.PrintLast Go.Proofs.YtkdlfejokahohaaW.PrintMore
set_option linter.unusedVariables false
def gTake (l : List Int) (bad : Bool) (n : Int) : List Int × List Int × Bool :=
 if bad = true ∨ n < 0 ∨ (l.length : Int) < n then ([], [], true) else (l.take n.toNat, l.drop n.toNat, false)
theorem gTake_good {l : List Int} {b : Bool} (h : GoodS l b) (n : Int) : GoodS (gTake l b n).2.1 (gTake l b n).2.2 := by
 unfold gTake; split
 ·exact GoodS.nil _
 ·exact GoodS.of (h.1.drop _)
theorem gTake_len (l : List Int) (b : Bool) (n : Int) : (gTake l b n).2.1.length ≤ l.length := by unfold gTake; split <;> simp
theorem gTake_bytes {l : List Int} {b : Bool} (h : GoodS l b) (n : Int) : IsBytes (gTake l b n).1 := by
 unfold gTake; split
 ·intro x hx; simp at hx
 ·exact h.1.1.take _
theorem take_g {l : List Int} {b : Bool} (h : GoodS l b) (n : Int) : vint_Source_Take.f l b n = some (gTake l b n) := by
 unfold vint_Source_Take.f; rw [if_pos h.1.2]; rfl
theorem rtake_g {l : List Int} {b : Bool} (h : GoodS l b) (n : Int) : firkinref01_S_Take.f l b n = some (gTake l b n) := by
 unfold firkinref01_S_Take.f; rw [if_pos h.1.2]; rfl
end Go.Proofs.Ytkdlfejokahohaa.Read
/- Texts that are read, plain law. -/
namespace Go.Proofs.Ytkdlfejokahohaa.Read
open Go Go.RowKit Go.Proofs.Ytkdlfejokahohaa.X Go.Proofs.Ytkdlfejokahohaa.Dec Go.Proofs.Ytkdlfejokahohaa.Enc Go.Proofs.Ytkdlfejokahohaa.Round Go.Proofs.YtkdlfejokahohaaW.PrintWords Go.Proofs.YtkdlfejokahohaaW.PrintLast Go.Proofs.YtkdlfejokahohaaW.PrintMore
set_option linter.unusedVariables false
def gText (l : List Int) (bad : Bool) (most : Int) : ByteArray × List Int × Bool :=
 if (gNum l bad).2.2 = true ∨ most < 0 ∨ most < (gNum l bad).1 ∨ ((gNum l bad).2.1.length : Int) < (gNum l bad).1 then (⟨#[]⟩, [], true)
 else (strOfNums ((gNum l bad).2.1.take (gNum l bad).1.toNat), (gNum l bad).2.1.drop (gNum l bad).1.toNat, false)
theorem gText_good {l : List Int} {b : Bool} (h : GoodS l b) (n : Int) : GoodS (gText l b n).2.1 (gText l b n).2.2 := by
 unfold gText; split
 ·exact GoodS.nil _
 ·exact GoodS.of ((gNum_good h).1.drop _)
theorem gText_len (l : List Int) (b : Bool) (n : Int) : (gText l b n).2.1.length ≤ l.length := by
 have := gNum_len l b
 unfold gText; split
 ·simp
 ·simp; omega
theorem len_u64 {l : List Int} (h : Fit l) : IntKind.u64.wrap ((l.length : Int)) = (l.length : Int) := wrap_u64_of (by omega) (by have := h.2; omega)
theorem text_g {l : List Int} {b : Bool} (h : GoodS l b) (n : Int) (hn : n < 9223372036854775808) (k : Nat) : vint_Source_Text.f (k + 1) l b n = some (gText l b n) := by
 unfold vint_Source_Text.f vint_Source_Ok.f
 rw [num_g h, Option.bind_some]
 obtain ⟨h0, h1⟩ := gNum_range h
 have hg := gNum_good h
 unfold gText
 generalize gNum l b = g at h0 h1 hg ⊢
 obtain ⟨x, l', b'⟩ := g
 simp only [Option.bind_some] at h0 h1 hg ⊢
 have hj : ∀ y, vint_Source_Text.j0 (k + 1) x true y b' = some (⟨#[]⟩, [], true) := fun y => by rw [vint_Source_Text.j0, if_pos rfl]; rfl
 rw [hj]
 cases b' with
 | true => simp
 | false =>
  have hlen := hg.1.2
  by_cases hn0 : n < 0
  ·simp [hn0]
  ·rw [wrap_u64_of (by omega) (by omega), len_u64 hg.1]
   by_cases hx : x > n
   ·have : n < x := hx
    simp [hn0, this]
   ·have hx2 : ¬ n < x := hx
    by_cases hz : x > (l'.length : Int)
    ·have hz2 : ((l'.length : Int) < x) := hz
     simp [hn0, hx2, hz2, hj]
    ·have hz2 : ¬ ((l'.length : Int) < x) := hz
     have hw : wrap64 x = x := w64 (by omega) (by omega)
     rw [if_pos (by rfl), if_neg hn0, if_neg hx, decide_eq_false hz, vint_Source_Text.j0, if_neg (by decide), hw, take_g hg]
     unfold gTake
     have hx0 : ¬ x < 0 := by omega
     simp [hn0, hx2, hz2, hx0]
theorem rtext_g {l : List Int} {b : Bool} (h : GoodS l b) (n : Int) (hn : n < 9223372036854775808) (k : Nat) : firkinref01_S_Text.f (k + 1) l b n = some (gText l b n) := by
 unfold firkinref01_S_Text.f firkinref01_S_Fail.f
 obtain ⟨h0, h1⟩ := gNum_range h
 have hg := gNum_good h
 unfold gText
 rw [rnum_g h]
 generalize gNum l b = g at h0 h1 hg ⊢
 obtain ⟨x, l', b'⟩ := g
 simp only [Option.bind_some] at h0 h1 hg ⊢
 have hj : ∀ y, firkinref01_S_Text.j0 (k + 1) x true y b' = some (⟨#[]⟩, [], true) := fun y => by rw [firkinref01_S_Text.j0, if_pos rfl]; rfl
 rw [hj]
 by_cases hn0 : n < 0
 ·simp [hn0]
 rw [if_neg hn0]
 cases b' with
 | true => simp
 | false =>
  have hlen := hg.1.2
  rw [wrap_u64_of (by omega) (by omega), len_u64 hg.1]
  by_cases hx : x > n
  ·have : n < x := hx
   simp [hn0, this]
  ·have hx2 : ¬ n < x := hx
   by_cases hz : x > (l'.length : Int)
   ·have hz2 : ((l'.length : Int) < x) := hz
    simp [hn0, hx2, hz2, hj]
   ·have hz2 : ¬ ((l'.length : Int) < x) := hz
    have hw : wrap64 x = x := w64 (by omega) (by omega)
    rw [if_neg (by decide), if_neg hx, decide_eq_false hz, firkinref01_S_Text.j0, if_neg (by decide), hw, rtake_g hg]
    unfold gTake
    have hx0 : ¬ x < 0 := by omega
    simp [hn0, hx2, hz2, hx0]
end Go.Proofs.Ytkdlfejokahohaa.Read
/- Signed numbers that are read, plain law. -/
namespace Go.Proofs.Ytkdlfejokahohaa.Read
open Go Go.RowKit Go.Proofs.Ytkdlfejokahohaa.X Go.Proofs.Ytkdlfejokahohaa.Dec Go.Proofs.Ytkdlfejokahohaa.Enc Go.Proofs.Ytkdlfejokahohaa.Round Go.Proofs.YtkdlfejokahohaaW.PrintWords Go.Proofs.YtkdlfejokahohaaW.PrintLast Go.Proofs.YtkdlfejokahohaaW.PrintMore
set_option linter.unusedVariables false
def gInt (l : List Int) (bad : Bool) : Int × List Int × Bool := (zag (gNum l bad).1.toNat, (gNum l bad).2.1, (gNum l bad).2.2)
theorem int_g {l : List Int} {b : Bool} (h : GoodS l b) : vint_Source_Int.f l b = some (gInt l b) := by
 unfold vint_Source_Int.f
 rw [num_g h, Option.bind_some]
 obtain ⟨h0, h1⟩ := gNum_range h
 have e := int_val (gNum l b).1.toNat (by omega)
 rw [Int.toNat_of_nonneg h0] at e
 rw [e]
 rfl
theorem rint_val (n : Int) (h0 : 0 ≤ n) (h1 : n < 18446744073709551616) :
  (if Int.tmod n 2 = 1 then wrap64 ((wrap64 (-(wrap64 (IntKind.u64.wrap (Int.tdiv n 2))))) - 1) else wrap64 (IntKind.u64.wrap (Int.tdiv n 2))) = zag n.toNat := by
 rw [Int.tmod_eq_emod_of_nonneg h0, Int.tdiv_eq_ediv_of_nonneg h0, IntKind.wrap_u64]
 unfold zag wrap64
 split <;> split <;> omega
theorem rint_g {l : List Int} {b : Bool} (h : GoodS l b) : firkinref01_S_Int.f l b = some (gInt l b) := by
 unfold firkinref01_S_Int.f
 rw [rnum_g h, Option.bind_some]
 obtain ⟨h0, h1⟩ := gNum_range h
 have e := rint_val _ h0 h1
 unfold gInt
 rw [← e]
 by_cases hc : Int.tmod (gNum l b).1 2 = 1
 ·rw [if_pos hc, if_pos hc]
 ·rw [if_neg hc, if_neg hc]
end Go.Proofs.Ytkdlfejokahohaa.Read
/- What was written is read again: numbers. -/
namespace Go.Proofs.Ytkdlfejokahohaa.Read
open Go Go.RowKit Go.Proofs.Ytkdlfejokahohaa.X Go.Proofs.Ytkdlfejokahohaa.Dec Go.Proofs.Ytkdlfejokahohaa.Enc Go.Proofs.Ytkdlfejokahohaa.Round Go.Proofs.YtkdlfejokahohaaW.PrintWords Go.Proofs.YtkdlfejokahohaaW.PrintLast Go.Proofs.YtkdlfejokahohaaW.PrintMore
set_option linter.unusedVariables false
theorem gNum_enc {n : Nat} (h : n < 18446744073709551616) (rest : List Int) : gNum (enc n ++ rest) false = ((n : Int), rest, false) := by
 have h1 := num_enc h rest
 unfold numS at h1
 rw [if_neg (by decide)] at h1
 unfold gNum
 by_cases hz : szS 0 (enc n ++ rest) = 0
 ·rw [if_pos hz] at h1; simp at h1
 ·rw [if_neg hz] at h1
  rw [if_neg (by simp [hz])]
  exact h1
theorem gBelow_enc {n : Nat} {m : Int} (h : (n : Int) < m) (hm : m < 9223372036854775808) (rest : List Int) : gBelow (enc n ++ rest) false m = ((n : Int), rest, false) := by
 unfold gBelow
 rw [gNum_enc (by omega)]
 rw [if_neg]
 simp only [not_or]
 exact ⟨by decide, by omega, by omega⟩
end Go.Proofs.Ytkdlfejokahohaa.Read
/- What was written is read again, plain law: signed numbers. -/
namespace Go.Proofs.Ytkdlfejokahohaa.Read
open Go Go.RowKit Go.Proofs.Ytkdlfejokahohaa.X Go.Proofs.Ytkdlfejokahohaa.Dec Go.Proofs.Ytkdlfejokahohaa.Enc Go.Proofs.Ytkdlfejokahohaa.Round Go.Proofs.YtkdlfejokahohaaW.PrintWords Go.Proofs.YtkdlfejokahohaaW.PrintLast Go.Proofs.YtkdlfejokahohaaW.PrintMore
set_option linter.unusedVariables false
theorem gInt_enc {n : Int} (h0 : -9223372036854775808 ≤ n) (h1 : n < 9223372036854775808) (rest : List Int) : gInt (enc (zig n) ++ rest) false = (n, rest, false) := by
 unfold gInt
 rw [gNum_enc (zig_lt h0 h1)]
 simp [zag_zig]
end Go.Proofs.Ytkdlfejokahohaa.Read
/- What was written is read again, plain law: texts. -/
namespace Go.Proofs.Ytkdlfejokahohaa.Read
open Go Go.RowKit Go.Proofs.Ytkdlfejokahohaa.X Go.Proofs.Ytkdlfejokahohaa.Dec Go.Proofs.Ytkdlfejokahohaa.Enc Go.Proofs.Ytkdlfejokahohaa.Round Go.Proofs.Ytkdlfejokahohaa.EncText Go.Proofs.YtkdlfejokahohaaW.PrintWords Go.Proofs.YtkdlfejokahohaaW.PrintLast Go.Proofs.YtkdlfejokahohaaW.PrintMore
set_option linter.unusedVariables false
theorem strOfNums_bytesOf (s : ByteArray) : strOfNums (bytesOf s) = s := by
 unfold strOfNums bytesOf
 rw [List.map_map]
 have : ((fun n : Int => UInt8.ofNat n.toNat) ∘ fun b : UInt8 => (b.toNat : Int)) = id := by funext b; simp
 rw [this, List.map_id]
theorem gText_enc {s : ByteArray} {m : Int} (h : (s.size : Int) ≤ m) (hm : m < 9223372036854775808) (rest : List Int) : gText (encT s ++ rest) false m = (s, rest, false) := by
 unfold gText encT
 rw [List.append_assoc, gNum_enc (by omega)]
 have hl : ((bytesOf s ++ rest).length : Int) = s.size + rest.length := by rw [List.length_append, bytesOf_length]; omega
 rw [if_neg]
 ·have e1 : ((s.size : Nat) : Int).toNat = (bytesOf s).length := by rw [bytesOf_length]; rfl
  simp only [e1, List.take_left, List.drop_left, strOfNums_bytesOf]
 ·simp only [not_or]
  exact ⟨by decide, by omega, by omega, by rw [hl]; omega⟩
end Go.Proofs.Ytkdlfejokahohaa.Read
/- Cells' bytes, plain law: what is put, what is taken; the code's and the document's are the same, and what is put is taken again. -/
namespace Go.Proofs.Ytkdlfejokahohaa.CellEnc
open Go.Proofs.Ytkdlfejokahohaa.EncText
open Go Go.RowKit Go.Proofs.Ytkdlfejokahohaa.X Go.Proofs.Ytkdlfejokahohaa.Dec Go.Proofs.Ytkdlfejokahohaa.Enc Go.Proofs.Ytkdlfejokahohaa.Read Go.Proofs.Ytkdlfejokahohaa.CellPlain Go.Proofs.YtkdlfejokahohaaW.PrintWords Go.Proofs.YtkdlfejokahohaaW.PrintLast Go.Proofs.YtkdlfejokahohaaW.PrintMore
set_option linter.unusedVariables false
set_option linter.unusedSimpArgs false
/-- A cell's bytes. -/
def encC (ty : Int) (c0 : Bool) (c1 : Int) (c2 : ByteArray) : List Int :=
 if c0 = true then [0] else if ty = 3 then 1 :: encT c2 else if ty = 1 ∨ ty = 2 then 1 :: enc (zig c1) else [1]
theorem encC_bytes (ty : Int) (c0 : Bool) (c1 : Int) (c2 : ByteArray) : IsBytes (encC ty c0 c1 c2) := by
 have h1 : ∀ l, IsBytes l → IsBytes (1 :: l) := fun l h x hx => by rcases List.mem_cons.1 hx with rfl | hx; omega; exact h x hx
 unfold encC
 split
 ·intro x hx; simp at hx; omega
 ·split
  ·exact h1 _ (encT_bytes _)
  ·split
   ·exact h1 _ (enc_bytes _)
   ·intro x hx; simp at hx; omega
theorem encC_len (ty : Int) (c0 : Bool) (c1 : Int) (c2 : ByteArray) (h0 : -9223372036854775808 ≤ c1) (h1 : c1 < 9223372036854775808) (hs : c2.size < 1000000) : (encC ty c0 c1 c2).length ≤ c2.size + 11 := by
 have a := encT_len c2 (by omega)
 have b := enc_len (zig c1) (zig_lt h0 h1)
 unfold encC
 repeat' split
 all_goals (simp; try omega)
theorem cput_is (ty : Int) (c0 : Bool) (c1 : Int) (c2 : ByteArray) (h0 : -9223372036854775808 ≤ c1) (h1 : c1 < 9223372036854775808) (hs : c2.size < 1000000) (k : Nat) (hk : 20 < k) : cell_Put.f k ty c0 c1 c2 = some (encC ty c0 c1 c2) := by
 have a := encT_len c2 (by omega)
 have b := enc_len (zig c1) (zig_lt h0 h1)
 unfold cell_Put.f cell_flag.f encC
 cases c0
 ·simp only [Bool.false_eq_true, if_false, Option.bind_some]
  by_cases t3 : ty = 3
  ·rw [if_pos t3, if_pos t3, text_is c2 (by omega) k (by omega), Option.bind_some, if_pos (by simp; omega)]; rfl
  rw [if_neg t3, if_neg t3]
  by_cases t1 : ty = 1
  ·rw [if_pos t1, if_pos (.inl t1), int_is c1 h0 h1 k (by omega), Option.bind_some, if_pos (by simp; omega)]; rfl
  rw [if_neg t1]
  by_cases t2 : ty = 2
  ·rw [if_pos t2, if_pos (.inr t2), int_is c1 h0 h1 k (by omega), Option.bind_some, if_pos (by simp; omega)]; rfl
  rw [if_neg t2, if_neg (by omega)]; rfl
 ·simp
theorem rcput_is (ty : Int) (c0 : Bool) (c1 : Int) (c2 : ByteArray) (h0 : -9223372036854775808 ≤ c1) (h1 : c1 < 9223372036854775808) (hs : c2.size < 1000000) (k : Nat) (hk : 20 < k) : firkinref09_Put.f k ty c0 c1 c2 = some (encC ty c0 c1 c2) := by
 obtain ⟨k, rfl⟩ : ∃ m, k = m + 1 := ⟨k - 1, by omega⟩
 have a := encT_len c2 (by omega)
 have b := enc_len (zig c1) (zig_lt h0 h1)
 have hj : ∀ x, (x = true ↔ ty = 1 ∨ ty = 2) → firkinref09_Put.j0 (k + 1) ty x false c1 c2 = some (if ty = 3 then 1 :: encT c2 else if ty = 1 ∨ ty = 2 then 1 :: enc (zig c1) else [1]) := by
  intro x hx
  rw [firkinref09_Put.j0]
  cases x with
  | true =>
   have ht := hx.mp rfl
   rw [if_pos rfl, Option.bind_some, rint_is c1 h0 h1 k (by omega), Option.bind_some, if_pos (by simp; omega), if_neg (by omega), if_pos ht]; rfl
  | false =>
   have ht : ¬ (ty = 1 ∨ ty = 2) := fun h => by have := hx.mpr h; cases this
   rw [if_neg (by decide)]
   by_cases t3 : ty = 3
   ·rw [if_pos t3, if_pos t3, Option.bind_some, rtext_is c2 (by omega) k (by omega), Option.bind_some, if_pos (by simp; omega)]; rfl
   ·rw [if_neg t3, if_neg t3, if_neg ht]
 unfold firkinref09_Put.f encC
 cases c0
 ·rw [if_neg (by decide)]
  rw [show (if (false : Bool) = true then [(0 : Int)] else if ty = 3 then 1 :: encT c2 else if ty = 1 ∨ ty = 2 then 1 :: enc (zig c1) else [1]) = (if ty = 3 then 1 :: encT c2 else if ty = 1 ∨ ty = 2 then 1 :: enc (zig c1) else [1]) from rfl]
  by_cases t1 : ty = 1
  ·rw [if_pos t1]; exact hj _ (by simp [t1])
  ·rw [if_neg t1]; exact hj _ (by simp [t1])
 ·rfl
/-- A cell's parts, behind the number that tells whether it is null. -/
def midC (ty : Int) (a : Int × List Int × Bool) : Bool × Int × ByteArray × List Int × Bool :=
 if a.1 = 0 then (true, 0, ByteArray.empty, a.2.1, a.2.2) else if ty = 3 then (false, 0, (gText a.2.1 a.2.2 40).1, (gText a.2.1 a.2.2 40).2.1, (gText a.2.1 a.2.2 40).2.2) else (false, (gInt a.2.1 a.2.2).1, ByteArray.empty, (gInt a.2.1 a.2.2).2.1, (gInt a.2.1 a.2.2).2.2)
def finC (ty : Int) (m : Bool × Int × ByteArray × List Int × Bool) : Bool × Int × ByteArray × List Int × Bool :=
 if m.2.2.2.2 = true ∨ mayC ty true m.1 m.2.1 m.2.2.1 = false then (false, 0, ByteArray.empty, [], true) else m
/-- The cell that bytes begin with: its parts, what is left, and whether there was none. -/
def takeC (l : List Int) (b : Bool) (ty : Int) : Bool × Int × ByteArray × List Int × Bool := finC ty (midC ty (gBelow l b 2))
theorem gInt_good {l : List Int} {b : Bool} (h : GoodS l b) : GoodS (gInt l b).2.1 (gInt l b).2.2 := gNum_good h
theorem gInt_len (l : List Int) (b : Bool) : (gInt l b).2.1.length ≤ l.length := gNum_len l b
theorem midC_good {a : Int × List Int × Bool} (h : GoodS a.2.1 a.2.2) (ty : Int) : GoodS (midC ty a).2.2.2.1 (midC ty a).2.2.2.2 := by
 unfold midC
 split
 ·exact h
 ·split
  ·exact gText_good h 40
  ·exact gInt_good h
theorem takeC_good {l : List Int} {b : Bool} (h : GoodS l b) (ty : Int) : GoodS (takeC l b ty).2.2.2.1 (takeC l b ty).2.2.2.2 := by
 have hm := midC_good (gBelow_good h 2) ty
 unfold takeC finC
 split
 ·exact GoodS.nil _
 ·exact hm
theorem takeC_len (l : List Int) (b : Bool) (ty : Int) : (takeC l b ty).2.2.2.1.length ≤ l.length := by
 have h1 := gBelow_len l b 2
 have h2 := gText_len (gBelow l b 2).2.1 (gBelow l b 2).2.2 40
 have h3 := gInt_len (gBelow l b 2).2.1 (gBelow l b 2).2.2
 have hm : (midC ty (gBelow l b 2)).2.2.2.1.length ≤ l.length := by
  unfold midC
  split
  ·exact h1
  ·split
   ·exact Nat.le_trans h2 h1
   ·exact Nat.le_trans h3 h1
 unfold takeC finC
 split
 ·simp
 ·exact hm
theorem fin_is (ty : Int) (c0 : Bool) (c1 : Int) (c2 : ByteArray) (l : List Int) (b : Bool) (k : Nat) : cell_Take.j0 (k + 1) ty l b c0 c1 c2 = some (finC ty (c0, c1, c2, l, b)) := by
 rw [cell_Take.j0]
 unfold finC
 unfold vint_Source_Ok.f vint_Source_Fail.f
 cases b
 ·simp only [Option.bind_some, Bool.not_false, if_true, may_is, Bool.false_eq_true, false_or]
  cases mayC ty true c0 c1 c2 <;> rfl
 ·simp only [Option.bind_some, Bool.not_true, Bool.false_eq_true, if_false, true_or, if_true]; rfl
theorem rfin_is (ty : Int) (c0 : Bool) (c1 : Int) (c2 : ByteArray) (l : List Int) (b : Bool) (k : Nat) : firkinref09_Take.j3 (k + 2) ty l b c0 c1 c2 = some (finC ty (c0, c1, c2, l, b)) := by
 rw [firkinref09_Take.j3]
 unfold finC
 unfold firkinref01_S_Fail.f
 cases b
 ·simp only [Option.bind_some, rmay_is, Bool.false_eq_true, false_or, if_false]
  cases mayC ty true c0 c1 c2 <;> rfl
 ·simp only [Option.bind_some, true_or, if_true]; rfl
theorem ctake_is {l : List Int} {b : Bool} (h : GoodS l b) (ty : Int) (k : Nat) : cell_Take.f (k + 2) l b ty = some (takeC l b ty) := by
 have ha := gBelow_good h 2
 unfold cell_Take.f takeC
 rw [below_g h 2 (by decide), Option.bind_some]
 generalize gBelow l b 2 = a at ha ⊢
 unfold midC
 by_cases e : a.1 = 0
 ·rw [if_pos e, if_pos e, fin_is]; rfl
 ·rw [if_neg e, if_neg e]
  by_cases t3 : ty = 3
  ·rw [if_pos t3, if_pos t3, text_g ha 40 (by decide) (k + 1), Option.bind_some, fin_is]
  ·rw [if_neg t3, if_neg t3, int_g ha, Option.bind_some, fin_is]; rfl
theorem rctake_is {l : List Int} {b : Bool} (h : GoodS l b) (ty : Int) (k : Nat) : firkinref09_Take.f (k + 6) l b ty = some (takeC l b ty) := by
 have ha := gBelow_good h 2
 have hr := gBelow_range h 2
 unfold firkinref09_Take.f takeC
 rw [rbelow_g h 2 (by decide), Option.bind_some]
 generalize gBelow l b 2 = a at ha hr ⊢
 unfold midC
 by_cases e : a.1 = 0
 ·rw [if_neg (by omega), firkinref09_Take.j0, if_neg (by decide), firkinref09_Take.j1, if_neg (by omega), firkinref09_Take.j2, if_neg (by decide), rfin_is, if_pos e, e]; rfl
 ·have e1 : a.1 = 1 := by omega
  rw [if_pos e1, if_neg e, e1]
  by_cases t3 : ty = 3
  ·subst t3
   rw [firkinref09_Take.j0, if_pos (by decide), rtext_g ha 40 (by decide) (k + 4), Option.bind_some, firkinref09_Take.j1, if_pos rfl, firkinref09_Take.j2, if_neg (by decide), rfin_is]; rfl
  ·rw [if_neg t3, firkinref09_Take.j0, if_neg (by simpa using t3), firkinref09_Take.j1, if_pos rfl, firkinref09_Take.j2, if_pos (by simpa using t3), rint_g ha, Option.bind_some, rfin_is]; rfl
/-- What was put is taken again. -/
theorem takeC_enc {ty : Int} {c0 : Bool} {c1 : Int} {c2 : ByteArray} (h0 : -9223372036854775808 ≤ c1) (h1 : c1 < 9223372036854775808) (hm : mayC ty true c0 c1 c2 = true) (rest : List Int) : takeC (encC ty c0 c1 c2 ++ rest) false ty = (c0, c1, c2, rest, false) := by
 have hm' := hm
 have e0 : ∀ l, gBelow (0 :: l) false 2 = (0, l, false) := fun l => by have := gBelow_enc (n := 0) (m := 2) (by decide) (by decide) l; simpa [show enc 0 = [0] from by decide +kernel] using this
 have e1 : ∀ l, gBelow (1 :: l) false 2 = (1, l, false) := fun l => by have := gBelow_enc (n := 1) (m := 2) (by decide) (by decide) l; simpa [show enc 1 = [1] from by decide +kernel] using this
 unfold mayC at hm
 by_cases ht : ty < 1 ∨ 3 < ty
 ·rw [if_pos ht] at hm; cases hm
 rw [if_neg ht] at hm
 have hfin : ∀ l, finC ty (c0, c1, c2, l, false) = (c0, c1, c2, l, false) := fun l => by unfold finC; rw [if_neg]; simp [hm']
 unfold encC takeC
 cases c0
 ·rw [if_neg (by decide)] at hm
  rw [if_neg (by decide)]
  by_cases t3 : ty = 3
  ·rw [if_pos t3] at hm
   simp only [Bool.and_eq_true, decide_eq_true_eq, beq_iff_eq] at hm
   obtain ⟨rfl, hsz⟩ := hm
   rw [if_pos t3, List.cons_append, e1]
   unfold midC
   rw [if_neg (show ¬ (1 : Int) = 0 by decide), if_pos t3, gText_enc hsz (by decide)]
   exact hfin _
  ·rw [if_neg t3] at hm
   have hnil : c2 = ByteArray.empty := by
    have : c2.toList.isEmpty = true := by simp at hm; simp [hm.1]
    apply toList_inj.mp
    simpa using this
   subst hnil
   rw [if_neg t3, if_pos (by omega), List.cons_append, e1]
   unfold midC
   rw [if_neg (show ¬ (1 : Int) = 0 by decide), if_neg t3, gInt_enc h0 h1]
   exact hfin _
 ·rw [if_pos rfl] at hm
  simp only [Bool.true_and, Bool.and_eq_true, beq_iff_eq] at hm
  obtain ⟨rfl, hnil⟩ := hm
  have hnil : c2 = ByteArray.empty := by apply toList_inj.mp; simpa using hnil
  subst hnil
  rw [if_pos rfl, List.cons_append, List.nil_append, e0]
  unfold midC
  rw [if_pos rfl]
  exact hfin _
end Go.Proofs.Ytkdlfejokahohaa.CellEnc
/- Zones' bytes, plain law: what is put, what is taken; the code's and the document's are the same, and what is put is taken again. -/
namespace Go.Proofs.Ytkdlfejokahohaa.ZoneEnc
open Go.Proofs.Ytkdlfejokahohaa.EncText
open Go Go.RowKit Go.Proofs.Ytkdlfejokahohaa.X Go.Proofs.Ytkdlfejokahohaa.Dec Go.Proofs.Ytkdlfejokahohaa.Enc Go.Proofs.Ytkdlfejokahohaa.Read Go.Proofs.Ytkdlfejokahohaa.CellPlain Go.Proofs.Ytkdlfejokahohaa.CellEnc Go.Proofs.YtkdlfejokahohaaW.PrintWords Go.Proofs.YtkdlfejokahohaaW.PrintLast Go.Proofs.YtkdlfejokahohaaW.PrintMore
set_option linter.unusedVariables false
set_option linter.unusedSimpArgs false
theorem mayC_true {ty : Int} {c0 : Bool} {c1 : Int} {c2 : ByteArray} (h : mayC ty false c0 c1 c2 = true) : mayC ty true c0 c1 c2 = true := by
 unfold mayC at h ⊢
 split at h
 ·cases h
 ·rename_i ht
  rw [if_neg ht]
  cases c0
  ·exact h
  ·simp at h
theorem mayZ_range {ty z0 z1 : Int} {l0 : Bool} {l1 : Int} {l2 : ByteArray} {h0 : Bool} {h1 : Int} {h2 : ByteArray} (h : mayZ ty z0 z1 l0 l1 l2 h0 h1 h2 = true) :
  0 ≤ z0 ∧ z0 ≤ 4096 ∧ 0 ≤ z1 ∧ z1 ≤ z0 ∧ (z1 < z0 → mayC ty true l0 l1 l2 = true ∧ mayC ty true h0 h1 h2 = true) ∧ (¬ z1 < z0 → l0 = false ∧ l1 = 0 ∧ l2 = ByteArray.empty ∧ h0 = false ∧ h1 = 0 ∧ h2 = ByteArray.empty) := by
 unfold mayZ at h
 split at h
 ·cases h
 ·rename_i hr
  split at h
  ·rename_i he
   refine ⟨by omega, by omega, by omega, by omega, fun hlt => absurd hlt (by omega), fun _ => ?_⟩
   simp only [noC, Bool.and_eq_true, Bool.not_eq_true', beq_iff_eq] at h
   obtain ⟨⟨rfl, rfl, a⟩, rfl, rfl, b⟩ := h
   exact ⟨rfl, rfl, toList_inj.mp (by simpa using a), rfl, rfl, toList_inj.mp (by simpa using b)⟩
  ·rename_i he
   simp only [Bool.and_eq_true] at h
   exact ⟨by omega, by omega, by omega, by omega, fun _ => ⟨mayC_true h.1.1, mayC_true h.1.2⟩, fun hn => absurd hn (by omega)⟩
/-- A zone's bytes. -/
def encZ (ty z0 z1 : Int) (l0 : Bool) (l1 : Int) (l2 : ByteArray) (h0 : Bool) (h1 : Int) (h2 : ByteArray) : List Int :=
 if mayZ ty z0 z1 l0 l1 l2 h0 h1 h2 = true then enc z0.toNat ++ enc z1.toNat ++ (if z1 < z0 then encC ty l0 l1 l2 ++ encC ty h0 h1 h2 else []) else []
theorem app_bytes {a b : List Int} (ha : IsBytes a) (hb : IsBytes b) : IsBytes (a ++ b) := fun x hx => by
 rcases List.mem_append.1 hx with hx | hx
 ·exact ha x hx
 ·exact hb x hx
theorem encZ_bytes (ty z0 z1 : Int) (l0 : Bool) (l1 : Int) (l2 : ByteArray) (h0 : Bool) (h1 : Int) (h2 : ByteArray) : IsBytes (encZ ty z0 z1 l0 l1 l2 h0 h1 h2) := by
 unfold encZ
 split
 ·refine app_bytes (app_bytes (enc_bytes _) (enc_bytes _)) ?_
  split
  ·exact app_bytes (encC_bytes _ _ _ _) (encC_bytes _ _ _ _)
  ·intro x hx; simp at hx
 ·intro x hx; simp at hx
theorem encZ_len (ty z0 z1 : Int) (l0 : Bool) (l1 : Int) (l2 : ByteArray) (h0 : Bool) (h1 : Int) (h2 : ByteArray) (a0 : -9223372036854775808 ≤ l1) (a1 : l1 < 9223372036854775808) (b0 : -9223372036854775808 ≤ h1) (b1 : h1 < 9223372036854775808) (hl : l2.size ≤ 100) (hh : h2.size ≤ 100) : (encZ ty z0 z1 l0 l1 l2 h0 h1 h2).length ≤ 300 := by
 have c1 := encC_len ty l0 l1 l2 a0 a1 (by omega)
 have c2 := encC_len ty h0 h1 h2 b0 b1 (by omega)
 unfold encZ
 split
 ·rename_i hm
  obtain ⟨r0, r1, r2, r3, _, _⟩ := mayZ_range hm
  have d1 := enc_len z0.toNat (by omega)
  have d2 := enc_len z1.toNat (by omega)
  split
  ·simp only [List.length_append]; omega
  ·simp only [List.length_append, List.length_nil]; omega
 ·simp
theorem znum {z : Int} (h0 : 0 ≤ z) (h1 : z ≤ 4096) (k : Nat) (hk : 11 < k) : vint_Num.f k (IntKind.u64.wrap z) = some (enc z.toNat) ∧ firkinref01_Num.f k (IntKind.u64.wrap z) = some (enc z.toNat) := by
 rw [wrap_u64_of h0 (by omega)]
 have a := num_is z.toNat (by omega) k (by omega)
 have b := rnum_is z.toNat (by omega) k (by omega)
 rw [show ((z.toNat : Nat) : Int) = z by omega] at a b
 exact ⟨a, b⟩
theorem zput_is (ty z0 z1 : Int) (l0 : Bool) (l1 : Int) (l2 : ByteArray) (h0 : Bool) (h1 : Int) (h2 : ByteArray) (a0 : -9223372036854775808 ≤ l1) (a1 : l1 < 9223372036854775808) (b0 : -9223372036854775808 ≤ h1) (b1 : h1 < 9223372036854775808) (hl : l2.size ≤ 100) (hh : h2.size ≤ 100) (k : Nat) (hk : 20 < k) :
  zone_Put.f k ty z0 z1 l0 l1 l2 h0 h1 h2 = some (encZ ty z0 z1 l0 l1 l2 h0 h1 h2) := by
 have c1 := encC_len ty l0 l1 l2 a0 a1 (by omega)
 have c2 := encC_len ty h0 h1 h2 b0 b1 (by omega)
 unfold zone_Put.f encZ
 rw [zmay_is _ _ _ _ _ _ _ _ _ k (by omega), Option.bind_some]
 by_cases hm : mayZ ty z0 z1 l0 l1 l2 h0 h1 h2 = true
 ·rw [if_pos hm, if_pos hm]
  obtain ⟨r0, r1, r2, r3, _, _⟩ := mayZ_range hm
  have d1 := enc_len z0.toNat (by omega)
  have d2 := enc_len z1.toNat (by omega)
  rw [(znum r0 r1 k (by omega)).1, Option.bind_some, (znum r2 (by omega) k (by omega)).1, Option.bind_some]
  have e1 : slices_Concat_byte.f ([enc z0.toNat, enc z1.toNat] : List (List Int)) = some (enc z0.toNat ++ enc z1.toNat) := by
   unfold slices_Concat_byte.f
   have e : ([enc z0.toNat, enc z1.toNat] : List (List Int)).flatten = enc z0.toNat ++ enc z1.toNat := by simp
   rw [e, if_pos (by simp only [List.length_append]; omega)]
  rw [e1, Option.bind_some]
  unfold zone_some.f
  rw [Option.bind_some]
  by_cases hs : z1 < z0
  ·rw [if_pos (by simpa using hs), if_pos hs, cput_is _ _ _ _ a0 a1 (by omega) k hk, Option.bind_some, cput_is _ _ _ _ b0 b1 (by omega) k hk, Option.bind_some]
   unfold slices_Concat_byte.f
   have e : ([enc z0.toNat ++ enc z1.toNat, encC ty l0 l1 l2, encC ty h0 h1 h2] : List (List Int)).flatten = enc z0.toNat ++ enc z1.toNat ++ (encC ty l0 l1 l2 ++ encC ty h0 h1 h2) := by simp
   rw [e, if_pos (by simp only [List.length_append]; omega), Option.bind_some]
  ·rw [if_neg (by simpa using hs), if_neg hs, List.append_nil]
 ·rw [if_neg hm, if_neg hm]
theorem rzput_is (ty z0 z1 : Int) (l0 : Bool) (l1 : Int) (l2 : ByteArray) (h0 : Bool) (h1 : Int) (h2 : ByteArray) (a0 : -9223372036854775808 ≤ l1) (a1 : l1 < 9223372036854775808) (b0 : -9223372036854775808 ≤ h1) (b1 : h1 < 9223372036854775808) (hl : l2.size ≤ 100) (hh : h2.size ≤ 100) (k : Nat) (hk : 20 < k) :
  firkinref11_Put.f k ty z0 z1 l0 l1 l2 h0 h1 h2 = some (encZ ty z0 z1 l0 l1 l2 h0 h1 h2) := by
 have c1 := encC_len ty l0 l1 l2 a0 a1 (by omega)
 have c2 := encC_len ty h0 h1 h2 b0 b1 (by omega)
 have em : firkinref11_May.f k ty z0 z1 l0 l1 l2 h0 h1 h2 = some (mayZ ty z0 z1 l0 l1 l2 h0 h1 h2) := by
  obtain ⟨m, rfl⟩ : ∃ m, k = m + 2 := ⟨k - 2, by omega⟩
  exact rzmay_is _ _ _ _ _ _ _ _ _ m
 unfold firkinref11_Put.f encZ
 rw [em, Option.bind_some]
 by_cases hm : mayZ ty z0 z1 l0 l1 l2 h0 h1 h2 = true
 ·rw [if_pos hm, if_pos hm]
  obtain ⟨r0, r1, r2, r3, _, _⟩ := mayZ_range hm
  have d1 := enc_len z0.toNat (by omega)
  have d2 := enc_len z1.toNat (by omega)
  rw [(znum r0 r1 k (by omega)).2, Option.bind_some, (znum r2 (by omega) k (by omega)).2, Option.bind_some, if_pos (by omega), Option.bind_some]
  by_cases hs : z1 < z0
  ·rw [if_pos (show z0 > z1 from hs), if_pos hs, rcput_is _ _ _ _ a0 a1 (by omega) k hk, Option.bind_some, if_pos (by simp only [List.length_append]; omega), Option.bind_some, rcput_is _ _ _ _ b0 b1 (by omega) k hk, Option.bind_some, if_pos (by simp only [List.length_append]; omega), List.append_assoc (enc z0.toNat ++ enc z1.toNat)]
  ·rw [if_neg (show ¬ z0 > z1 from hs), if_neg hs, List.append_nil]
 ·rw [if_neg hm, if_neg hm]
/-- A zone's parts, its two numbers told. -/
def midZ (ty a : Int) (b : Int × List Int × Bool) : Int × Int × Bool × Int × ByteArray × Bool × Int × ByteArray × List Int × Bool :=
 if b.2.2 = false ∧ b.1 < a then
  (a, b.1, (takeC b.2.1 b.2.2 ty).1, (takeC b.2.1 b.2.2 ty).2.1, (takeC b.2.1 b.2.2 ty).2.2.1, takeC (takeC b.2.1 b.2.2 ty).2.2.2.1 (takeC b.2.1 b.2.2 ty).2.2.2.2 ty)
 else (a, b.1, false, 0, ByteArray.empty, false, 0, ByteArray.empty, b.2.1, b.2.2)
def finZ (ty : Int) (m : Int × Int × Bool × Int × ByteArray × Bool × Int × ByteArray × List Int × Bool) : Int × Int × Bool × Int × ByteArray × Bool × Int × ByteArray × List Int × Bool :=
 if m.2.2.2.2.2.2.2.2.2 = true ∨ mayZ ty m.1 m.2.1 m.2.2.1 m.2.2.2.1 m.2.2.2.2.1 m.2.2.2.2.2.1 m.2.2.2.2.2.2.1 m.2.2.2.2.2.2.2.1 = false then (0, 0, false, 0, ByteArray.empty, false, 0, ByteArray.empty, [], true) else m
/-- The zone that bytes begin with: its parts, what is left, and whether there was none. -/
def takeZ (l : List Int) (b : Bool) (ty : Int) : Int × Int × Bool × Int × ByteArray × Bool × Int × ByteArray × List Int × Bool :=
 finZ ty (midZ ty (gBelow l b 4097).1 (gBelow (gBelow l b 4097).2.1 (gBelow l b 4097).2.2 4097))
theorem takeZ_good {l : List Int} {b : Bool} (h : GoodS l b) (ty : Int) : GoodS (takeZ l b ty).2.2.2.2.2.2.2.2.1 (takeZ l b ty).2.2.2.2.2.2.2.2.2 := by
 have h1 := gBelow_good (gBelow_good h 4097) 4097
 have hm : GoodS (midZ ty (gBelow l b 4097).1 (gBelow (gBelow l b 4097).2.1 (gBelow l b 4097).2.2 4097)).2.2.2.2.2.2.2.2.1 (midZ ty (gBelow l b 4097).1 (gBelow (gBelow l b 4097).2.1 (gBelow l b 4097).2.2 4097)).2.2.2.2.2.2.2.2.2 := by
  unfold midZ
  split
  ·exact takeC_good (takeC_good h1 ty) ty
  ·exact h1
 unfold takeZ finZ
 split
 ·exact GoodS.nil _
 ·exact hm
theorem zfin_is (ty z0 z1 : Int) (l0 : Bool) (l1 : Int) (l2 : ByteArray) (h0 : Bool) (h1 : Int) (h2 : ByteArray) (l : List Int) (b : Bool) (k : Nat) (hk : 6 < k) : zone_Take.j1 (k + 1) ty l b z0 z1 l0 l1 l2 h0 h1 h2 = some (finZ ty (z0, z1, l0, l1, l2, h0, h1, h2, l, b)) := by
 rw [zone_Take.j1]
 unfold finZ
 unfold vint_Source_Ok.f vint_Source_Fail.f
 cases b
 ·simp only [Option.bind_some, Bool.not_false, if_true, zmay_is _ _ _ _ _ _ _ _ _ k hk, Bool.false_eq_true, false_or]
  cases mayZ ty z0 z1 l0 l1 l2 h0 h1 h2 <;> rfl
 ·simp only [Option.bind_some, Bool.not_true, Bool.false_eq_true, if_false, true_or, if_true]; rfl
theorem rzfin_is (ty z0 z1 : Int) (l0 : Bool) (l1 : Int) (l2 : ByteArray) (h0 : Bool) (h1 : Int) (h2 : ByteArray) (l : List Int) (b : Bool) (k : Nat) : firkinref11_Take.j1 (k + 3) ty l b z0 z1 l0 l1 l2 h0 h1 h2 = some (finZ ty (z0, z1, l0, l1, l2, h0, h1, h2, l, b)) := by
 rw [firkinref11_Take.j1]
 unfold finZ
 unfold firkinref01_S_Fail.f
 cases b
 ·simp only [Option.bind_some, rzmay_is, Bool.false_eq_true, false_or, if_false]
  cases mayZ ty z0 z1 l0 l1 l2 h0 h1 h2 <;> rfl
 ·simp only [Option.bind_some, true_or, if_true]; rfl
theorem ztake_is {l : List Int} {b : Bool} (h : GoodS l b) (ty : Int) (k : Nat) (hk : 12 < k) : zone_Take.f k l b ty = some (takeZ l b ty) := by
 obtain ⟨k, rfl⟩ : ∃ m, k = m + 4 := ⟨k - 4, by omega⟩
 have h1 := gBelow_good h 4097
 have h2 := gBelow_good h1 4097
 unfold zone_Take.f takeZ
 rw [below_g h 4097 (by decide), Option.bind_some, below_g h1 4097 (by decide), Option.bind_some]
 generalize gBelow (gBelow l b 4097).2.1 (gBelow l b 4097).2.2 4097 = c at h2 ⊢
 generalize (gBelow l b 4097).1 = a
 have hj : ∀ x : Bool, (x = true ↔ (c.2.2 = false ∧ c.1 < a)) → zone_Take.j0 (k + 4) ty x c.2.1 c.2.2 a c.1 false 0 (⟨#[]⟩ : ByteArray) false 0 (⟨#[]⟩ : ByteArray) = some (finZ ty (midZ ty a c)) := by
  intro x hx
  rw [zone_Take.j0]
  unfold midZ
  cases x with
  | true =>
   rw [if_pos rfl, if_pos (hx.mp rfl), ctake_is h2 ty (k + 1), Option.bind_some, ctake_is (takeC_good h2 ty) ty (k + 1), Option.bind_some, zfin_is _ _ _ _ _ _ _ _ _ _ _ _ (by omega)]
  | false =>
   rw [if_neg (by decide), if_neg (fun h => by have := hx.mpr h; cases this), zfin_is _ _ _ _ _ _ _ _ _ _ _ _ (by omega)]; rfl
 unfold vint_Source_Ok.f
 simp only [Option.bind_some]
 by_cases hb : c.2.2 = true
 ·rw [if_neg (by simp [hb])]; exact hj _ (by simp [hb])
 ·have hb' : c.2.2 = false := by simpa using hb
  rw [if_pos (by simp [hb'])]
  unfold zone_some.f
  rw [Option.bind_some]
  exact hj _ (by simp [hb'])
theorem rztake_is {l : List Int} {b : Bool} (h : GoodS l b) (ty : Int) (k : Nat) (hk : 12 < k) : firkinref11_Take.f k l b ty = some (takeZ l b ty) := by
 obtain ⟨k, rfl⟩ : ∃ m, k = m + 7 := ⟨k - 7, by omega⟩
 have h1 := gBelow_good h 4097
 have h2 := gBelow_good h1 4097
 unfold firkinref11_Take.f takeZ
 rw [rbelow_g h 4097 (by decide), Option.bind_some, rbelow_g h1 4097 (by decide), Option.bind_some]
 generalize gBelow (gBelow l b 4097).2.1 (gBelow l b 4097).2.2 4097 = c at h2 ⊢
 generalize (gBelow l b 4097).1 = a
 have hj : ∀ x : Bool, (x = true ↔ (c.2.2 = false ∧ c.1 < a)) → firkinref11_Take.j0 (k + 7) ty x c.2.1 c.2.2 a c.1 false 0 (⟨#[]⟩ : ByteArray) false 0 (⟨#[]⟩ : ByteArray) = some (finZ ty (midZ ty a c)) := by
  intro x hx
  rw [firkinref11_Take.j0]
  unfold midZ
  cases x with
  | true =>
   rw [if_pos rfl, if_pos (hx.mp rfl), rctake_is h2 ty k, Option.bind_some, rctake_is (takeC_good h2 ty) ty k, Option.bind_some, rzfin_is]
  | false =>
   rw [if_neg (by decide), if_neg (fun h => by have := hx.mpr h; cases this), rzfin_is]; rfl
 by_cases hb : c.2.2 = true
 ·rw [if_pos hb]; exact hj _ (by simp [hb])
 ·have hb' : c.2.2 = false := by simpa using hb
  rw [if_neg hb]
  exact hj _ (by simp [hb'])
/-- What was put is taken again. -/
theorem takeZ_enc {ty z0 z1 : Int} {l0 : Bool} {l1 : Int} {l2 : ByteArray} {h0 : Bool} {h1 : Int} {h2 : ByteArray} (a0 : -9223372036854775808 ≤ l1) (a1 : l1 < 9223372036854775808) (b0 : -9223372036854775808 ≤ h1) (b1 : h1 < 9223372036854775808) (hm : mayZ ty z0 z1 l0 l1 l2 h0 h1 h2 = true) (rest : List Int) :
  takeZ (encZ ty z0 z1 l0 l1 l2 h0 h1 h2 ++ rest) false ty = (z0, z1, l0, l1, l2, h0, h1, h2, rest, false) := by
 have hfin : ∀ l, finZ ty (z0, z1, l0, l1, l2, h0, h1, h2, l, false) = (z0, z1, l0, l1, l2, h0, h1, h2, l, false) := fun l => by unfold finZ; rw [if_neg]; simp [hm]
 obtain ⟨r0, r1, r2, r3, hsome, hnone⟩ := mayZ_range hm
 have g0 : ∀ l, gBelow (enc z0.toNat ++ l) false 4097 = (z0, l, false) := fun l => by
  have := gBelow_enc (n := z0.toNat) (m := 4097) (by omega) (by decide) l
  rwa [show ((z0.toNat : Nat) : Int) = z0 by omega] at this
 have g1 : ∀ l, gBelow (enc z1.toNat ++ l) false 4097 = (z1, l, false) := fun l => by
  have := gBelow_enc (n := z1.toNat) (m := 4097) (by omega) (by decide) l
  rwa [show ((z1.toNat : Nat) : Int) = z1 by omega] at this
 unfold encZ takeZ
 rw [if_pos hm, List.append_assoc, List.append_assoc, g0]
 simp only []
 rw [g1]
 unfold midZ
 by_cases hs : z1 < z0
 ·obtain ⟨m1, m2⟩ := hsome hs
  rw [if_pos ⟨rfl, hs⟩, if_pos hs, List.append_assoc]
  simp only []
  rw [takeC_enc a0 a1 m1]
  simp only []
  rw [takeC_enc b0 b1 m2]
  exact hfin _
 ·obtain ⟨rfl, rfl, rfl, rfl, rfl, rfl⟩ := hnone hs
  rw [if_neg (fun h => hs h.2), if_neg hs, List.nil_append]
  exact hfin _
end Go.Proofs.Ytkdlfejokahohaa.ZoneEnc
