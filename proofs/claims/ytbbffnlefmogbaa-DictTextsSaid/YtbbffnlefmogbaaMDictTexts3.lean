/- DictTexts: for every input the call returns true, and each argument reads behind the call as it read before it. No condition. (Part 4 of 5: this session's texts, laid together by wip/merge.py.) -/
import Derived.Test.YtbbffnlefmogbaaEnc0
import Derived.Test.YtbbffnlefmogbaaX0
import Derived.Test.YtbbffnlefmogbaaMem2
import Derived.Test.YtbbffnlefmogbaaWordsPlain
import Derived.Lib.Hide
import Derived.Deep.RegionHeld3
import Derived.Test.YtbbffnlefmogbaaMDictTexts0
import Derived.Test.YtbbffnlefmogbaaMDictTexts1
import Derived.Test.YtbbffnlefmogbaaMDictTexts2
/- A number's bytes, plain law: the code's and the document's are the same. -/
namespace Go.Proofs.Ytbbffnlefmogbaa.Enc
open Go.RowKit Go.Proofs.Ytbbffnlefmogbaa.X Go.Proofs.Ytbbffnlefmogbaa.Dec Go.Proofs.YtbbffnlefmogbaaW.PrintWords Go.Proofs.YtbbffnlefmogbaaW.PrintLast Go.Proofs.YtbbffnlefmogbaaW.PrintMore
set_option linter.unusedVariables false
theorem num_loop (n G : Nat) (hG : 1 ≤ G) (hG2 : G ≤ 10) (d : Nat) : ∀ (k i : Nat), i + d = G → d < k →
    vint_Num.l0 k (n : Int) (G : Int) (laid n G i) (G : Int) (i : Int) = some (encL n G) := by
  induction d with
  | zero =>
    intro k i hd hk
    obtain ⟨k, rfl⟩ : ∃ m, k = m + 1 := ⟨k - 1, by omega⟩
    obtain rfl : i = G := by omega
    rw [vint_Num.l0, if_neg (by omega), w64 (by omega) (by omega), if_pos (by omega), if_pos (by rw [laid_length]; omega)]
    rw [show ((i : Int) - 1) = ((i - 1 : Nat) : Int) by omega, rd_nat, Int.toNat_natCast]
    have hg : (laid n i i).getD (i - 1) 0 = ((n / 2 ^ (7 * (i - 1)) % 128 + 128 : Nat) : Int) := by
      simp only [laid, List.getD]
      rw [List.getElem?_map, List.getElem?_range (by omega)]
      simp; omega
    rw [hg, last_seven _ (Nat.mod_lt _ (by decide)), laid_end n i hG]
  | succ d ih =>
    intro k i hd hk
    obtain ⟨k, rfl⟩ : ∃ m, k = m + 1 := ⟨k - 1, by omega⟩
    rw [vint_Num.l0, if_pos (by omega), w64 (x := 7 * (i : Int)) (by omega) (by omega), if_pos (by omega), if_pos (by omega), if_pos (by rw [laid_length]; omega)]
    rw [show (7 * (i : Int)) = ((7 * i : Nat) : Int) by omega, shr_nat n i (by omega), seven, Int.toNat_natCast, laid_set n G i (by omega), w64 (by omega) (by omega), show ((i : Int) + 1) = ((i + 1 : Nat) : Int) by omega]
    exact ih k (i + 1) (by omega) (by omega)
theorem num_is (n : Nat) (h : n < 18446744073709551616) (k : Nat) (hk : 10 < k) : vint_Num.f k (n : Int) = some (enc n) := by
  have hl := len_le n h
  have hg := grp_le (n := n) h
  unfold vint_Num.f bits_Len64.f
  rw [if_pos ⟨by omega, by omega⟩, Option.bind_some, Int.toNat_natCast]
  have e : mx 1 (wrap64 (Int.tdiv (wrap64 ((wrap64 (((Lib.bitLen n : Nat) : Int) + 7)) - 1)) 7)) = ((grp n : Nat) : Int) := by
    rw [w64 (x := ((Lib.bitLen n : Nat) : Int) + 7) (by omega) (by omega), w64 (x := ((Lib.bitLen n : Nat) : Int) + 7 - 1) (by omega) (by omega), Int.tdiv_eq_ediv_of_nonneg (by omega), w64 (by omega) (by omega)]
    unfold mx grp
    split <;> omega
  rw [e]
  rw [if_pos (by omega), Int.toNat_natCast, if_pos (by omega), Option.bind_some, List.length_replicate, ← laid_zero n]
  have := num_loop n (grp n) (grp_has h).1 hg (grp n) k 0 (by omega) (by omega)
  exact this
theorem rnum_loop (n G : Nat) (hn : Has n G) (hlt : n < 18446744073709551616) (hG : G ≤ 10) (d : Nat) : ∀ (k i : Nat) (acc : List Int), i + d = G → 1 ≤ d → d < k → acc = (encL n G).take i →
    firkinref01_Num.l0 k ((n / 2 ^ (7 * i) : Nat) : Int) acc = some (encL n G) := by
  induction d with
  | zero => intro k i acc hd h1; omega
  | succ d ih =>
    intro k i acc hd _ hk hacc
    obtain ⟨k, rfl⟩ : ∃ m, k = m + 1 := ⟨k - 1, by omega⟩
    have hq : n / 2 ^ (7 * i) < 18446744073709551616 := Nat.lt_of_le_of_lt (Nat.div_le_self _ _) hlt
    have hlen : acc.length ≤ 10 := by rw [hacc, List.length_take, encL_length]; omega
    have hget : (encL n G)[i]? = some ((encByte n G i : Nat) : Int) := by
      rw [encL, List.getElem?_map, List.getElem?_range (by omega)]; rfl
    have hsnoc : (encL n G).take i ++ [((encByte n G i : Nat) : Int)] = (encL n G).take (i + 1) := by
      have hi : i < (encL n G).length := by rw [encL_length]; omega
      rw [List.take_succ_eq_append_getElem hi]
      congr 1
      rw [List.getElem?_eq_getElem hi] at hget
      rw [Option.some.inj hget]
    have hpow : 2 ^ (7 * (i + 1)) = 2 ^ (7 * i) * 128 := by rw [show 7 * (i + 1) = 7 * i + 7 by omega, Nat.pow_add]
    rw [firkinref01_Num.l0]
    by_cases hd0 : d = 0
    · have hi : i + 1 = G := by omega
      have hsm : n / 2 ^ (7 * i) < 128 := by
        have := hn.2.1
        rw [← hi, hpow] at this
        exact Nat.div_lt_of_lt_mul this
      rw [if_neg (by omega), if_pos (by omega), hacc]
      have he : encByte n G i = n / 2 ^ (7 * i) := by unfold encByte; rw [if_neg (by omega), Nat.mod_eq_of_lt hsm, Nat.add_zero]
      rw [show (((n / 2 ^ (7 * i) : Nat) : Int) % 256) = ((n / 2 ^ (7 * i) : Nat) : Int) by omega, ← he, hsnoc, List.take_of_length_le (by rw [encL_length]; omega)]
    · have hbig : 128 ≤ n / 2 ^ (7 * i) := by
        have h1 := hn.2.2 (by omega)
        have h2 : 2 ^ (7 * (i + 1)) ≤ 2 ^ (7 * (G - 1)) := Nat.pow_le_pow_right (by decide) (by omega)
        rw [hpow] at h2
        rw [Nat.le_div_iff_mul_le (Nat.two_pow_pos _), Nat.mul_comm]
        omega
      have he : encByte n G i = n / 2 ^ (7 * i) % 128 + 128 := by unfold encByte; rw [if_pos (by omega)]
      have hdd : n / 2 ^ (7 * i) / 128 = n / 2 ^ (7 * (i + 1)) := by rw [Nat.div_div_eq_div_mul, hpow]
      rw [if_pos (by omega), if_pos (by omega), Int.tdiv_eq_ediv_of_nonneg (by omega), Int.tmod_eq_emod_of_nonneg (by omega)]
      rw [IntKind.wrap_u64, IntKind.wrap_u64]
      rw [show ((((n / 2 ^ (7 * i) : Nat) : Int) / 128) % 18446744073709551616) = ((n / 2 ^ (7 * i) / 128 : Nat) : Int) by omega, hdd]
      rw [show (((((n / 2 ^ (7 * i) : Nat) : Int) % 128 + 128) % 18446744073709551616) % 256) = ((n / 2 ^ (7 * i) % 128 + 128 : Nat) : Int) by omega, ← he]
      exact ih k (i + 1) _ (by omega) (by omega) (by omega) (by rw [hacc, hsnoc])
theorem rnum_is (n : Nat) (h : n < 18446744073709551616) (k : Nat) (hk : 11 < k) : firkinref01_Num.f k (n : Int) = some (enc n) := by
  unfold firkinref01_Num.f
  have hg := grp_le (n := n) h
  have := rnum_loop n (grp n) (grp_has h) h hg (grp n) k 0 [] (by omega) (grp_has h).1 (by omega) (by simp)
  rw [Nat.mul_zero, Nat.pow_zero, Nat.div_one] at this
  exact this
end Go.Proofs.Ytbbffnlefmogbaa.Enc
/- A signed number's bytes, plain law: the code's and the document's are the same. -/
namespace Go.Proofs.Ytbbffnlefmogbaa.Enc
open Go.RowKit Go.Proofs.Ytbbffnlefmogbaa.X Go.Proofs.Ytbbffnlefmogbaa.Dec Go.Proofs.YtbbffnlefmogbaaW.PrintWords Go.Proofs.YtbbffnlefmogbaaW.PrintLast Go.Proofs.YtbbffnlefmogbaaW.PrintMore
set_option linter.unusedVariables false
theorem int_is (n : Int) (h0 : -9223372036854775808 ≤ n) (h1 : n < 9223372036854775808) (k : Nat) (hk : 10 < k) : vint_Int.f k n = some (enc (zig n)) := by
  unfold vint_Int.f
  have hz := zig_lt h0 h1
  have e : Go.bits .xor .u64 (IntKind.u64.wrap ((IntKind.u64.wrap n) * 2)) (IntKind.u64.wrap (n / 9223372036854775808)) = ((zig n : Nat) : Int) := by
    rw [IntKind.wrap_u64, IntKind.wrap_u64, IntKind.wrap_u64]
    by_cases hn : n < 0
    · have e1 : n / 9223372036854775808 = -1 := by omega
      rw [e1, show ((-1 : Int) % 18446744073709551616) = 18446744073709551615 by decide, u64_xor _ _ (by omega) (by omega) (by omega) (by omega), show (18446744073709551615 : Int).toNat = 18446744073709551615 by decide, xor_all _ (by omega)]
      unfold zig
      rw [if_pos hn]
      omega
    · have e1 : n / 9223372036854775808 = 0 := by omega
      rw [e1, show ((0 : Int) % 18446744073709551616) = 0 by decide, u64_xor _ _ (by omega) (by omega) (by omega) (by omega), show (0 : Int).toNat = 0 from rfl, Nat.xor_zero]
      unfold zig
      rw [if_neg hn]
      omega
  rw [e, num_is _ hz k hk]; rfl
theorem rint_is (n : Int) (h0 : -9223372036854775808 ≤ n) (h1 : n < 9223372036854775808) (k : Nat) (hk : 11 < k) : firkinref01_Int.f k n = some (enc (zig n)) := by
  unfold firkinref01_Int.f
  have hz := zig_lt h0 h1
  simp only [IntKind.wrap_u64]
  by_cases hn : n < 0
  · rw [if_pos hn]
    have e : ((2 * ((-(n % 18446744073709551616)) % 18446744073709551616)) % 18446744073709551616 - 1) % 18446744073709551616 = ((zig n : Nat) : Int) := by
      unfold zig; rw [if_pos hn]; omega
    rw [e, rnum_is _ hz k hk]; rfl
  · rw [if_neg hn]
    have e : (2 * (n % 18446744073709551616)) % 18446744073709551616 = ((zig n : Nat) : Int) := by
      unfold zig; rw [if_neg hn]; omega
    rw [e, rnum_is _ hz k hk]; rfl
end Go.Proofs.Ytbbffnlefmogbaa.Enc
-- Printed for this claim by a program of this session (wip/xprint.py) over the kit's printer; Lean checks it.
namespace Go.Proofs.Ytbbffnlefmogbaa.X
open Go.RowKit Go.Proofs.YtbbffnlefmogbaaW.PrintWords Go.Proofs.YtbbffnlefmogbaaW.PrintLast Go.Proofs.YtbbffnlefmogbaaW.PrintMore
attribute [local go_sem] max2_int min2_int max_two min_two max_three min_three max_four min_four   -- for this text's walks alone
set_option linter.unusedVariables false
set_option linter.unusedSimpArgs false

/-! ### firkinref01_S_Int: function 52 -/
def firkinref01_S_Int.f (s0_0 : List Int) (s0_1 : Bool) : Option (Int × List Int × Bool) := (firkinref01_S_Num.f s0_0 s0_1).bind fun bt323 => (if (Int.tmod bt323.1 2) = 1 then (some (wrap64 ((wrap64 (-(wrap64 (IntKind.u64.wrap (Int.tdiv bt323.1 2))))) - 1), bt323.2.1, bt323.2.2)) else (some (wrap64 (IntKind.u64.wrap (Int.tdiv bt323.1 2)), bt323.2.1, bt323.2.2)))
set_option maxHeartbeats 8000000 in
set_option maxRecDepth 100000 in
theorem firkinref01_S_Int.calls (g : Nat) (s0_0 : List Int) (s0_1 : Bool) (r1 : Int) (r2 : List Int) (r3 : Bool) (w0 w : World) (hI : IsS39 w0 w g s0_0 s0_1) (hB : Below w0.heap.size w0 w) (h : firkinref01_S_Int.f s0_0 s0_1 = some (r1, r2, r3)) :
    Calls Try.prog 52 #[.pointer (some ⟨g, 0, none⟩)] w fun e w' => e = .returned (.int .i64 r1) ∧ IsS39 w0 w' g r2 r3 ∧ Below w0.heap.size w0 w' ∧ KeepBut w w' g none := by
  have HI0 := Aside0.mk hI
  have HK := Aside0.mk (KeepBut.refl w g none)
  have HL := Aside0.mk hB.size
  clear hI
  have HW0 := Aside0.mk hB.size
  have HB := Aside0.mk hB
  clear hB
  have H : ((firkinref01_S_Num.f s0_0 s0_1).bind fun bt323 => (if (Int.tmod bt323.1 2) = 1 then (some (wrap64 ((wrap64 (-(wrap64 (IntKind.u64.wrap (Int.tdiv bt323.1 2))))) - 1), bt323.2.1, bt323.2.2)) else (some (wrap64 (IntKind.u64.wrap (Int.tdiv bt323.1 2)), bt323.2.1, bt323.2.2)))) = some (r1, r2, r3) := h
  clear h
  replace H := Option.bind_eq_some_iff.mp H
  obtain ⟨⟨t323, t324, t325⟩, A20, H⟩ := H
  replace H : (if (Int.tmod t323 2) = 1 then (some (wrap64 ((wrap64 (-(wrap64 (IntKind.u64.wrap (Int.tdiv t323 2))))) - 1), t324, t325)) else (some (wrap64 (IntKind.u64.wrap (Int.tdiv t323 2)), t324, t325))) = some (r1, r2, r3) := H
  have A2 := Aside0.mk A20
  clear A20
  by_cases c3 : (Int.tmod t323 2) = 1
  · rw [if_pos c3] at H
    have c3b0 : ((Int.tmod t323 2) == 1) = true := beq_iff_eq.mpr c3
    have c3b1 : ((Int.tmod t323 2) != 1) = false := bne_eq_false_iff_eq.mpr c3
    clear c3
    simp only [Option.some.injEq, Prod.mk.injEq] at H
    obtain ⟨rfl, rfl, rfl⟩ := H
    go_enter Try.func52, Try.ntmps52
    go_wp2_with (first | ((with_reducible refine gate_callee (f := 79) rfl ?_); refine goesL_ (some 5) rfl rfl Try.func79 (by kernel_rfl) rfl #[.pointer (some ⟨g, 0, none⟩)] rfl (by (try simp only [List.map_toArray, List.map_cons, List.map_nil]); first | done | rfl | (simp only [List.length_drop, List.length_take]; rfl)) ?_; (with_reducible refine (firkinref01_S_Num.calls g s0_0 s0_1 t323 t324 t325 w0 _ ?side1 ?side2 A2.out).mono ?_); (case side1 => repeat (first | (with_reducible first | exact HI0.out | apply IsS39.alloc | apply IsS39.drewN | apply IsS39.drew | apply IsS39.set_0 | apply IsS39.set_1) | exact HI0.out)); (case side2 => repeat (first | (with_reducible first | exact HB.out | apply below_alloc | apply pw_below_drewN | apply below_drew1 | refine below_set ?_ (IsS39.ge HI0.out)) | exact HB.out)); rintro e w4 ⟨rfl, hi, hb, hk⟩; refine ⟨_, rfl, ?_⟩; have n0_ := Aside0.mk (KeepBut.trans (by repeat (first | (with_reducible first | exact HK.out | apply KeepBut.set_ | apply keep_drewN | apply keep_drew | apply keep_alloc) | exact HK.out)) hk (.inl rfl)); have n1_ := Aside0.mk (hb); have n2_ := Aside0.mk (hi); clear HK; clear HB; clear HI0; have HK := n0_; have HB := n1_; have HI0 := n2_; clear n0_ n1_ n2_; (try clear hb); (try clear hb2); (try clear hk); (try clear hi)))
    go_ret
    exact ⟨by first | rfl | (simp [errW_none, errW_some] <;> rfl) | (simp [*, errW_none, errW_some] <;> rfl), by repeat (first | (with_reducible first | exact HI0.out | apply IsS39.alloc | apply IsS39.drewN | apply IsS39.drew | apply IsS39.set_0 | apply IsS39.set_1) | exact HI0.out), by repeat (first | (with_reducible first | exact HB.out | apply below_alloc | apply pw_below_drewN | apply below_drew1 | refine below_set ?_ (IsS39.ge HI0.out)) | exact HB.out), by repeat (first | (with_reducible first | exact HK.out | apply KeepBut.set_ | apply keep_drewN | apply keep_drew | apply keep_alloc) | exact HK.out)⟩
  · rw [if_neg c3] at H
    have c3b0 : ((Int.tmod t323 2) == 1) = false := beq_eq_false_iff_ne.mpr c3
    have c3b1 : ((Int.tmod t323 2) != 1) = true := bne_iff_ne.mpr c3
    simp only [Option.some.injEq, Prod.mk.injEq] at H
    obtain ⟨rfl, rfl, rfl⟩ := H
    go_enter Try.func52, Try.ntmps52
    go_wp2_with (first | ((with_reducible refine gate_callee (f := 79) rfl ?_); refine goesL_ (some 5) rfl rfl Try.func79 (by kernel_rfl) rfl #[.pointer (some ⟨g, 0, none⟩)] rfl (by (try simp only [List.map_toArray, List.map_cons, List.map_nil]); first | done | rfl | (simp only [List.length_drop, List.length_take]; rfl)) ?_; (with_reducible refine (firkinref01_S_Num.calls g s0_0 s0_1 t323 t324 t325 w0 _ ?side1 ?side2 A2.out).mono ?_); (case side1 => repeat (first | (with_reducible first | exact HI0.out | apply IsS39.alloc | apply IsS39.drewN | apply IsS39.drew | apply IsS39.set_0 | apply IsS39.set_1) | exact HI0.out)); (case side2 => repeat (first | (with_reducible first | exact HB.out | apply below_alloc | apply pw_below_drewN | apply below_drew1 | refine below_set ?_ (IsS39.ge HI0.out)) | exact HB.out)); rintro e w5 ⟨rfl, hi, hb, hk⟩; refine ⟨_, rfl, ?_⟩; have n0_ := Aside0.mk (KeepBut.trans (by repeat (first | (with_reducible first | exact HK.out | apply KeepBut.set_ | apply keep_drewN | apply keep_drew | apply keep_alloc) | exact HK.out)) hk (.inl rfl)); have n1_ := Aside0.mk (hb); have n2_ := Aside0.mk (hi); clear HK; clear HB; clear HI0; have HK := n0_; have HB := n1_; have HI0 := n2_; clear n0_ n1_ n2_; (try clear hb); (try clear hb2); (try clear hk); (try clear hi)))
    go_ret
    exact ⟨by first | rfl | (simp [errW_none, errW_some] <;> rfl) | (simp [*, errW_none, errW_some] <;> rfl), by repeat (first | (with_reducible first | exact HI0.out | apply IsS39.alloc | apply IsS39.drewN | apply IsS39.drew | apply IsS39.set_0 | apply IsS39.set_1) | exact HI0.out), by repeat (first | (with_reducible first | exact HB.out | apply below_alloc | apply pw_below_drewN | apply below_drew1 | refine below_set ?_ (IsS39.ge HI0.out)) | exact HB.out), by repeat (first | (with_reducible first | exact HK.out | apply KeepBut.set_ | apply keep_drewN | apply keep_drew | apply keep_alloc) | exact HK.out)⟩

end Go.Proofs.Ytbbffnlefmogbaa.X
-- Printed for this claim by a program of this session (wip/xprint.py) over the kit's printer; Lean checks it.
namespace Go.Proofs.Ytbbffnlefmogbaa.X
open Go.RowKit Go.Proofs.YtbbffnlefmogbaaW.PrintWords Go.Proofs.YtbbffnlefmogbaaW.PrintLast Go.Proofs.YtbbffnlefmogbaaW.PrintMore
attribute [local go_sem] max2_int min2_int max_two min_two max_three min_three max_four min_four   -- for this text's walks alone
set_option linter.unusedVariables false
set_option linter.unusedSimpArgs false

/-! ### firkinref07_Put: function 14 -/
mutual
def firkinref07_Put.l0 : Nat → List Int → Int → Int → Int → Option (List Int)
  | 0, _, _, _, _ => none
  | k + 1, x0, x3, x4, x5 => if x5 < (x0.length : Int) then (if 0 ≤ x5 then (if (rd x0 x5) < x3 then (if (rd x0 x5) > x4 then (firkinref07_Put.l0 k x0 (rd x0 x5) (rd x0 x5) (wrap64 (x5 + 1))) else (firkinref07_Put.l0 k x0 (rd x0 x5) x4 (wrap64 (x5 + 1)))) else (if (rd x0 x5) > x4 then (firkinref07_Put.l0 k x0 x3 (rd x0 x5) (wrap64 (x5 + 1))) else (firkinref07_Put.l0 k x0 x3 x4 (wrap64 (x5 + 1))))) else (none)) else ((firkinref07_need.f k (IntKind.u64.wrap ((IntKind.u64.wrap (x4)) - (IntKind.u64.wrap (x3))))).bind fun t308 => ((firkinref01_Int.f k x3).bind fun t309 => (if t309.length < 140737488355328 then (firkinref07_Put.l1 k x0 x3 t308 (t309 ++ [(t308) % 256]) 0 0) else (none))))
def firkinref07_Put.l1 : Nat → List Int → Int → Int → List Int → Int → Int → Option (List Int)
  | 0, _, _, _, _, _, _ => none
  | k + 1, x0, x3, x6, x7, x8, x9 => if x9 < (x0.length : Int) then (if 0 ≤ x9 then (firkinref07_Put.l2 k x0 x3 x6 x7 x8 x9 (IntKind.u64.wrap ((IntKind.u64.wrap (rd x0 x9)) - (IntKind.u64.wrap (x3)))) 0) else (none)) else (some x7)
def firkinref07_Put.l2 : Nat → List Int → Int → Int → List Int → Int → Int → Int → Int → Option (List Int)
  | 0, _, _, _, _, _, _, _, _ => none
  | k + 1, x0, x3, x6, x7, x8, x9, x10, x11 => if x11 < x6 then (if (Int.tmod x8 8) = 0 then (if x7.length < 140737488355328 then ((some (x7 ++ [0] : List Int)).bind fun y316 => (if 0 ≤ (wrap64 ((y316.length : Int) - 1)) then (if (wrap64 ((y316.length : Int) - 1)) < (y316.length : Int) then (if 0 ≤ (Int.tmod x8 8) then (firkinref07_Put.l2 k x0 x3 x6 (y316.set ((wrap64 ((y316.length : Int) - 1)) : Int).toNat (((rd y316 (wrap64 ((y316.length : Int) - 1))) + (shl .u8 ((Int.tmod x10 2) % 256) (Int.tmod x8 8))) % 256)) (wrap64 (x8 + 1)) x9 (IntKind.u64.wrap (Int.tdiv x10 2)) (wrap64 (x11 + 1))) else (none)) else (none)) else (none))) else (none)) else (if 0 ≤ (wrap64 ((x7.length : Int) - 1)) then (if (wrap64 ((x7.length : Int) - 1)) < (x7.length : Int) then (if 0 ≤ (Int.tmod x8 8) then (firkinref07_Put.l2 k x0 x3 x6 (x7.set ((wrap64 ((x7.length : Int) - 1)) : Int).toNat (((rd x7 (wrap64 ((x7.length : Int) - 1))) + (shl .u8 ((Int.tmod x10 2) % 256) (Int.tmod x8 8))) % 256)) (wrap64 (x8 + 1)) x9 (IntKind.u64.wrap (Int.tdiv x10 2)) (wrap64 (x11 + 1))) else (none)) else (none)) else (none))) else (firkinref07_Put.l1 k x0 x3 x6 x7 x8 (wrap64 (x9 + 1)))
end
def firkinref07_Put.f (k : Nat) (l0 : List Int) : Option (List Int) := if (l0.length : Int) = 0 then (some ([] : List Int)) else (if 0 < (l0.length : Int) then (firkinref07_Put.l0 k l0 (rd l0 0) (rd l0 0) 0) else (none))
theorem firkinref07_Put.mono_l : ∀ k, (∀ y0 y1 y2 y3, LeO (firkinref07_Put.l0 k y0 y1 y2 y3) (firkinref07_Put.l0 (k + 1) y0 y1 y2 y3)) ∧ (∀ y0 y1 y2 y3 y4 y5, LeO (firkinref07_Put.l1 k y0 y1 y2 y3 y4 y5) (firkinref07_Put.l1 (k + 1) y0 y1 y2 y3 y4 y5)) ∧ (∀ y0 y1 y2 y3 y4 y5 y6 y7, LeO (firkinref07_Put.l2 k y0 y1 y2 y3 y4 y5 y6 y7) (firkinref07_Put.l2 (k + 1) y0 y1 y2 y3 y4 y5 y6 y7))
  | 0 => ⟨fun _ _ _ _ r h => by simp [firkinref07_Put.l0] at h, fun _ _ _ _ _ _ r h => by simp [firkinref07_Put.l1] at h, fun _ _ _ _ _ _ _ _ r h => by simp [firkinref07_Put.l2] at h⟩
  | k + 1 => by
    obtain ⟨ih0, ih1, ih2⟩ := firkinref07_Put.mono_l k
    refine ⟨?_, ?_, ?_⟩
    · intro y0 y1 y2 y3
      unfold firkinref07_Put.l0
      repeat' first
      | (with_reducible exact ih0 _ _ _ _)
      | (with_reducible exact ih1 _ _ _ _ _ _)
      | (with_reducible exact ih2 _ _ _ _ _ _ _ _)
      | (with_reducible exact firkinref01_Int.mono _ _)
      | (with_reducible exact firkinref07_need.mono _ _)
      | (with_reducible exact LeO.refl _)
      | (with_reducible exact LeO.none _)
      | (with_reducible refine LeO.ite ?_ ?_)
      | (with_reducible refine LeO.bind ?_ (fun _ => ?_))
      | exact ih0 _ _ _ _
      | exact ih1 _ _ _ _ _ _
      | exact ih2 _ _ _ _ _ _ _ _
      | exact firkinref01_Int.mono _ _
      | exact firkinref07_need.mono _ _
      | exact LeO.none _
      | refine LeO.ite ?_ ?_
      | refine LeO.bind ?_ (fun _ => ?_)
    · intro y0 y1 y2 y3 y4 y5
      unfold firkinref07_Put.l1
      repeat' first
      | (with_reducible exact ih0 _ _ _ _)
      | (with_reducible exact ih1 _ _ _ _ _ _)
      | (with_reducible exact ih2 _ _ _ _ _ _ _ _)
      | (with_reducible exact firkinref01_Int.mono _ _)
      | (with_reducible exact firkinref07_need.mono _ _)
      | (with_reducible exact LeO.refl _)
      | (with_reducible exact LeO.none _)
      | (with_reducible refine LeO.ite ?_ ?_)
      | (with_reducible refine LeO.bind ?_ (fun _ => ?_))
      | exact ih0 _ _ _ _
      | exact ih1 _ _ _ _ _ _
      | exact ih2 _ _ _ _ _ _ _ _
      | exact firkinref01_Int.mono _ _
      | exact firkinref07_need.mono _ _
      | exact LeO.none _
      | refine LeO.ite ?_ ?_
      | refine LeO.bind ?_ (fun _ => ?_)
    · intro y0 y1 y2 y3 y4 y5 y6 y7
      unfold firkinref07_Put.l2
      repeat' first
      | (with_reducible exact ih0 _ _ _ _)
      | (with_reducible exact ih1 _ _ _ _ _ _)
      | (with_reducible exact ih2 _ _ _ _ _ _ _ _)
      | (with_reducible exact firkinref01_Int.mono _ _)
      | (with_reducible exact firkinref07_need.mono _ _)
      | (with_reducible exact LeO.refl _)
      | (with_reducible exact LeO.none _)
      | (with_reducible refine LeO.ite ?_ ?_)
      | (with_reducible refine LeO.bind ?_ (fun _ => ?_))
      | exact ih0 _ _ _ _
      | exact ih1 _ _ _ _ _ _
      | exact ih2 _ _ _ _ _ _ _ _
      | exact firkinref01_Int.mono _ _
      | exact firkinref07_need.mono _ _
      | exact LeO.none _
      | refine LeO.ite ?_ ?_
      | refine LeO.bind ?_ (fun _ => ?_)
theorem firkinref07_Put.mono : ∀ a0 k, LeO (firkinref07_Put.f k a0) (firkinref07_Put.f (k + 1) a0) := by
  intro a0 k
  obtain ⟨ih0, ih1, ih2⟩ := firkinref07_Put.mono_l k
  unfold firkinref07_Put.f
  repeat' first
      | (with_reducible exact ih0 _ _ _ _)
      | (with_reducible exact ih1 _ _ _ _ _ _)
      | (with_reducible exact ih2 _ _ _ _ _ _ _ _)
      | (with_reducible exact firkinref01_Int.mono _ _)
      | (with_reducible exact firkinref07_need.mono _ _)
      | (with_reducible exact LeO.refl _)
      | (with_reducible exact LeO.none _)
      | (with_reducible refine LeO.ite ?_ ?_)
      | (with_reducible refine LeO.bind ?_ (fun _ => ?_))
      | exact ih0 _ _ _ _
      | exact ih1 _ _ _ _ _ _
      | exact ih2 _ _ _ _ _ _ _ _
      | exact firkinref01_Int.mono _ _
      | exact firkinref07_need.mono _ _
      | exact LeO.none _
      | refine LeO.ite ?_ ?_
      | refine LeO.bind ?_ (fun _ => ?_)
def firkinref07_Put.T3 : Bool × List (List Nat × List Nat) := (true, [([], []), ([0], [0]), ([1], [1]), ([], []), ([3], [3]), ([4], [4]), ([2, 0, 1, 2], [2]), ([5, 6, 0, 1, 2, 3, 4, 5, 6], [5])])
def firkinref07_Put.B3 : List Nat := [0, 1, 3, 0, 8, 24, 7, 127]
theorem firkinref07_Put.tab3 : rtab .any (opsOf Try.f14 3) = firkinref07_Put.T3 := by kernel_rfl
theorem firkinref07_Put.bits3 : waitsOk firkinref07_Put.T3.2 firkinref07_Put.B3 = true := by kernel_rfl
def firkinref07_Put.T23 : Bool × List (List Nat × List Nat) := (true, [([], []), ([], []), ([1], [1]), ([2], [2]), ([], []), ([], []), ([5], [5]), ([6], [6]), ([4, 7], [4, 7]), ([8], [8]), ([], []), ([10], [10]), ([11], [11]), ([], []), ([13], [13]), ([12, 14], [12, 14]), ([9, 15], [9, 15]), ([0, 3, 0, 1, 2, 3, 4, 5, 6, 7, 8, 9, 10, 11, 12, 13, 14, 15, 16], [0, 3]), ([17, 16, 0, 1, 2, 3, 4, 5, 6, 7, 8, 9, 10, 11, 12, 13, 14, 15, 16], [16, 17])])
def firkinref07_Put.B23 : List Nat := [0, 0, 2, 6, 0, 0, 32, 96, 240, 496, 0, 1024, 3072, 0, 8192, 31744, 65520, 131071, 262143]
theorem firkinref07_Put.tab23 : rtab .any (opsOf Try.f14 23) = firkinref07_Put.T23 := by kernel_rfl
theorem firkinref07_Put.bits23 : waitsOk firkinref07_Put.T23.2 firkinref07_Put.B23 = true := by kernel_rfl
set_option maxHeartbeats 8000000 in
set_option maxRecDepth 100000 in
theorem firkinref07_Put.calls (k : Nat) (A0 : Option Addr) (c0 : Nat) (l0 : List Int) (r : List Int) (w : World) (hr0 : Kd.C (Kd.int .i64) w A0 l0.length l0) (hc0 : l0.length ≤ c0) (h : firkinref07_Put.f k l0 = some r) :
    Calls Try.prog 14 #[.slice A0 l0.length c0] w fun e w' => ∃ v0_ : Value, e = .returned (v0_) ∧ Kd.R (Kd.int .u8) 5 w' w.heap.size (fun _ => True) v0_ r ∧ Below w.heap.size w w' := by
  have HR0 := Aside0.mk hr0
  have HC0 := Aside0.mk hc0
  clear hr0 hc0
  have HB := Aside0.mk (Below.refl w.heap.size w)
  have H : (if (l0.length : Int) = 0 then (some ([] : List Int)) else (if 0 < (l0.length : Int) then (firkinref07_Put.l0 k l0 (rd l0 0) (rd l0 0) 0) else (none))) = some r := h
  clear h
  by_cases c2 : (l0.length : Int) = 0
  · rw [if_pos c2] at H
    have c2b0 : ((l0.length : Int) == 0) = true := beq_iff_eq.mpr c2
    have c2b1 : ((l0.length : Int) != 0) = false := bne_eq_false_iff_eq.mpr c2
    clear c2
    obtain rfl := Option.some.inj H
    go_enter Try.func14, Try.ntmps14
    go_wp2
    go_ret
    exact ⟨_, by first | rfl | (simp [errW_none, errW_some] <;> rfl) | (simp [*, errW_none, errW_some] <;> rfl), by first | exact Kd.R_nil _ _ _ _ _ | exact Kd.N_nil _ _ _ _ _ | exact Kd.V_nil _ _ _ _ _ | exact Kd.Q_nil _ _ _ _ _ | exact Kd.S_nil _ _ _ _ _, by repeat (first | (with_reducible first | exact HB.out | apply below_alloc | apply pw_below_drewN | apply below_drew1) | exact HB.out)⟩
  · rw [if_neg c2] at H
    have c2b0 : ((l0.length : Int) == 0) = false := beq_eq_false_iff_ne.mpr c2
    have c2b1 : ((l0.length : Int) != 0) = true := bne_iff_ne.mpr c2
    have c2b2 : ¬ (l0 = []) := fun h_ => c2 (by rw [h_]; rfl)
    by_cases c3 : 0 < (l0.length : Int)
    · rw [if_pos c3] at H
      have c3b0 : decide (0 < (l0.length : Int)) = true := decide_eq_true c3
      have c3b1 : decide (0 < l0.length) = true := decide_eq_true (by omega)
      clear c3
      have H' := Aside0.mk H
      clear H
      go_enter Try.func14, Try.ntmps14
      try go_wp2
      have n0_ := Aside0.mk (below_drew1 HB.out)
      clear HB
      have HB := n0_
      clear n0_
      have p300 : 0 ≤ (0 : Int) := (by omega)
      have q300 : 0 < (l0.length : Int) := of_decide_eq_true (by first | (with_reducible assumption) | assumption)
      obtain ⟨ad300, e300, hx300_0⟩ := Kd.at_int HR0.out 0 p300 q300
      have hw300_0 := hx300_0
      (try rw [show ((0 : Int)).toNat = 0 from rfl] at hw300_0)
      (try rw [show 0 * 1 = 0 from rfl] at hw300_0)
      (try rw [Addr.add_zero'] at hw300_0)
      cases e300
      have qi300 : (0 < l0.length) = True := eq_true (by omega)
      (try rw [show ((0 : Int)).toNat = 0 from rfl] at hx300_0)
      (try rw [Addr.add_zero'] at hx300_0)
      replace hx300_0 := (HB.out.cell (World.block_lt_of_cell? w _ hx300_0)).trans hx300_0
      replace p300 := eq_true p300
      replace q300 := eq_true q300
      have p301 : 0 ≤ (0 : Int) := (by omega)
      have q301 : 0 < (l0.length : Int) := of_decide_eq_true (by first | (with_reducible assumption) | assumption)
      obtain ⟨ad301, e301, hx301_0⟩ := Kd.at_int HR0.out 0 p301 q301
      have hw301_0 := hx301_0
      (try rw [show ((0 : Int)).toNat = 0 from rfl] at hw301_0)
      (try rw [show 0 * 1 = 0 from rfl] at hw301_0)
      (try rw [Addr.add_zero'] at hw301_0)
      obtain rfl : ad300 = ad301 := (by injection e301)
      have qi301 : (0 < l0.length) = True := eq_true (by omega)
      (try rw [show ((0 : Int)).toNat = 0 from rfl] at hx301_0)
      (try rw [Addr.add_zero'] at hx301_0)
      replace hx301_0 := (HB.out.cell (World.block_lt_of_cell? w _ hx301_0)).trans hx301_0
      replace p301 := eq_true p301
      replace q301 := eq_true q301
      refine start_ (n := 8) (S := fun w' => w'.cell? ad300 = some (.int .i64 (rd l0 0)) ∧ w'.cell? ad300 = some (.int .i64 (rd l0 0))) (ds := []) #[false, false, false, false, false, false, false, false] (by kernel_rfl) rfl rfl ⟨((HB.out.cell (World.block_lt_of_cell? w _ hw300_0)).trans hw300_0), ((HB.out.cell (World.block_lt_of_cell? w _ hw301_0)).trans hw301_0)⟩ (fun hHeld => ?_); refine with_tabW firkinref07_Put.tab3 firkinref07_Put.bits3 (fun HT_ HW_ => ?_)
      generalize w.drew = w4 at HB hx300_0 hx301_0 hHeld ⊢
      refine pure_ (i := 0) (N := some 15) (v := ?_) (a' := ?_) #[true, false, false, false, false, false, false, false] rfl rfl (any_of HT_.out (by kernel_rfl)) (fun _ _ _ h => h) (Or.inl ⟨by rfl, ?_⟩) ?_ ?_
      rotate_left
      · intro w'
        go_simp
        with_reducible rfl
      rotate_left
      · simp only [Act.put, List.setIfInBounds_toArray, List.set_cons_zero, List.set_cons_succ, i64_w, i32_w]
        rfl
      refine pure_ (i := 1) (N := some 16) (v := ?_) (a' := ?_) #[true, true, false, false, false, false, false, false] rfl rfl (any_of HT_.out (by kernel_rfl)) (fun _ _ _ h => h) (Or.inl ⟨by rfl, ?_⟩) ?_ ?_
      rotate_left
      · intro w'
        go_simp
        with_reducible rfl
      rotate_left
      · simp only [Act.put, List.setIfInBounds_toArray, List.set_cons_zero, List.set_cons_succ, i64_w, i32_w]
        rfl
      refine pure_ (i := 3) (N := some 18) (v := ?_) (a' := ?_) #[true, true, false, true, false, false, false, false] rfl rfl (any_of HT_.out (by kernel_rfl)) (fun _ _ _ h => h) (Or.inl ⟨by rfl, ?_⟩) ?_ ?_
      rotate_left
      · intro w'
        go_simp
        with_reducible rfl
      rotate_left
      · simp only [Act.put, List.setIfInBounds_toArray, List.set_cons_zero, List.set_cons_succ, i64_w, i32_w]
        rfl
      refine pure_ (i := 4) (N := some 19) (v := ?_) (a' := ?_) #[true, true, false, true, true, false, false, false] rfl rfl (any_of HT_.out (by kernel_rfl)) (fun _ _ _ h => h) (Or.inl ⟨by rfl, ?_⟩) ?_ ?_
      rotate_left
      · intro w'
        go_simp
        with_reducible rfl
      rotate_left
      · simp only [Act.put, List.setIfInBounds_toArray, List.set_cons_zero, List.set_cons_succ, i64_w, i32_w]
        rfl
      refine take_ (i := 2) (N := some 17) (v := ?_) (a' := ?_) #[true, true, true, true, true, false, false, false] rfl rfl (take_ofW HT_.out HW_.out (by kernel_rfl)) (fun _ _ _ h => h) (Or.inl ⟨by rfl, ?_⟩) hHeld ?_ ?_
      rotate_left
      · rintro w' ⟨s0, s1⟩
        go_simp
        with_reducible rfl
      rotate_left
      · simp only [Act.put, List.setIfInBounds_toArray, List.set_cons_zero, List.set_cons_succ, i64_w, i32_w]
        rfl
      refine pure_ (i := 6) (N := some 3) (v := ?_) (a' := ?_) #[true, true, true, true, true, false, true, false] rfl rfl (any_of HT_.out (by kernel_rfl)) (fun _ _ _ h => h) (Or.inl ⟨by rfl, ?_⟩) ?_ ?_
      rotate_left
      · intro w'
        go_simp
        with_reducible rfl
      rotate_left
      · simp only [Act.put, List.setIfInBounds_toArray, List.set_cons_zero, List.set_cons_succ, i64_w, i32_w]
        rfl
      refine take_ (i := 5) (N := some 20) (v := ?_) (a' := ?_) #[true, true, true, true, true, true, true, false] rfl rfl (take_ofW HT_.out HW_.out (by kernel_rfl)) (fun _ _ _ h => h) (Or.inl ⟨by rfl, ?_⟩) hHeld ?_ ?_
      rotate_left
      · rintro w' ⟨s0, s1⟩
        go_simp
        with_reducible rfl
      rotate_left
      · simp only [Act.put, List.setIfInBounds_toArray, List.set_cons_zero, List.set_cons_succ, i64_w, i32_w]
        rfl
      refine pure_ (i := 7) (N := some 4) (v := ?_) (a' := ?_) #[true, true, true, true, true, true, true, true] rfl rfl (any_of HT_.out (by kernel_rfl)) (fun _ _ _ h => h) (Or.inl ⟨by rfl, ?_⟩) ?_ ?_
      rotate_left
      · intro w'
        go_simp
        with_reducible rfl
      rotate_left
      · simp only [Act.put, List.setIfInBounds_toArray, List.set_cons_zero, List.set_cons_succ, i64_w, i32_w]
        rfl
      refine done_ (done_of HT_.out (by kernel_rfl)) ?_
      try go_wp2
      go_loopg [3, 4, 5] k (fun kq v3 v4 v5 w' => ∃ (x3_1 : Int) (x4_1 : Int) (x5_1 : Int), v3 = .int .i64 x3_1 ∧ v4 = .int .i64 x4_1 ∧ v5 = .int .i64 x5_1 ∧ Aside0 (firkinref07_Put.l0 kq l0 x3_1 x4_1 x5_1 = some r) ∧ Aside0 (kq ≤ k) ∧ Aside0 (Below w.heap.size w w'))
      case atStart => exact ⟨(rd l0 0), (rd l0 0), (0), (by first | rfl | (simp; done) | (simp [*]; done)), (by first | rfl | (simp; done) | (simp [*]; done)), (by first | rfl | (simp; done) | (simp [*]; done)), H', ⟨Nat.le_refl _⟩, ⟨by repeat (first | (with_reducible first | exact HB.out | apply below_alloc | apply pw_below_drewN | apply below_drew1) | exact HB.out)⟩⟩
      case round =>
        clear H'
        try clear c1
        try clear c2
        try clear c2b0
        try clear c2b1
        try clear c2b2
        try clear p2
        try clear c3
        try clear c3b0
        try clear c3b1
        try clear p3
        try clear q3
        try clear hx3
        try clear qi3
        try clear hx300_0
        try clear hx301_0
        try clear p300
        try clear p301
        try clear q300
        try clear q301
        obtain ⟨x3_1, x4_1, x5_1, rfl, rfl, rfl, HA, HK1, HB⟩ := hrel
        cases gk with
        | zero => exact absurd HA.out (by simp [firkinref07_Put.l0])
        | succ k1 =>
          have H := HA.out
          clear HA
          simp only [firkinref07_Put.l0] at H
          by_cases c5 : x5_1 < (l0.length : Int)
          · rw [if_pos c5] at H
            have c5b0 : decide (x5_1 < (l0.length : Int)) = true := decide_eq_true c5
            clear c5
            by_cases c6 : 0 ≤ x5_1
            · rw [if_pos c6] at H
              have c6b0 : decide (0 ≤ x5_1) = true := decide_eq_true c6
              clear c6
              by_cases c7 : (rd l0 x5_1) < x3_1
              · rw [if_pos c7] at H
                have c7b0 : decide ((rd l0 x5_1) < x3_1) = true := decide_eq_true c7
                clear c7
                by_cases c8 : (rd l0 x5_1) > x4_1
                · rw [if_pos c8] at H
                  have c8b0 : decide (x4_1 < (rd l0 x5_1)) = true := decide_eq_true c8
                  clear c8
                  have H' := Aside0.mk H
                  clear H
                  have p302 : 0 ≤ (x5_1 : Int) := of_decide_eq_true (by first | (with_reducible assumption) | assumption)
                  have q302 : x5_1 < (l0.length : Int) := of_decide_eq_true (by first | (with_reducible assumption) | assumption)
                  obtain ⟨ad302, e302, hx302_0⟩ := Kd.at_int HR0.out x5_1 p302 q302
                  obtain rfl : ad300 = ad302 := (by injection e302)
                  replace hx302_0 := (HB.out.cell (World.block_lt_of_cell? w _ hx302_0)).trans hx302_0
                  replace p302 := eq_true p302
                  replace q302 := eq_true q302
                  have p303 : 0 ≤ (x5_1 : Int) := of_decide_eq_true (by first | (with_reducible assumption) | assumption)
                  have q303 : x5_1 < (l0.length : Int) := of_decide_eq_true (by first | (with_reducible assumption) | assumption)
                  obtain ⟨ad303, e303, hx303_0⟩ := Kd.at_int HR0.out x5_1 p303 q303
                  obtain rfl : ad300 = ad303 := (by injection e303)
                  replace hx303_0 := (HB.out.cell (World.block_lt_of_cell? w _ hx303_0)).trans hx303_0
                  replace p303 := eq_true p303
                  replace q303 := eq_true q303
                  have p304 : 0 ≤ (x5_1 : Int) := of_decide_eq_true (by first | (with_reducible assumption) | assumption)
                  have q304 : x5_1 < (l0.length : Int) := of_decide_eq_true (by first | (with_reducible assumption) | assumption)
                  obtain ⟨ad304, e304, hx304_0⟩ := Kd.at_int HR0.out x5_1 p304 q304
                  obtain rfl : ad300 = ad304 := (by injection e304)
                  replace hx304_0 := (HB.out.cell (World.block_lt_of_cell? w _ hx304_0)).trans hx304_0
                  replace p304 := eq_true p304
                  replace q304 := eq_true q304
                  have p305 : 0 ≤ (x5_1 : Int) := of_decide_eq_true (by first | (with_reducible assumption) | assumption)
                  have q305 : x5_1 < (l0.length : Int) := of_decide_eq_true (by first | (with_reducible assumption) | assumption)
                  obtain ⟨ad305, e305, hx305_0⟩ := Kd.at_int HR0.out x5_1 p305 q305
                  obtain rfl : ad300 = ad305 := (by injection e305)
                  replace hx305_0 := (HB.out.cell (World.block_lt_of_cell? w _ hx305_0)).trans hx305_0
                  replace p305 := eq_true p305
                  replace q305 := eq_true q305
                  go_wp2
                  go_roundg k1
                  case measure => have := HK1.out; omega
                  case rel => exact ⟨(rd l0 x5_1), (rd l0 x5_1), (wrap64 (x5_1 + 1)), (by first | rfl | (simp; done) | (simp [*]; done)), (by first | rfl | (simp; done) | (simp [*]; done)), (by first | rfl | (simp; done) | (simp [*]; done)), H', ⟨by have := HK1.out; omega⟩, ⟨by repeat (first | (with_reducible first | exact HB.out | apply below_alloc | apply pw_below_drewN | apply below_drew1) | exact HB.out)⟩⟩
                · rw [if_neg c8] at H
                  have c8b0 : decide (x4_1 < (rd l0 x5_1)) = false := decide_eq_false c8
                  clear c8
                  have H' := Aside0.mk H
                  clear H
                  have p302 : 0 ≤ (x5_1 : Int) := of_decide_eq_true (by first | (with_reducible assumption) | assumption)
                  have q302 : x5_1 < (l0.length : Int) := of_decide_eq_true (by first | (with_reducible assumption) | assumption)
                  obtain ⟨ad302, e302, hx302_0⟩ := Kd.at_int HR0.out x5_1 p302 q302
                  obtain rfl : ad300 = ad302 := (by injection e302)
                  replace hx302_0 := (HB.out.cell (World.block_lt_of_cell? w _ hx302_0)).trans hx302_0
                  replace p302 := eq_true p302
                  replace q302 := eq_true q302
                  have p303 : 0 ≤ (x5_1 : Int) := of_decide_eq_true (by first | (with_reducible assumption) | assumption)
                  have q303 : x5_1 < (l0.length : Int) := of_decide_eq_true (by first | (with_reducible assumption) | assumption)
                  obtain ⟨ad303, e303, hx303_0⟩ := Kd.at_int HR0.out x5_1 p303 q303
                  obtain rfl : ad300 = ad303 := (by injection e303)
                  replace hx303_0 := (HB.out.cell (World.block_lt_of_cell? w _ hx303_0)).trans hx303_0
                  replace p303 := eq_true p303
                  replace q303 := eq_true q303
                  have p304 : 0 ≤ (x5_1 : Int) := of_decide_eq_true (by first | (with_reducible assumption) | assumption)
                  have q304 : x5_1 < (l0.length : Int) := of_decide_eq_true (by first | (with_reducible assumption) | assumption)
                  obtain ⟨ad304, e304, hx304_0⟩ := Kd.at_int HR0.out x5_1 p304 q304
                  obtain rfl : ad300 = ad304 := (by injection e304)
                  replace hx304_0 := (HB.out.cell (World.block_lt_of_cell? w _ hx304_0)).trans hx304_0
                  replace p304 := eq_true p304
                  replace q304 := eq_true q304
                  go_wp2
                  go_roundg k1
                  case measure => have := HK1.out; omega
                  case rel => exact ⟨(rd l0 x5_1), (x4_1), (wrap64 (x5_1 + 1)), (by first | rfl | (simp; done) | (simp [*]; done)), (by first | rfl | (simp; done) | (simp [*]; done)), (by first | rfl | (simp; done) | (simp [*]; done)), H', ⟨by have := HK1.out; omega⟩, ⟨by repeat (first | (with_reducible first | exact HB.out | apply below_alloc | apply pw_below_drewN | apply below_drew1) | exact HB.out)⟩⟩
              · rw [if_neg c7] at H
                have c7b0 : decide ((rd l0 x5_1) < x3_1) = false := decide_eq_false c7
                clear c7
                by_cases c9 : (rd l0 x5_1) > x4_1
                · rw [if_pos c9] at H
                  have c9b0 : decide (x4_1 < (rd l0 x5_1)) = true := decide_eq_true c9
                  clear c9
                  have H' := Aside0.mk H
                  clear H
                  have p302 : 0 ≤ (x5_1 : Int) := of_decide_eq_true (by first | (with_reducible assumption) | assumption)
                  have q302 : x5_1 < (l0.length : Int) := of_decide_eq_true (by first | (with_reducible assumption) | assumption)
                  obtain ⟨ad302, e302, hx302_0⟩ := Kd.at_int HR0.out x5_1 p302 q302
                  obtain rfl : ad300 = ad302 := (by injection e302)
                  replace hx302_0 := (HB.out.cell (World.block_lt_of_cell? w _ hx302_0)).trans hx302_0
                  replace p302 := eq_true p302
                  replace q302 := eq_true q302
                  have p306 : 0 ≤ (x5_1 : Int) := of_decide_eq_true (by first | (with_reducible assumption) | assumption)
                  have q306 : x5_1 < (l0.length : Int) := of_decide_eq_true (by first | (with_reducible assumption) | assumption)
                  obtain ⟨ad306, e306, hx306_0⟩ := Kd.at_int HR0.out x5_1 p306 q306
                  obtain rfl : ad300 = ad306 := (by injection e306)
                  replace hx306_0 := (HB.out.cell (World.block_lt_of_cell? w _ hx306_0)).trans hx306_0
                  replace p306 := eq_true p306
                  replace q306 := eq_true q306
                  have p307 : 0 ≤ (x5_1 : Int) := of_decide_eq_true (by first | (with_reducible assumption) | assumption)
                  have q307 : x5_1 < (l0.length : Int) := of_decide_eq_true (by first | (with_reducible assumption) | assumption)
                  obtain ⟨ad307, e307, hx307_0⟩ := Kd.at_int HR0.out x5_1 p307 q307
                  obtain rfl : ad300 = ad307 := (by injection e307)
                  replace hx307_0 := (HB.out.cell (World.block_lt_of_cell? w _ hx307_0)).trans hx307_0
                  replace p307 := eq_true p307
                  replace q307 := eq_true q307
                  go_wp2
                  go_roundg k1
                  case measure => have := HK1.out; omega
                  case rel => exact ⟨(x3_1), (rd l0 x5_1), (wrap64 (x5_1 + 1)), (by first | rfl | (simp; done) | (simp [*]; done)), (by first | rfl | (simp; done) | (simp [*]; done)), (by first | rfl | (simp; done) | (simp [*]; done)), H', ⟨by have := HK1.out; omega⟩, ⟨by repeat (first | (with_reducible first | exact HB.out | apply below_alloc | apply pw_below_drewN | apply below_drew1) | exact HB.out)⟩⟩
                · rw [if_neg c9] at H
                  have c9b0 : decide (x4_1 < (rd l0 x5_1)) = false := decide_eq_false c9
                  clear c9
                  have H' := Aside0.mk H
                  clear H
                  have p302 : 0 ≤ (x5_1 : Int) := of_decide_eq_true (by first | (with_reducible assumption) | assumption)
                  have q302 : x5_1 < (l0.length : Int) := of_decide_eq_true (by first | (with_reducible assumption) | assumption)
                  obtain ⟨ad302, e302, hx302_0⟩ := Kd.at_int HR0.out x5_1 p302 q302
                  obtain rfl : ad300 = ad302 := (by injection e302)
                  replace hx302_0 := (HB.out.cell (World.block_lt_of_cell? w _ hx302_0)).trans hx302_0
                  replace p302 := eq_true p302
                  replace q302 := eq_true q302
                  have p306 : 0 ≤ (x5_1 : Int) := of_decide_eq_true (by first | (with_reducible assumption) | assumption)
                  have q306 : x5_1 < (l0.length : Int) := of_decide_eq_true (by first | (with_reducible assumption) | assumption)
                  obtain ⟨ad306, e306, hx306_0⟩ := Kd.at_int HR0.out x5_1 p306 q306
                  obtain rfl : ad300 = ad306 := (by injection e306)
                  replace hx306_0 := (HB.out.cell (World.block_lt_of_cell? w _ hx306_0)).trans hx306_0
                  replace p306 := eq_true p306
                  replace q306 := eq_true q306
                  go_wp2
                  go_roundg k1
                  case measure => have := HK1.out; omega
                  case rel => exact ⟨(x3_1), (x4_1), (wrap64 (x5_1 + 1)), (by first | rfl | (simp; done) | (simp [*]; done)), (by first | rfl | (simp; done) | (simp [*]; done)), (by first | rfl | (simp; done) | (simp [*]; done)), H', ⟨by have := HK1.out; omega⟩, ⟨by repeat (first | (with_reducible first | exact HB.out | apply below_alloc | apply pw_below_drewN | apply below_drew1) | exact HB.out)⟩⟩
            · rw [if_neg c6] at H
              exact absurd H (by simp)
          · rw [if_neg c5] at H
            have c5b0 : decide (x5_1 < (l0.length : Int)) = false := decide_eq_false c5
            clear c5
            replace H := Option.bind_eq_some_iff.mp H
            obtain ⟨t308, A100, H⟩ := H
            replace H : ((firkinref01_Int.f k1 x3_1).bind fun t309 => (if t309.length < 140737488355328 then (firkinref07_Put.l1 k1 l0 x3_1 t308 (t309 ++ [(t308) % 256]) 0 0) else (none))) = some r := H
            have A10 := Aside0.mk A100
            clear A100
            replace H := Option.bind_eq_some_iff.mp H
            obtain ⟨t309, A110, H⟩ := H
            replace H : (if t309.length < 140737488355328 then (firkinref07_Put.l1 k1 l0 x3_1 t308 (t309 ++ [(t308) % 256]) 0 0) else (none)) = some r := H
            have A11 := Aside0.mk A110
            clear A110
            by_cases c12 : t309.length < 140737488355328
            · rw [if_pos c12] at H
              have LMc12 := Aside0.mk c12
              clear c12
              obtain ⟨y312, hy312⟩ : ∃ y_ : List Int, y_ = (t309 ++ [(t308) % 256]) := ⟨_, rfl⟩
              replace H : (firkinref07_Put.l1 k1 l0 x3_1 t308 y312 0 0) = some r := by first | (rw [hy312]; with_reducible exact H) | (have H2_ := (Option.bind_some _ _).symm.trans H; rw [hy312]; with_reducible exact H2_) | (have H2_ := (Option.bind_some _ _).symm.trans H; with_reducible exact H2_) | with_reducible exact H | (rw [hy312]; exact H) | exact H
              have Ny312 := Aside0.mk hy312
              clear hy312
              have H' := Aside0.mk H
              clear H
              go_wp2_with (first | ((with_reducible refine gate_callee (f := 50) rfl ?_); refine goesL_ (some 52) rfl rfl Try.func50 (by kernel_rfl) rfl #[.int .u64 (IntKind.u64.wrap ((IntKind.u64.wrap (x4_1)) - (IntKind.u64.wrap (x3_1))))] rfl (by (try simp only [List.map_toArray, List.map_cons, List.map_nil]); first | done | rfl | (simp only [List.length_drop, List.length_take]; rfl)) ?_; (with_reducible refine (firkinref07_need.calls k1 (IntKind.u64.wrap ((IntKind.u64.wrap (x4_1)) - (IntKind.u64.wrap (x3_1)))) t308 _ A10.out).mono ?_); rintro e w' ⟨rfl, ⟨nd, rfl⟩⟩; refine ⟨_, rfl, ?_⟩) | ((with_reducible refine gate_callee (f := 51) rfl ?_); refine goesL_ (some 54) rfl rfl Try.func51 (by kernel_rfl) rfl #[.int .i64 x3_1] rfl (by (try simp only [List.map_toArray, List.map_cons, List.map_nil]); first | done | rfl | (simp only [List.length_drop, List.length_take]; rfl)) ?_; (with_reducible refine (firkinref01_Int.calls k1 x3_1 t309 _ A11.out).mono ?_); rintro e w13 ⟨v310, rfl, ho0, hb⟩; refine ⟨_, rfl, ?_⟩; have n0_ := Aside0.mk (Kd.R_lower ho0 (below_size (by repeat (first | (with_reducible first | exact HB.out | apply below_alloc | apply pw_below_drewN | apply below_drew1) | exact HB.out)))); have n1_ := Aside0.mk (below_step (by repeat (first | (with_reducible first | exact HB.out | apply below_alloc | apply pw_below_drewN | apply below_drew1) | exact HB.out)) hb); clear HB; have HO311 := n0_; have HB := n1_; clear n0_ n1_; (try clear hb); (try clear hb2); (try clear hk); (try clear hi); (try clear ho0)) | ((with_reducible refine gate_builtin (b := .append) (xs := #[.tmp 54, .tmp 57]) rfl ?_); at_builtin; refine Kd.R_append (Kd.int .u8) (w0 := w) w.heap.size rfl (.tmp 54) (.tmp 57) 24 5 (.int .u8 0) 1 rfl Try.underlying24 info5 rfl (by decide) (by omega) v310 t309 ((t308) % 256) [.int .u8 ((t308) % 256)] (fun _ => True) (fun _ => False) rfl rfl ?aP (fun _ hk => hk.elim) ?aF ?aO ?aB ?aS ?aL ?_; (case aP => exact rfl); (case aB => exact (by repeat (first | (with_reducible first | exact HB.out | apply below_alloc | apply pw_below_drewN | apply below_drew1) | exact HB.out))); (case aF => exact (fun _ _ => trivial)); (case aO => exact (by (with_reducible repeat (first | apply Kd.R_alloc | apply Kd.R_drewN | apply Kd.R_drew)); exact HO311.out)); (case aS => exact (below_size (by repeat (first | (with_reducible first | exact HB.out | apply below_alloc | apply pw_below_drewN | apply below_drew1) | exact HB.out)))); (case aL => have := LMc12.out; omega); intro v313 w14 ho hb hg hat; rw [← Ny312.out] at ho; have n0_ := Aside0.mk (hb); have n1_ := Aside0.mk (ho); clear HB; clear HO311; have HB := n0_; have HO314 := n1_; clear n0_ n1_; clear ho hb hg hat))
              go_loopg [7, 8, 9] k1 (fun kq v7 v8 v9 w' => ∃ (x7_2 : List Int) (x8_2 : Int) (x9_2 : Int), v8 = .int .i64 x8_2 ∧ v9 = .int .i64 x9_2 ∧ Aside0 (firkinref07_Put.l1 kq l0 x3_1 t308 x7_2 x8_2 x9_2 = some r) ∧ Aside0 (kq ≤ k1) ∧ Aside0 (Kd.R (Kd.int .u8) 5 w' w.heap.size (fun _ => True) v7 x7_2) ∧ Aside0 (Below w.heap.size w w'))
              case atStart => exact ⟨(y312), (0), (0), (by first | rfl | (simp; done) | (simp [*]; done)), (by first | rfl | (simp; done) | (simp [*]; done)), H', ⟨Nat.le_refl _⟩, ⟨by (with_reducible repeat (first | apply Kd.R_alloc | apply Kd.R_drewN | apply Kd.R_drew)); exact HO314.out⟩, ⟨by repeat (first | (with_reducible first | exact HB.out | apply below_alloc | apply pw_below_drewN | apply below_drew1) | exact HB.out)⟩⟩
              case round =>
                clear H'
                try clear c1
                try clear c2
                try clear c2b0
                try clear c2b1
                try clear c2b2
                try clear p2
                try clear c3
                try clear c3b0
                try clear c3b1
                try clear p3
                try clear q3
                try clear hx3
                try clear qi3
                try clear c5
                try clear c5b0
                try clear c6
                try clear c6b0
                try clear p6
                try clear c7
                try clear c7b0
                try clear c8
                try clear c8b0
                try clear c9
                try clear c9b0
                try clear c12
                try clear c14
                try clear hx300_0
                try clear hx301_0
                try clear hx302_0
                try clear hx303_0
                try clear hx304_0
                try clear hx305_0
                try clear hx306_0
                try clear hx307_0
                try clear p2
                try clear p3
                try clear p300
                try clear p301
                try clear p302
                try clear p303
                try clear p304
                try clear p305
                try clear p306
                try clear p307
                try clear q3
                try clear q300
                try clear q301
                try clear q302
                try clear q303
                try clear q304
                try clear q305
                try clear q306
                try clear q307
                obtain ⟨x7_2, x8_2, x9_2, rfl, rfl, HA, HK2, HO_7, HB⟩ := hrel
                cases gk with
                | zero => exact absurd HA.out (by simp [firkinref07_Put.l1])
                | succ k2 =>
                  have H := HA.out
                  clear HA
                  simp only [firkinref07_Put.l1] at H
                  by_cases c15 : x9_2 < (l0.length : Int)
                  · rw [if_pos c15] at H
                    have c15b0 : decide (x9_2 < (l0.length : Int)) = true := decide_eq_true c15
                    clear c15
                    by_cases c16 : 0 ≤ x9_2
                    · rw [if_pos c16] at H
                      have c16b0 : decide (0 ≤ x9_2) = true := decide_eq_true c16
                      clear c16
                      have H' := Aside0.mk H
                      clear H
                      have p315 : 0 ≤ (x9_2 : Int) := of_decide_eq_true (by first | (with_reducible assumption) | assumption)
                      have q315 : x9_2 < (l0.length : Int) := of_decide_eq_true (by first | (with_reducible assumption) | assumption)
                      obtain ⟨ad315, e315, hx315_0⟩ := Kd.at_int HR0.out x9_2 p315 q315
                      obtain rfl : ad300 = ad315 := (by injection e315)
                      replace hx315_0 := (HB.out.cell (World.block_lt_of_cell? w _ hx315_0)).trans hx315_0
                      replace p315 := eq_true p315
                      replace q315 := eq_true q315
                      go_wp2
                      go_loopg [7, 8, 10, 11] k2 (fun kq v7 v8 v10 v11 w' => ∃ (x7_3 : List Int) (x8_3 : Int) (x10_3 : Int) (x11_3 : Int), v8 = .int .i64 x8_3 ∧ v10 = .int .u64 x10_3 ∧ v11 = .int .i64 x11_3 ∧ Aside0 (firkinref07_Put.l2 kq l0 x3_1 t308 x7_3 x8_3 x9_2 x10_3 x11_3 = some r) ∧ Aside0 (kq ≤ k2) ∧ Aside0 (Kd.R (Kd.int .u8) 5 w' w.heap.size (fun _ => True) v7 x7_3) ∧ Aside0 (Below w.heap.size w w'))
                      case atStart => exact ⟨(x7_2), (x8_2), (IntKind.u64.wrap ((IntKind.u64.wrap (rd l0 x9_2)) - (IntKind.u64.wrap (x3_1)))), (0), (by first | rfl | (simp; done) | (simp [*]; done)), (by first | rfl | (simp; done) | (simp [*]; done)), (by first | rfl | (simp; done) | (simp [*]; done)), H', ⟨Nat.le_refl _⟩, ⟨by (with_reducible repeat (first | apply Kd.R_alloc | apply Kd.R_drewN | apply Kd.R_drew)); exact HO_7.out⟩, ⟨by repeat (first | (with_reducible first | exact HB.out | apply below_alloc | apply pw_below_drewN | apply below_drew1) | exact HB.out)⟩⟩
                      case round =>
                        clear H'
                        try clear c1
                        try clear c2
                        try clear c2b0
                        try clear c2b1
                        try clear c2b2
                        try clear p2
                        try clear c3
                        try clear c3b0
                        try clear c3b1
                        try clear p3
                        try clear q3
                        try clear hx3
                        try clear qi3
                        try clear c5
                        try clear c5b0
                        try clear c6
                        try clear c6b0
                        try clear p6
                        try clear c7
                        try clear c7b0
                        try clear c8
                        try clear c8b0
                        try clear c9
                        try clear c9b0
                        try clear c12
                        try clear c14
                        try clear c15
                        try clear c15b0
                        try clear c16
                        try clear c16b0
                        try clear hx300_0
                        try clear hx301_0
                        try clear hx302_0
                        try clear hx303_0
                        try clear hx304_0
                        try clear hx305_0
                        try clear hx306_0
                        try clear hx307_0
                        try clear hx315_0
                        try clear p2
                        try clear p3
                        try clear p300
                        try clear p301
                        try clear p302
                        try clear p303
                        try clear p304
                        try clear p305
                        try clear p306
                        try clear p307
                        try clear p315
                        try clear p6
                        try clear q3
                        try clear q300
                        try clear q301
                        try clear q302
                        try clear q303
                        try clear q304
                        try clear q305
                        try clear q306
                        try clear q307
                        try clear q315
                        obtain ⟨x7_3, x8_3, x10_3, x11_3, rfl, rfl, rfl, HA, HK3, HO_7, HB⟩ := hrel
                        cases gk with
                        | zero => exact absurd HA.out (by simp [firkinref07_Put.l2])
                        | succ k3 =>
                          have H := HA.out
                          clear HA
                          simp only [firkinref07_Put.l2] at H
                          by_cases c17 : x11_3 < t308
                          · rw [if_pos c17] at H
                            have c17b0 : decide (x11_3 < t308) = true := decide_eq_true c17
                            clear c17
                            by_cases c18 : (Int.tmod x8_3 8) = 0
                            · rw [if_pos c18] at H
                              have c18b0 : ((Int.tmod x8_3 8) == 0) = true := beq_iff_eq.mpr c18
                              have c18b1 : ((Int.tmod x8_3 8) != 0) = false := bne_eq_false_iff_eq.mpr c18
                              clear c18
                              by_cases c19 : x7_3.length < 140737488355328
                              · rw [if_pos c19] at H
                                have LMc19 := Aside0.mk c19
                                clear c19
                                obtain ⟨y316, hy316⟩ : ∃ y_ : List Int, y_ = (x7_3 ++ [0]) := ⟨_, rfl⟩
                                replace H : (if 0 ≤ (wrap64 ((y316.length : Int) - 1)) then (if (wrap64 ((y316.length : Int) - 1)) < (y316.length : Int) then (if 0 ≤ (Int.tmod x8_3 8) then (firkinref07_Put.l2 k3 l0 x3_1 t308 (y316.set ((wrap64 ((y316.length : Int) - 1)) : Int).toNat (((rd y316 (wrap64 ((y316.length : Int) - 1))) + (shl .u8 ((Int.tmod x10_3 2) % 256) (Int.tmod x8_3 8))) % 256)) (wrap64 (x8_3 + 1)) x9_2 (IntKind.u64.wrap (Int.tdiv x10_3 2)) (wrap64 (x11_3 + 1))) else (none)) else (none)) else (none)) = some r := by first | (rw [hy316]; with_reducible exact H) | (have H2_ := (Option.bind_some _ _).symm.trans H; rw [hy316]; with_reducible exact H2_) | (have H2_ := (Option.bind_some _ _).symm.trans H; with_reducible exact H2_) | with_reducible exact H | (rw [hy316]; exact H) | exact H
                                have Ny316 := Aside0.mk hy316
                                clear hy316
                                obtain ⟨ji20, hji20⟩ : ∃ j_ : Int, (wrap64 ((y316.length : Int) - 1)) = j_ := ⟨_, rfl⟩
                                replace H : (if 0 ≤ (ji20) then (if (ji20) < (y316.length : Int) then (if 0 ≤ (Int.tmod x8_3 8) then (firkinref07_Put.l2 k3 l0 x3_1 t308 (y316.set ((ji20) : Int).toNat (((rd y316 (ji20)) + (shl .u8 ((Int.tmod x10_3 2) % 256) (Int.tmod x8_3 8))) % 256)) (wrap64 (x8_3 + 1)) x9_2 (IntKind.u64.wrap (Int.tdiv x10_3 2)) (wrap64 (x11_3 + 1))) else (none)) else (none)) else (none)) = some r := by first | (rw [hji20] at H; exact H) | (simp only [hji20] at H ⊢; exact H)
                                have hji20w : (IntKind.i64.wrap ((y316.length : Int) - 1)) = ji20 := (i64_w _).trans hji20
                                by_cases c21 : 0 ≤ (ji20)
                                · rw [if_pos c21] at H
                                  have c21b0 : decide (0 ≤ (ji20)) = true := decide_eq_true c21
                                  clear c21
                                  by_cases c22 : (ji20) < (y316.length : Int)
                                  · rw [if_pos c22] at H
                                    have c22b0 : decide ((ji20) < (y316.length : Int)) = true := decide_eq_true c22
                                    clear c22
                                    obtain ⟨ji23, hji23⟩ : ∃ j_ : Int, (Int.tmod x8_3 8) = j_ := ⟨_, rfl⟩
                                    replace H : (if 0 ≤ (ji23) then (firkinref07_Put.l2 k3 l0 x3_1 t308 (y316.set ((ji20) : Int).toNat (((rd y316 (ji20)) + (shl .u8 ((Int.tmod x10_3 2) % 256) (ji23))) % 256)) (wrap64 (x8_3 + 1)) x9_2 (IntKind.u64.wrap (Int.tdiv x10_3 2)) (wrap64 (x11_3 + 1))) else (none)) = some r := by first | (rw [hji23] at H; exact H) | (simp only [hji23] at H ⊢; exact H)
                                    (try rw [hji23] at c18b0)
                                    (try rw [hji23] at c18b1)
                                    by_cases c24 : 0 ≤ (ji23)
                                    · rw [if_pos c24] at H
                                      have c24b0 := eq_true c24
                                      have c24b1 : decide (0 ≤ (ji23)) = true := decide_eq_true c24
                                      clear c24
                                      obtain ⟨ji25, hji25⟩ : ∃ j_ : Int, (shl .u8 ((Int.tmod x10_3 2) % 256) (ji23)) = j_ := ⟨_, rfl⟩
                                      replace H : (firkinref07_Put.l2 k3 l0 x3_1 t308 (y316.set ((ji20) : Int).toNat (((rd y316 (ji20)) + (ji25)) % 256)) (wrap64 (x8_3 + 1)) x9_2 (IntKind.u64.wrap (Int.tdiv x10_3 2)) (wrap64 (x11_3 + 1))) = some r := by first | (rw [hji25] at H; exact H) | (simp only [hji25] at H ⊢; exact H)
                                      have hji25_ : (IntKind.u8.wrap (((Int.tmod x10_3 2) % 256) * 2 ^ min (ji23).toNat 8)) = ji25 := hji25
                                      have hji25z : (ji23) ≤ 8 → (IntKind.u8.wrap (((Int.tmod x10_3 2) % 256) * 2 ^ (ji23).toNat)) = ji25 := shl_small hji25
                                      have hji25y : ∀ a_ : Int, (a_ + ((Int.tmod x10_3 2) % 256) * 2 ^ min (ji23).toNat 8) % 256 = (a_ + ji25) % 256 := fun a_ => by rw [← hji25_, IntKind.wrap_u8]; omega
                                      have hji25w : (ji23) ≤ 8 → ∀ a_ : Int, (a_ + ((Int.tmod x10_3 2) % 256) * 2 ^ (ji23).toNat) % 256 = (a_ + ji25) % 256 := fun h_ a_ => by rw [← hji25z h_, IntKind.wrap_u8]; omega
                                      (try have hji25v := hji25w (by rw [← hji23]; exact Int.le_of_lt (Int.tmod_lt_of_pos _ (by decide))))
                                      obtain ⟨y320, hy320⟩ : ∃ y_ : List Int, y_ = (y316.set ((ji20) : Int).toNat (((rd y316 (ji20)) + (ji25)) % 256)) := ⟨_, rfl⟩
                                      replace H : (firkinref07_Put.l2 k3 l0 x3_1 t308 y320 (wrap64 (x8_3 + 1)) x9_2 (IntKind.u64.wrap (Int.tdiv x10_3 2)) (wrap64 (x11_3 + 1))) = some r := by first | (rw [hy320]; with_reducible exact H) | (have H2_ := (Option.bind_some _ _).symm.trans H; rw [hy320]; with_reducible exact H2_) | (have H2_ := (Option.bind_some _ _).symm.trans H; with_reducible exact H2_) | with_reducible exact H | (rw [hy320]; exact H) | exact H
                                      have Ny320 := Aside0.mk hy320
                                      clear hy320
                                      have H' := Aside0.mk H
                                      clear H
                                      try go_wp2_with (first | ((with_reducible refine gate_builtin (b := .append) (xs := #[.tmp 81, .tmp 82]) rfl ?_); at_builtin; refine Kd.R_append (Kd.int .u8) (w0 := w) w.heap.size rfl (.tmp 81) (.tmp 82) 24 5 (.int .u8 0) 1 rfl Try.underlying24 info5 rfl (by decide) (by omega) u7 x7_3 0 [.int .u8 0] (fun _ => True) (fun _ => False) rfl rfl ?aP (fun _ hk => hk.elim) ?aF ?aO ?aB ?aS ?aL ?_; (case aP => exact rfl); (case aB => exact (by repeat (first | (with_reducible first | exact HB.out | apply below_alloc | apply pw_below_drewN | apply below_drew1) | exact HB.out))); (case aF => exact (fun _ _ => trivial)); (case aO => exact (by (with_reducible repeat (first | apply Kd.R_alloc | apply Kd.R_drewN | apply Kd.R_drew)); exact HO_7.out)); (case aS => exact (below_size (by repeat (first | (with_reducible first | exact HB.out | apply below_alloc | apply pw_below_drewN | apply below_drew1) | exact HB.out)))); (case aL => have := LMc19.out; omega); intro v317 w27 ho hb hg hat; rw [← Ny316.out] at ho; have n0_ := Aside0.mk (hb); have n1_ := Aside0.mk (ho); clear HB; clear HO_7; have HB := n0_; have HO318 := n1_; clear n0_ n1_; clear ho hb hg hat))
                                      have n0_ := Aside0.mk (Kd.R_drew HO318.out)
                                      have n1_ := Aside0.mk (below_drew1 HB.out)
                                      clear HO318
                                      clear HB
                                      have HO318 := n0_
                                      have HB := n1_
                                      clear n0_ n1_
                                      obtain ⟨Ao29, co29, eo29⟩ := Kd.R_slice HO318.out
                                      (first | subst eo29 | (injection eo29 with f1_ f2_ f3_; have f4_ := f1_.symm; have f5_ := f3_.symm; clear f1_ f2_ f3_; subst f4_; subst f5_))
                                      have p319 : 0 ≤ ((ji20) : Int) := of_decide_eq_true (by first | (with_reducible assumption) | assumption)
                                      have q319 : (ji20) < (y316.length : Int) := of_decide_eq_true (by first | (with_reducible assumption) | assumption)
                                      obtain ⟨ad319, e319, hx319_0⟩ := Kd.at_int (Kd.R_reads' HO318.out).2.2 (ji20) p319 q319
                                      cases e319
                                      replace p319 := eq_true p319
                                      replace q319 := eq_true q319
                                      have p26 : 0 ≤ ((ji20) : Int) := of_decide_eq_true (by first | (with_reducible assumption) | assumption)
                                      have q26 : ((ji20) : Int) < ((y316.length : Int) : Int) := of_decide_eq_true (by first | (with_reducible assumption) | assumption)
                                      obtain ⟨go26, co26, eo26, gb26, gl26, cl26, HG26⟩ := Kd.R_form HO318.out (by omega)
                                      (first | cases eo26 | (injection eo26 with ea_ en_ ec_; (first | subst ea_ | (injection ea_ with ea_; subst ea_)); subst ec_; clear en_))
                                      have GB26 := Aside0.mk gb26
                                      have GG26 := Aside0.mk HG26
                                      clear gb26 gl26 HG26
                                      (first | simp only [add_plain] at hx319_0 | skip)
                                      obtain ⟨hx26_0, hf26_0⟩ := Kd.R_celln 0 HO318.out ((ji20) : Int) p26 q26
                                      replace p26 := eq_true p26
                                      replace q26 := eq_true q26
                                      have HP30 := Kd.R_putn HO318.out ((ji20) : Int) (((rd y316 (ji20)) + (ji25)) % 256)
                                      rw [← Ny320.out] at HP30
                                      have HQ30 := Aside0.mk HP30
                                      clear HP30
                                      refine start_ (n := 19) (S := fun w' => w'.cell? ⟨go26, ((ji20)).toNat, none⟩ = some (.int .u8 (rd y316 (ji20)))) (ds := [18]) #[false, false, false, false, false, false, false, false, false, false, false, false, false, false, false, false, false, false, false] (by kernel_rfl) rfl rfl (hx319_0) (fun hHeld => ?_); refine with_tabW firkinref07_Put.tab23 firkinref07_Put.bits23 (fun HT_ HW_ => ?_)
                                      generalize w27.drew = w28 at HO318 HB GG26 HQ30 hf26_0 hx26_0 hx319_0 hHeld ⊢
                                      refine pure_ (i := 0) (N := some 84) (v := ?_) (a' := ?_) #[true, false, false, false, false, false, false, false, false, false, false, false, false, false, false, false, false, false, false] rfl rfl (any_of HT_.out (by kernel_rfl)) (fun _ _ _ h => h) (Or.inl ⟨by rfl, ?_⟩) ?_ ?_
                                      rotate_left
                                      · intro w'
                                        go_simp
                                        with_reducible rfl
                                      rotate_left
                                      · simp only [Act.put, List.setIfInBounds_toArray, List.set_cons_zero, List.set_cons_succ, i64_w, i32_w]
                                        rfl
                                      refine pure_ (i := 1) (N := some 85) (v := ?_) (a' := ?_) #[true, true, false, false, false, false, false, false, false, false, false, false, false, false, false, false, false, false, false] rfl rfl (any_of HT_.out (by kernel_rfl)) (fun _ _ _ h => h) (Or.inl ⟨by rfl, ?_⟩) ?_ ?_
                                      rotate_left
                                      · intro w'
                                        go_simp
                                        with_reducible rfl
                                      rotate_left
                                      · simp only [Act.put, List.setIfInBounds_toArray, List.set_cons_zero, List.set_cons_succ, i64_w, i32_w]
                                        rfl
                                      refine pure_ (i := 2) (N := some 86) (v := ?_) (a' := ?_) #[true, true, true, false, false, false, false, false, false, false, false, false, false, false, false, false, false, false, false] rfl rfl (any_of HT_.out (by kernel_rfl)) (fun _ _ _ h => h) (Or.inl ⟨by rfl, ?_⟩) ?_ ?_
                                      rotate_left
                                      · intro w'
                                        go_simp
                                        with_reducible rfl
                                      rotate_left
                                      · simp only [Act.put, List.setIfInBounds_toArray, List.set_cons_zero, List.set_cons_succ, i64_w, i32_w]
                                        rfl
                                      refine pure_ (i := 3) (N := some 87) (v := ?_) (a' := ?_) #[true, true, true, true, false, false, false, false, false, false, false, false, false, false, false, false, false, false, false] rfl rfl (any_of HT_.out (by kernel_rfl)) (fun _ _ _ h => h) (Or.inl ⟨by rfl, ?_⟩) ?_ ?_
                                      rotate_left
                                      · intro w'
                                        go_simp
                                        with_reducible rfl
                                      rotate_left
                                      · simp only [Act.put, List.setIfInBounds_toArray, List.set_cons_zero, List.set_cons_succ, i64_w, i32_w]
                                        rfl
                                      refine pure_ (i := 4) (N := some 88) (v := ?_) (a' := ?_) #[true, true, true, true, true, false, false, false, false, false, false, false, false, false, false, false, false, false, false] rfl rfl (any_of HT_.out (by kernel_rfl)) (fun _ _ _ h => h) (Or.inl ⟨by rfl, ?_⟩) ?_ ?_
                                      rotate_left
                                      · intro w'
                                        go_simp
                                        with_reducible rfl
                                      rotate_left
                                      · simp only [Act.put, List.setIfInBounds_toArray, List.set_cons_zero, List.set_cons_succ, i64_w, i32_w]
                                        rfl
                                      refine pure_ (i := 5) (N := some 89) (v := ?_) (a' := ?_) #[true, true, true, true, true, true, false, false, false, false, false, false, false, false, false, false, false, false, false] rfl rfl (any_of HT_.out (by kernel_rfl)) (fun _ _ _ h => h) (Or.inl ⟨by rfl, ?_⟩) ?_ ?_
                                      rotate_left
                                      · intro w'
                                        go_simp
                                        with_reducible rfl
                                      rotate_left
                                      · simp only [Act.put, List.setIfInBounds_toArray, List.set_cons_zero, List.set_cons_succ, i64_w, i32_w]
                                        rfl
                                      refine pure_ (i := 6) (N := some 90) (v := ?_) (a' := ?_) #[true, true, true, true, true, true, true, false, false, false, false, false, false, false, false, false, false, false, false] rfl rfl (any_of HT_.out (by kernel_rfl)) (fun _ _ _ h => h) (Or.inl ⟨by rfl, ?_⟩) ?_ ?_
                                      rotate_left
                                      · intro w'
                                        go_simp
                                        with_reducible rfl
                                      rotate_left
                                      · simp only [Act.put, List.setIfInBounds_toArray, List.set_cons_zero, List.set_cons_succ, i64_w, i32_w]
                                        rfl
                                      refine pure_ (i := 7) (N := some 91) (v := ?_) (a' := ?_) #[true, true, true, true, true, true, true, true, false, false, false, false, false, false, false, false, false, false, false] rfl rfl (any_of HT_.out (by kernel_rfl)) (fun _ _ _ h => h) (Or.inl ⟨by rfl, ?_⟩) ?_ ?_
                                      rotate_left
                                      · intro w'
                                        go_simp
                                        with_reducible rfl
                                      rotate_left
                                      · simp only [Act.put, List.setIfInBounds_toArray, List.set_cons_zero, List.set_cons_succ, i64_w, i32_w]
                                        rfl
                                      refine pure_ (i := 8) (N := some 92) (v := ?_) (a' := ?_) #[true, true, true, true, true, true, true, true, true, false, false, false, false, false, false, false, false, false, false] rfl rfl (any_of HT_.out (by kernel_rfl)) (fun _ _ _ h => h) (Or.inl ⟨by rfl, ?_⟩) ?_ ?_
                                      rotate_left
                                      · intro w'
                                        go_simp
                                        with_reducible rfl
                                      rotate_left
                                      · simp only [Act.put, List.setIfInBounds_toArray, List.set_cons_zero, List.set_cons_succ, i64_w, i32_w]
                                        rfl
                                      refine pure_ (i := 10) (N := some 94) (v := ?_) (a' := ?_) #[true, true, true, true, true, true, true, true, true, false, true, false, false, false, false, false, false, false, false] rfl rfl (any_of HT_.out (by kernel_rfl)) (fun _ _ _ h => h) (Or.inl ⟨by rfl, ?_⟩) ?_ ?_
                                      rotate_left
                                      · intro w'
                                        go_simp
                                        with_reducible rfl
                                      rotate_left
                                      · simp only [Act.put, List.setIfInBounds_toArray, List.set_cons_zero, List.set_cons_succ, i64_w, i32_w]
                                        rfl
                                      refine pure_ (i := 11) (N := some 95) (v := ?_) (a' := ?_) #[true, true, true, true, true, true, true, true, true, false, true, true, false, false, false, false, false, false, false] rfl rfl (any_of HT_.out (by kernel_rfl)) (fun _ _ _ h => h) (Or.inl ⟨by rfl, ?_⟩) ?_ ?_
                                      rotate_left
                                      · intro w'
                                        go_simp
                                        with_reducible rfl
                                      rotate_left
                                      · simp only [Act.put, List.setIfInBounds_toArray, List.set_cons_zero, List.set_cons_succ, i64_w, i32_w]
                                        rfl
                                      refine pure_ (i := 12) (N := some 96) (v := ?_) (a' := ?_) #[true, true, true, true, true, true, true, true, true, false, true, true, true, false, false, false, false, false, false] rfl rfl (any_of HT_.out (by kernel_rfl)) (fun _ _ _ h => h) (Or.inl ⟨by rfl, ?_⟩) ?_ ?_
                                      rotate_left
                                      · intro w'
                                        go_simp
                                        with_reducible rfl
                                      rotate_left
                                      · simp only [Act.put, List.setIfInBounds_toArray, List.set_cons_zero, List.set_cons_succ, i64_w, i32_w]
                                        rfl
                                      refine pure_ (i := 13) (N := some 97) (v := ?_) (a' := ?_) #[true, true, true, true, true, true, true, true, true, false, true, true, true, true, false, false, false, false, false] rfl rfl (any_of HT_.out (by kernel_rfl)) (fun _ _ _ h => h) (Or.inl ⟨by rfl, ?_⟩) ?_ ?_
                                      rotate_left
                                      · intro w'
                                        go_simp
                                        with_reducible rfl
                                      rotate_left
                                      · simp only [Act.put, List.setIfInBounds_toArray, List.set_cons_zero, List.set_cons_succ, i64_w, i32_w]
                                        rfl
                                      refine pure_ (i := 14) (N := some 98) (v := ?_) (a' := ?_) #[true, true, true, true, true, true, true, true, true, false, true, true, true, true, true, false, false, false, false] rfl rfl (any_of HT_.out (by kernel_rfl)) (fun _ _ _ h => h) (Or.inl ⟨by rfl, ?_⟩) ?_ ?_
                                      rotate_left
                                      · intro w'
                                        go_simp
                                        with_reducible rfl
                                      rotate_left
                                      · simp only [Act.put, List.setIfInBounds_toArray, List.set_cons_zero, List.set_cons_succ, i64_w, i32_w]
                                        rfl
                                      refine pure_ (i := 15) (N := some 99) (v := ?_) (a' := ?_) #[true, true, true, true, true, true, true, true, true, false, true, true, true, true, true, true, false, false, false] rfl rfl (any_of HT_.out (by kernel_rfl)) (fun _ _ _ h => h) (Or.inl ⟨by rfl, ?_⟩) ?_ ?_
                                      rotate_left
                                      · intro w'
                                        go_simp
                                        with_reducible rfl
                                      rotate_left
                                      · simp only [Act.put, List.setIfInBounds_toArray, List.set_cons_zero, List.set_cons_succ, i64_w, i32_w]
                                        rfl
                                      refine take_ (i := 9) (N := some 93) (v := ?_) (a' := ?_) #[true, true, true, true, true, true, true, true, true, true, true, true, true, true, true, true, false, false, false] rfl rfl (take_ofW HT_.out HW_.out (by kernel_rfl)) (fun _ _ _ h => h) (Or.inl ⟨by rfl, ?_⟩) hHeld ?_ ?_
                                      rotate_left
                                      · intro w' s0
                                        go_simp
                                        with_reducible rfl
                                      rotate_left
                                      · simp only [Act.put, List.setIfInBounds_toArray, List.set_cons_zero, List.set_cons_succ, i64_w, i32_w]
                                        rfl
                                      refine pure_ (i := 16) (N := some 100) (v := ?_) (a' := ?_) #[true, true, true, true, true, true, true, true, true, true, true, true, true, true, true, true, true, false, false] rfl rfl (any_of HT_.out (by kernel_rfl)) (fun _ _ _ h => h) (Or.inl ⟨by rfl, ?_⟩) ?_ ?_
                                      rotate_left
                                      · intro w'
                                        go_simp
                                        with_reducible rfl
                                      rotate_left
                                      · simp only [Act.put, List.setIfInBounds_toArray, List.set_cons_zero, List.set_cons_succ, i64_w, i32_w]
                                        rfl
                                      refine pure_ (i := 17) (N := some 101) (v := ?_) (a' := ?_) #[true, true, true, true, true, true, true, true, true, true, true, true, true, true, true, true, true, true, false] rfl rfl (any_of HT_.out (by kernel_rfl)) (fun _ _ _ h => h) (Or.inl ⟨by rfl, ?_⟩) ?_ ?_
                                      rotate_left
                                      · intro w'
                                        go_simp
                                        with_reducible rfl
                                      rotate_left
                                      · simp only [Act.put, List.setIfInBounds_toArray, List.set_cons_zero, List.set_cons_succ, i64_w, i32_w]
                                        rfl
                                      refine last_ (i := 18) (N := none) #[true, true, true, true, true, true, true, true, true, true, true, true, true, true, true, true, true, true, true] rfl rfl (one_of HT_.out (by kernel_rfl)) (by decide) (fun K hK => ?_)
                                      refine skip_ (w1 := ?_) (by rfl) rfl ?_ ?_
                                      rotate_left
                                      · go_simp
                                        rfl
                                      refine hK.out _ _ ?_
                                      clear hK K
                                      refine done_ (done_of HT_.out (by kernel_rfl)) ?_
                                      try go_wp2
                                      go_roundg k3
                                      case measure => have := HK1.out; have := HK2.out; have := HK3.out; omega
                                      case rel => exact ⟨(y320), (wrap64 (x8_3 + 1)), (IntKind.u64.wrap (Int.tdiv x10_3 2)), (wrap64 (x11_3 + 1)), (by first | rfl | (simp; done) | (simp [*]; done)), (by first | rfl | (simp; done) | (simp [*]; done)), (by first | rfl | (simp; done) | (simp [*]; done)), H', ⟨by have := HK1.out; have := HK2.out; have := HK3.out; omega⟩, ⟨by (with_reducible repeat (first | apply Kd.R_alloc | apply Kd.R_drewN | apply Kd.R_drew)); exact HQ30.out⟩, ⟨by repeat (first | (with_reducible first | exact HB.out | apply below_alloc | apply pw_below_drewN | apply below_drew1 | refine below_set ?_ GB26.out) | exact HB.out)⟩⟩
                                    · rw [if_neg c24] at H
                                      exact absurd H (by simp)
                                  · rw [if_neg c22] at H
                                    exact absurd H (by simp)
                                · rw [if_neg c21] at H
                                  exact absurd H (by simp)
                              · rw [if_neg c19] at H
                                exact absurd H (by simp)
                            · rw [if_neg c18] at H
                              have c18b0 : ((Int.tmod x8_3 8) == 0) = false := beq_eq_false_iff_ne.mpr c18
                              have c18b1 : ((Int.tmod x8_3 8) != 0) = true := bne_iff_ne.mpr c18
                              obtain ⟨ji31, hji31⟩ : ∃ j_ : Int, (wrap64 ((x7_3.length : Int) - 1)) = j_ := ⟨_, rfl⟩
                              replace H : (if 0 ≤ (ji31) then (if (ji31) < (x7_3.length : Int) then (if 0 ≤ (Int.tmod x8_3 8) then (firkinref07_Put.l2 k3 l0 x3_1 t308 (x7_3.set ((ji31) : Int).toNat (((rd x7_3 (ji31)) + (shl .u8 ((Int.tmod x10_3 2) % 256) (Int.tmod x8_3 8))) % 256)) (wrap64 (x8_3 + 1)) x9_2 (IntKind.u64.wrap (Int.tdiv x10_3 2)) (wrap64 (x11_3 + 1))) else (none)) else (none)) else (none)) = some r := by first | (rw [hji31] at H; exact H) | (simp only [hji31] at H ⊢; exact H)
                              have hji31w : (IntKind.i64.wrap ((x7_3.length : Int) - 1)) = ji31 := (i64_w _).trans hji31
                              by_cases c32 : 0 ≤ (ji31)
                              · rw [if_pos c32] at H
                                have c32b0 : decide (0 ≤ (ji31)) = true := decide_eq_true c32
                                clear c32
                                by_cases c33 : (ji31) < (x7_3.length : Int)
                                · rw [if_pos c33] at H
                                  have c33b0 : decide ((ji31) < (x7_3.length : Int)) = true := decide_eq_true c33
                                  clear c33
                                  obtain ⟨ji34, hji34⟩ : ∃ j_ : Int, (Int.tmod x8_3 8) = j_ := ⟨_, rfl⟩
                                  replace H : (if 0 ≤ (ji34) then (firkinref07_Put.l2 k3 l0 x3_1 t308 (x7_3.set ((ji31) : Int).toNat (((rd x7_3 (ji31)) + (shl .u8 ((Int.tmod x10_3 2) % 256) (ji34))) % 256)) (wrap64 (x8_3 + 1)) x9_2 (IntKind.u64.wrap (Int.tdiv x10_3 2)) (wrap64 (x11_3 + 1))) else (none)) = some r := by first | (rw [hji34] at H; exact H) | (simp only [hji34] at H ⊢; exact H)
                                  (try rw [hji34] at c18b0)
                                  (try rw [hji34] at c18b1)
                                  by_cases c35 : 0 ≤ (ji34)
                                  · rw [if_pos c35] at H
                                    have c35b0 := eq_true c35
                                    have c35b1 : decide (0 ≤ (ji34)) = true := decide_eq_true c35
                                    clear c35
                                    obtain ⟨ji36, hji36⟩ : ∃ j_ : Int, (shl .u8 ((Int.tmod x10_3 2) % 256) (ji34)) = j_ := ⟨_, rfl⟩
                                    replace H : (firkinref07_Put.l2 k3 l0 x3_1 t308 (x7_3.set ((ji31) : Int).toNat (((rd x7_3 (ji31)) + (ji36)) % 256)) (wrap64 (x8_3 + 1)) x9_2 (IntKind.u64.wrap (Int.tdiv x10_3 2)) (wrap64 (x11_3 + 1))) = some r := by first | (rw [hji36] at H; exact H) | (simp only [hji36] at H ⊢; exact H)
                                    have hji36_ : (IntKind.u8.wrap (((Int.tmod x10_3 2) % 256) * 2 ^ min (ji34).toNat 8)) = ji36 := hji36
                                    have hji36z : (ji34) ≤ 8 → (IntKind.u8.wrap (((Int.tmod x10_3 2) % 256) * 2 ^ (ji34).toNat)) = ji36 := shl_small hji36
                                    have hji36y : ∀ a_ : Int, (a_ + ((Int.tmod x10_3 2) % 256) * 2 ^ min (ji34).toNat 8) % 256 = (a_ + ji36) % 256 := fun a_ => by rw [← hji36_, IntKind.wrap_u8]; omega
                                    have hji36w : (ji34) ≤ 8 → ∀ a_ : Int, (a_ + ((Int.tmod x10_3 2) % 256) * 2 ^ (ji34).toNat) % 256 = (a_ + ji36) % 256 := fun h_ a_ => by rw [← hji36z h_, IntKind.wrap_u8]; omega
                                    (try have hji36v := hji36w (by rw [← hji34]; exact Int.le_of_lt (Int.tmod_lt_of_pos _ (by decide))))
                                    obtain ⟨y322, hy322⟩ : ∃ y_ : List Int, y_ = (x7_3.set ((ji31) : Int).toNat (((rd x7_3 (ji31)) + (ji36)) % 256)) := ⟨_, rfl⟩
                                    replace H : (firkinref07_Put.l2 k3 l0 x3_1 t308 y322 (wrap64 (x8_3 + 1)) x9_2 (IntKind.u64.wrap (Int.tdiv x10_3 2)) (wrap64 (x11_3 + 1))) = some r := by first | (rw [hy322]; with_reducible exact H) | (have H2_ := (Option.bind_some _ _).symm.trans H; rw [hy322]; with_reducible exact H2_) | (have H2_ := (Option.bind_some _ _).symm.trans H; with_reducible exact H2_) | with_reducible exact H | (rw [hy322]; exact H) | exact H
                                    have Ny322 := Aside0.mk hy322
                                    clear hy322
                                    have H' := Aside0.mk H
                                    clear H
                                    try go_wp2
                                    have n0_ := Aside0.mk (Kd.R_drew HO_7.out)
                                    have n1_ := Aside0.mk (below_drew1 HB.out)
                                    clear HO_7
                                    clear HB
                                    have HO_7 := n0_
                                    have HB := n1_
                                    clear n0_ n1_
                                    obtain ⟨Ao39, co39, eo39⟩ := Kd.R_slice HO_7.out
                                    (first | subst eo39 | (injection eo39 with f1_ f2_ f3_; have f4_ := f1_.symm; have f5_ := f3_.symm; clear f1_ f2_ f3_; subst f4_; subst f5_))
                                    have p321 : 0 ≤ ((ji31) : Int) := of_decide_eq_true (by first | (with_reducible assumption) | assumption)
                                    have q321 : (ji31) < (x7_3.length : Int) := of_decide_eq_true (by first | (with_reducible assumption) | assumption)
                                    obtain ⟨ad321, e321, hx321_0⟩ := Kd.at_int (Kd.R_reads' HO_7.out).2.2 (ji31) p321 q321
                                    cases e321
                                    replace p321 := eq_true p321
                                    replace q321 := eq_true q321
                                    have p37 : 0 ≤ ((ji31) : Int) := of_decide_eq_true (by first | (with_reducible assumption) | assumption)
                                    have q37 : ((ji31) : Int) < ((x7_3.length : Int) : Int) := of_decide_eq_true (by first | (with_reducible assumption) | assumption)
                                    obtain ⟨go37, co37, eo37, gb37, gl37, cl37, HG37⟩ := Kd.R_form HO_7.out (by omega)
                                    (first | cases eo37 | (injection eo37 with ea_ en_ ec_; (first | subst ea_ | (injection ea_ with ea_; subst ea_)); subst ec_; clear en_))
                                    have GB37 := Aside0.mk gb37
                                    have GG37 := Aside0.mk HG37
                                    clear gb37 gl37 HG37
                                    (first | simp only [add_plain] at hx321_0 | skip)
                                    obtain ⟨hx37_0, hf37_0⟩ := Kd.R_celln 0 HO_7.out ((ji31) : Int) p37 q37
                                    replace p37 := eq_true p37
                                    replace q37 := eq_true q37
                                    have HP40 := Kd.R_putn HO_7.out ((ji31) : Int) (((rd x7_3 (ji31)) + (ji36)) % 256)
                                    rw [← Ny322.out] at HP40
                                    have HQ40 := Aside0.mk HP40
                                    clear HP40
                                    refine start_ (n := 19) (S := fun w' => w'.cell? ⟨go37, ((ji31)).toNat, none⟩ = some (.int .u8 (rd x7_3 (ji31)))) (ds := [18]) #[false, false, false, false, false, false, false, false, false, false, false, false, false, false, false, false, false, false, false] (by kernel_rfl) rfl rfl (hx321_0) (fun hHeld => ?_); refine with_tabW firkinref07_Put.tab23 firkinref07_Put.bits23 (fun HT_ HW_ => ?_)
                                    generalize wr.drew = w38 at HO_7 HB GG37 HQ40 hf37_0 hx321_0 hx37_0 hHeld ⊢
                                    refine pure_ (i := 0) (N := some 84) (v := ?_) (a' := ?_) #[true, false, false, false, false, false, false, false, false, false, false, false, false, false, false, false, false, false, false] rfl rfl (any_of HT_.out (by kernel_rfl)) (fun _ _ _ h => h) (Or.inl ⟨by rfl, ?_⟩) ?_ ?_
                                    rotate_left
                                    · intro w'
                                      go_simp
                                      with_reducible rfl
                                    rotate_left
                                    · simp only [Act.put, List.setIfInBounds_toArray, List.set_cons_zero, List.set_cons_succ, i64_w, i32_w]
                                      rfl
                                    refine pure_ (i := 1) (N := some 85) (v := ?_) (a' := ?_) #[true, true, false, false, false, false, false, false, false, false, false, false, false, false, false, false, false, false, false] rfl rfl (any_of HT_.out (by kernel_rfl)) (fun _ _ _ h => h) (Or.inl ⟨by rfl, ?_⟩) ?_ ?_
                                    rotate_left
                                    · intro w'
                                      go_simp
                                      with_reducible rfl
                                    rotate_left
                                    · simp only [Act.put, List.setIfInBounds_toArray, List.set_cons_zero, List.set_cons_succ, i64_w, i32_w]
                                      rfl
                                    refine pure_ (i := 2) (N := some 86) (v := ?_) (a' := ?_) #[true, true, true, false, false, false, false, false, false, false, false, false, false, false, false, false, false, false, false] rfl rfl (any_of HT_.out (by kernel_rfl)) (fun _ _ _ h => h) (Or.inl ⟨by rfl, ?_⟩) ?_ ?_
                                    rotate_left
                                    · intro w'
                                      go_simp
                                      with_reducible rfl
                                    rotate_left
                                    · simp only [Act.put, List.setIfInBounds_toArray, List.set_cons_zero, List.set_cons_succ, i64_w, i32_w]
                                      rfl
                                    refine pure_ (i := 3) (N := some 87) (v := ?_) (a' := ?_) #[true, true, true, true, false, false, false, false, false, false, false, false, false, false, false, false, false, false, false] rfl rfl (any_of HT_.out (by kernel_rfl)) (fun _ _ _ h => h) (Or.inl ⟨by rfl, ?_⟩) ?_ ?_
                                    rotate_left
                                    · intro w'
                                      go_simp
                                      with_reducible rfl
                                    rotate_left
                                    · simp only [Act.put, List.setIfInBounds_toArray, List.set_cons_zero, List.set_cons_succ, i64_w, i32_w]
                                      rfl
                                    refine pure_ (i := 4) (N := some 88) (v := ?_) (a' := ?_) #[true, true, true, true, true, false, false, false, false, false, false, false, false, false, false, false, false, false, false] rfl rfl (any_of HT_.out (by kernel_rfl)) (fun _ _ _ h => h) (Or.inl ⟨by rfl, ?_⟩) ?_ ?_
                                    rotate_left
                                    · intro w'
                                      go_simp
                                      with_reducible rfl
                                    rotate_left
                                    · simp only [Act.put, List.setIfInBounds_toArray, List.set_cons_zero, List.set_cons_succ, i64_w, i32_w]
                                      rfl
                                    refine pure_ (i := 5) (N := some 89) (v := ?_) (a' := ?_) #[true, true, true, true, true, true, false, false, false, false, false, false, false, false, false, false, false, false, false] rfl rfl (any_of HT_.out (by kernel_rfl)) (fun _ _ _ h => h) (Or.inl ⟨by rfl, ?_⟩) ?_ ?_
                                    rotate_left
                                    · intro w'
                                      go_simp
                                      with_reducible rfl
                                    rotate_left
                                    · simp only [Act.put, List.setIfInBounds_toArray, List.set_cons_zero, List.set_cons_succ, i64_w, i32_w]
                                      rfl
                                    refine pure_ (i := 6) (N := some 90) (v := ?_) (a' := ?_) #[true, true, true, true, true, true, true, false, false, false, false, false, false, false, false, false, false, false, false] rfl rfl (any_of HT_.out (by kernel_rfl)) (fun _ _ _ h => h) (Or.inl ⟨by rfl, ?_⟩) ?_ ?_
                                    rotate_left
                                    · intro w'
                                      go_simp
                                      with_reducible rfl
                                    rotate_left
                                    · simp only [Act.put, List.setIfInBounds_toArray, List.set_cons_zero, List.set_cons_succ, i64_w, i32_w]
                                      rfl
                                    refine pure_ (i := 7) (N := some 91) (v := ?_) (a' := ?_) #[true, true, true, true, true, true, true, true, false, false, false, false, false, false, false, false, false, false, false] rfl rfl (any_of HT_.out (by kernel_rfl)) (fun _ _ _ h => h) (Or.inl ⟨by rfl, ?_⟩) ?_ ?_
                                    rotate_left
                                    · intro w'
                                      go_simp
                                      with_reducible rfl
                                    rotate_left
                                    · simp only [Act.put, List.setIfInBounds_toArray, List.set_cons_zero, List.set_cons_succ, i64_w, i32_w]
                                      rfl
                                    refine pure_ (i := 8) (N := some 92) (v := ?_) (a' := ?_) #[true, true, true, true, true, true, true, true, true, false, false, false, false, false, false, false, false, false, false] rfl rfl (any_of HT_.out (by kernel_rfl)) (fun _ _ _ h => h) (Or.inl ⟨by rfl, ?_⟩) ?_ ?_
                                    rotate_left
                                    · intro w'
                                      go_simp
                                      with_reducible rfl
                                    rotate_left
                                    · simp only [Act.put, List.setIfInBounds_toArray, List.set_cons_zero, List.set_cons_succ, i64_w, i32_w]
                                      rfl
                                    refine pure_ (i := 10) (N := some 94) (v := ?_) (a' := ?_) #[true, true, true, true, true, true, true, true, true, false, true, false, false, false, false, false, false, false, false] rfl rfl (any_of HT_.out (by kernel_rfl)) (fun _ _ _ h => h) (Or.inl ⟨by rfl, ?_⟩) ?_ ?_
                                    rotate_left
                                    · intro w'
                                      go_simp
                                      with_reducible rfl
                                    rotate_left
                                    · simp only [Act.put, List.setIfInBounds_toArray, List.set_cons_zero, List.set_cons_succ, i64_w, i32_w]
                                      rfl
                                    refine pure_ (i := 11) (N := some 95) (v := ?_) (a' := ?_) #[true, true, true, true, true, true, true, true, true, false, true, true, false, false, false, false, false, false, false] rfl rfl (any_of HT_.out (by kernel_rfl)) (fun _ _ _ h => h) (Or.inl ⟨by rfl, ?_⟩) ?_ ?_
                                    rotate_left
                                    · intro w'
                                      go_simp
                                      with_reducible rfl
                                    rotate_left
                                    · simp only [Act.put, List.setIfInBounds_toArray, List.set_cons_zero, List.set_cons_succ, i64_w, i32_w]
                                      rfl
                                    refine pure_ (i := 12) (N := some 96) (v := ?_) (a' := ?_) #[true, true, true, true, true, true, true, true, true, false, true, true, true, false, false, false, false, false, false] rfl rfl (any_of HT_.out (by kernel_rfl)) (fun _ _ _ h => h) (Or.inl ⟨by rfl, ?_⟩) ?_ ?_
                                    rotate_left
                                    · intro w'
                                      go_simp
                                      with_reducible rfl
                                    rotate_left
                                    · simp only [Act.put, List.setIfInBounds_toArray, List.set_cons_zero, List.set_cons_succ, i64_w, i32_w]
                                      rfl
                                    refine pure_ (i := 13) (N := some 97) (v := ?_) (a' := ?_) #[true, true, true, true, true, true, true, true, true, false, true, true, true, true, false, false, false, false, false] rfl rfl (any_of HT_.out (by kernel_rfl)) (fun _ _ _ h => h) (Or.inl ⟨by rfl, ?_⟩) ?_ ?_
                                    rotate_left
                                    · intro w'
                                      go_simp
                                      with_reducible rfl
                                    rotate_left
                                    · simp only [Act.put, List.setIfInBounds_toArray, List.set_cons_zero, List.set_cons_succ, i64_w, i32_w]
                                      rfl
                                    refine pure_ (i := 14) (N := some 98) (v := ?_) (a' := ?_) #[true, true, true, true, true, true, true, true, true, false, true, true, true, true, true, false, false, false, false] rfl rfl (any_of HT_.out (by kernel_rfl)) (fun _ _ _ h => h) (Or.inl ⟨by rfl, ?_⟩) ?_ ?_
                                    rotate_left
                                    · intro w'
                                      go_simp
                                      with_reducible rfl
                                    rotate_left
                                    · simp only [Act.put, List.setIfInBounds_toArray, List.set_cons_zero, List.set_cons_succ, i64_w, i32_w]
                                      rfl
                                    refine pure_ (i := 15) (N := some 99) (v := ?_) (a' := ?_) #[true, true, true, true, true, true, true, true, true, false, true, true, true, true, true, true, false, false, false] rfl rfl (any_of HT_.out (by kernel_rfl)) (fun _ _ _ h => h) (Or.inl ⟨by rfl, ?_⟩) ?_ ?_
                                    rotate_left
                                    · intro w'
                                      go_simp
                                      with_reducible rfl
                                    rotate_left
                                    · simp only [Act.put, List.setIfInBounds_toArray, List.set_cons_zero, List.set_cons_succ, i64_w, i32_w]
                                      rfl
                                    refine take_ (i := 9) (N := some 93) (v := ?_) (a' := ?_) #[true, true, true, true, true, true, true, true, true, true, true, true, true, true, true, true, false, false, false] rfl rfl (take_ofW HT_.out HW_.out (by kernel_rfl)) (fun _ _ _ h => h) (Or.inl ⟨by rfl, ?_⟩) hHeld ?_ ?_
                                    rotate_left
                                    · intro w' s0
                                      go_simp
                                      with_reducible rfl
                                    rotate_left
                                    · simp only [Act.put, List.setIfInBounds_toArray, List.set_cons_zero, List.set_cons_succ, i64_w, i32_w]
                                      rfl
                                    refine pure_ (i := 16) (N := some 100) (v := ?_) (a' := ?_) #[true, true, true, true, true, true, true, true, true, true, true, true, true, true, true, true, true, false, false] rfl rfl (any_of HT_.out (by kernel_rfl)) (fun _ _ _ h => h) (Or.inl ⟨by rfl, ?_⟩) ?_ ?_
                                    rotate_left
                                    · intro w'
                                      go_simp
                                      with_reducible rfl
                                    rotate_left
                                    · simp only [Act.put, List.setIfInBounds_toArray, List.set_cons_zero, List.set_cons_succ, i64_w, i32_w]
                                      rfl
                                    refine pure_ (i := 17) (N := some 101) (v := ?_) (a' := ?_) #[true, true, true, true, true, true, true, true, true, true, true, true, true, true, true, true, true, true, false] rfl rfl (any_of HT_.out (by kernel_rfl)) (fun _ _ _ h => h) (Or.inl ⟨by rfl, ?_⟩) ?_ ?_
                                    rotate_left
                                    · intro w'
                                      go_simp
                                      with_reducible rfl
                                    rotate_left
                                    · simp only [Act.put, List.setIfInBounds_toArray, List.set_cons_zero, List.set_cons_succ, i64_w, i32_w]
                                      rfl
                                    refine last_ (i := 18) (N := none) #[true, true, true, true, true, true, true, true, true, true, true, true, true, true, true, true, true, true, true] rfl rfl (one_of HT_.out (by kernel_rfl)) (by decide) (fun K hK => ?_)
                                    refine skip_ (w1 := ?_) (by rfl) rfl ?_ ?_
                                    rotate_left
                                    · go_simp
                                      rfl
                                    refine hK.out _ _ ?_
                                    clear hK K
                                    refine done_ (done_of HT_.out (by kernel_rfl)) ?_
                                    try go_wp2
                                    go_roundg k3
                                    case measure => have := HK1.out; have := HK2.out; have := HK3.out; omega
                                    case rel => exact ⟨(y322), (wrap64 (x8_3 + 1)), (IntKind.u64.wrap (Int.tdiv x10_3 2)), (wrap64 (x11_3 + 1)), (by first | rfl | (simp; done) | (simp [*]; done)), (by first | rfl | (simp; done) | (simp [*]; done)), (by first | rfl | (simp; done) | (simp [*]; done)), H', ⟨by have := HK1.out; have := HK2.out; have := HK3.out; omega⟩, ⟨by (with_reducible repeat (first | apply Kd.R_alloc | apply Kd.R_drewN | apply Kd.R_drew)); exact HQ40.out⟩, ⟨by repeat (first | (with_reducible first | exact HB.out | apply below_alloc | apply pw_below_drewN | apply below_drew1 | refine below_set ?_ GB37.out) | exact HB.out)⟩⟩
                                  · rw [if_neg c35] at H
                                    exact absurd H (by simp)
                                · rw [if_neg c33] at H
                                  exact absurd H (by simp)
                              · rw [if_neg c32] at H
                                exact absurd H (by simp)
                          · rw [if_neg c17] at H
                            have c17b0 : decide (x11_3 < t308) = false := decide_eq_false c17
                            clear c17
                            have H' := Aside0.mk H
                            clear H
                            go_wp2
                            go_roundg k3
                            case measure => have := HK1.out; have := HK2.out; have := HK3.out; omega
                            case rel => exact ⟨(x7_3), (x8_3), (wrap64 (x9_2 + 1)), (by first | rfl | (simp; done) | (simp [*]; done)), (by first | rfl | (simp; done) | (simp [*]; done)), H', ⟨by have := HK1.out; have := HK2.out; have := HK3.out; omega⟩, ⟨by (with_reducible repeat (first | apply Kd.R_alloc | apply Kd.R_drewN | apply Kd.R_drew)); exact HO_7.out⟩, ⟨by repeat (first | (with_reducible first | exact HB.out | apply below_alloc | apply pw_below_drewN | apply below_drew1) | exact HB.out)⟩⟩
                    · rw [if_neg c16] at H
                      exact absurd H (by simp)
                  · rw [if_neg c15] at H
                    have c15b0 : decide (x9_2 < (l0.length : Int)) = false := decide_eq_false c15
                    clear c15
                    obtain rfl := Option.some.inj H
                    go_wp2
                    go_ret
                    exact ⟨_, by first | rfl | (simp [errW_none, errW_some] <;> rfl) | (simp [*, errW_none, errW_some] <;> rfl), by (with_reducible repeat (first | apply Kd.R_alloc | apply Kd.R_drewN | apply Kd.R_drew)); exact HO_7.out, by repeat (first | (with_reducible first | exact HB.out | apply below_alloc | apply pw_below_drewN | apply below_drew1) | exact HB.out)⟩
            · rw [if_neg c12] at H
              exact absurd H (by simp)
    · rw [if_neg c3] at H
      exact absurd H (by simp)

end Go.Proofs.Ytbbffnlefmogbaa.X
/- The contract of firkinref08.words: the unlike texts, rising. -/
namespace Go.Proofs.Ytbbffnlefmogbaa.X
open Go.RowKit Go.Proofs.YtbbffnlefmogbaaW.PrintWords Go.Proofs.YtbbffnlefmogbaaW.PrintLast Go.Proofs.YtbbffnlefmogbaaW.PrintMore
set_option linter.unusedVariables false
set_option linter.unusedSimpArgs false
def firkinref08_words.f (l0 : List ByteArray) : Option (List ByteArray) := if l0.length < 100000 then some (l0.foldl insW []) else none
theorem sinfo : (Try.prog.info? 9).map (fun i => (i.zero, i.size, i.bytes)) = some (some (.string ByteArray.empty), 1, 16) := by kernel_rfl
theorem w_rd (l : List ByteArray) (i : Nat) (hi : i < l.length) : rdOf ByteArray.empty l (i : Int) = l.getD i ByteArray.empty := by unfold rdOf; simp [hi]
theorem lit0s (V : World) (base g : Nat) (hg : g = V.heap.size) (hb : base ≤ V.heap.size) : Kd.R Kd.string 9 (V.alloc (.cells #[] 9)) base (fun _ => True) (.slice (some ⟨g, 0, none⟩) 0 0) ([] : List ByteArray) := by
  subst hg
  refine ⟨fun _ _ => trivial, [], ?_, Reps.none _ _⟩
  have h2 := World.ownsRow_lit (base := base) (e := 9) (size := Kd.string.sz) V #[] 0 hb (by decide) (by simp)
  simpa using h2
theorem lit1s (V : World) (base g : Nat) (x : ByteArray) (hg : g = V.heap.size) (hb : base ≤ V.heap.size) : Kd.R Kd.string 9 (V.alloc (.cells #[.string x] 9)) base (fun _ => True) (.slice (some ⟨g, 0, none⟩) 1 1) [x] := by
  subst hg
  refine ⟨fun _ _ => trivial, [.string x], ?_, ?_⟩
  · have h2 := World.ownsRow_lit (base := base) (e := 9) (size := Kd.string.sz) V #[.string x] 1 hb (by decide) rfl
    simpa using h2
  · exact Reps.one (show Kd.M Kd.string _ _ _ x [.string x] from rfl) (Reps.none _ _)
set_option maxHeartbeats 8000000 in
set_option maxRecDepth 100000 in
theorem firkinref08_words.calls (A0 : Option Addr) (c0 : Nat) (l0 : List ByteArray) (r : List ByteArray) (w : World) (hr0 : Kd.C Kd.string w A0 l0.length l0) (hc0 : l0.length ≤ c0) (h : firkinref08_words.f l0 = some r) :
    Calls Try.prog 74 #[.slice A0 l0.length c0] w fun e w' => ∃ v0_ : Value, e = .returned v0_ ∧ Kd.R Kd.string 9 w' w.heap.size (fun _ => True) v0_ r ∧ Below w.heap.size w w' := by
  unfold firkinref08_words.f at h
  by_cases hf : l0.length < 100000
  case neg => rw [if_neg hf] at h; cases h
  rw [if_pos hf] at h
  obtain rfl := Option.some.inj h
  clear h
  have HR0 := Aside0.mk hr0
  have HF := Aside0.mk hf
  clear hr0
  go_enter Try.func74, Try.ntmps74
  go_wp2_with ((with_reducible refine gate_dst (N := 6) rfl ?_); refine Kd.R_lit Kd.string _ 9 ?hg (N := 6) ?hd (xs := ([] : List ByteArray)) (inner := []) (ok := fun _ => True) (okp := fun _ => True) ?hr ?hp (fun _ hk => hk) trivial (Below.refl _ _) (Nat.le_refl _) (by simp) ?_; (case hd => rfl); (case hg => rfl); (case hr => first | (go_simp; done) | (go_simp; rfl)); (case hp => exact (Reps.none _ _)); intro v3 w2 ho3 hb hg_ hnew_; clear hg_ hnew_; have HO := Aside0.mk ho3; have HB := Aside0.mk hb; clear ho3 hb)
  go_loopg [3, 4] (l0.length + 1) (fun kq v3 v4 w' => ∃ (i : Nat) (out : List ByteArray), v4 = .int .i64 (i : Int) ∧ Aside0 (kq + i = l0.length + 1) ∧ Aside0 (i ≤ l0.length) ∧ Aside0 (out = (l0.take i).foldl insW []) ∧ Aside0 (Kd.R Kd.string 9 w' w.heap.size (fun _ => True) v3 out) ∧ Aside0 (Below w.heap.size w w'))
  case atStart => exact ⟨0, [], rfl, ⟨by omega⟩, ⟨by omega⟩, ⟨rfl⟩, HO, HB⟩
  case round =>
    clear HO HB
    obtain ⟨i, out, rfl, HK, HI, HE, HO, HB⟩ := hrel
    cases gk with
    | zero => have h1 := HK.out; have h2 := HI.out; omega
    | succ k2 =>
    by_cases hi : i < l0.length
    · have c1 : decide ((i : Int) < (l0.length : Int)) = true := decide_eq_true (by omega)
      have c1b : decide (i < l0.length) = true := decide_eq_true hi
      have HIL := Aside0.mk hi
      obtain ⟨x, hx⟩ : ∃ x, x = rdOf ByteArray.empty l0 (i : Int) := ⟨_, rfl⟩
      obtain ⟨ad0, e0, hx0⟩ := Kd.at_string HR0.out (i : Int) (by omega) (by omega)
      subst e0
      rw [← hx] at hx0
      rw [Int.toNat_natCast] at hx0
      have HX0 := Aside0.mk hx0
      have hlen : out.length ≤ i := by have h1 := HE.out; have h2 := foldl_insW_len (l0.take i) []; rw [← h1, List.length_take] at h2; simp at h2; omega
      have HL := Aside0.mk hlen
      have HWI := Lib.hid (show wrap64 ((i : Int) + 1) = ((i + 1 : Nat) : Int) by unfold wrap64; omega)
      have HSTEP : Aside0 (insW out x = (l0.take (i + 1)).foldl insW []) := ⟨by
        have e1 : l0.take (i + 1) = l0.take i ++ [l0[i]] := by rw [List.take_succ_eq_append_getElem hi]
        have e2 : rdOf ByteArray.empty l0 (i : Int) = l0[i] := by unfold rdOf; simp [hi]
        rw [e1, List.foldl_append, ← HE.out, List.foldl_cons, List.foldl_nil, hx, e2]⟩
      obtain ⟨Ao, co, eo⟩ := Kd.R_slice HO.out
      subst eo
      clear hi hx hlen hx0
      go_wp2_with fail
      go_loopg [5] (out.length + 1) (fun kq v5 w' => ∃ (j : Nat), v5 = .int .i64 (j : Int) ∧ Aside0 (kq + j = out.length + 1) ∧ Aside0 (j ≤ out.length) ∧ Aside0 (∀ m, m < j → Op.bytesLess (out.getD m ByteArray.empty).toList x.toList = true) ∧ Aside0 (Kd.R Kd.string 9 w' w.heap.size (fun _ => True) (.slice Ao out.length co) out) ∧ Aside0 (Below w.heap.size w w'))
      case atStart => exact ⟨0, rfl, ⟨by omega⟩, ⟨by omega⟩, ⟨fun m hm => absurd hm (by omega)⟩, HO, HB⟩
      case round =>
        clear HO HB
        obtain ⟨j, rfl, HKJ, HJ, HP, HO, HB⟩ := hrel
        cases gk with
        | zero => have h1 := HKJ.out; have h2 := HJ.out; omega
        | succ k3 =>
        have hw0 : w.cell? (ad0.add i) = some (.string x) := HX0.out
        have hx0 := (HB.out.cell (World.block_lt_of_cell? w _ hw0)).trans hw0
        clear hw0
        have hil : i < l0.length := HIL.out
        have hii : (i : Int) < (l0.length : Int) := by omega
        have hi0 : (0 : Int) ≤ (i : Int) := by omega
        have hj0 : (0 : Int) ≤ (j : Int) := by omega
        by_cases hj : j < out.length
        · have hjj : (j : Int) < (out.length : Int) := by omega
          have c2 : decide ((j : Int) < (out.length : Int)) = true := decide_eq_true hjj
          have c2b : decide (j < out.length) = true := decide_eq_true hj
          obtain ⟨y, hy⟩ : ∃ y, y = rdOf ByteArray.empty out (j : Int) := ⟨_, rfl⟩
          obtain ⟨ad, ea, hy0⟩ := Kd.at_string (Kd.R_reads' HO.out).2.2 (j : Int) hj0 hjj
          subst ea
          rw [← hy, Int.toNat_natCast] at hy0
          rw [w_rd out j hj] at hy
          obtain ⟨tb, htb⟩ : ∃ t : Bool, Op.bytesLess y.toList x.toList = t := ⟨_, rfl⟩
          obtain ⟨te, hte⟩ : ∃ t : Bool, (y.toList == x.toList) = t := ⟨_, rfl⟩
          cases tb with
          | true =>
            have HY : Aside0 (∀ m, m < j + 1 → Op.bytesLess (out.getD m ByteArray.empty).toList x.toList = true) := ⟨fun m hm => by
              rcases Nat.lt_or_ge m j with h9 | h9
              · exact HP.out m h9
              · obtain rfl : m = j := by omega
                rw [← hy]; exact htb⟩
            have HJ2 := Aside0.mk hj
            have HW := Lib.hid (show wrap64 ((j : Int) + 1) = ((j + 1 : Nat) : Int) by have h1 := HL.out; have h2 := HF.out; unfold wrap64; omega)
            clear hj hy HP hte
            go_wp2
            go_quiet (fail)
            go_wp2
            go_roundg k3
            case measure => omega
            case rel => exact ⟨j + 1, congrArg (Value.int .i64) (by first | exact HW.out | omega), ⟨by have := HKJ.out; omega⟩, ⟨by have := HJ2.out; omega⟩, HY, ⟨by (with_reducible repeat (first | apply Kd.R_alloc | apply Kd.R_drewN | apply Kd.R_drew)); exact HO.out⟩, ⟨by repeat (first | (with_reducible first | exact HB.out | apply below_alloc | apply pw_below_drewN | apply below_drew1) | exact HB.out)⟩⟩
          | false =>
            have hpos := insPosW_is out x j HJ.out HP.out (Or.inr (by rw [← hy, htb]; decide))
            have HPOS := Aside0.mk hpos
            cases te with
            | true =>
              have hyx : y = x := ba_toList (eq_of_beq hte)
              have HSK : Aside0 (insW out x = out) := ⟨by unfold insW; rw [if_neg]; rw [hpos, ← hy]; rintro (h9 | h9); omega; exact h9 hyx⟩
              clear hj hy HP hyx hpos
              go_wp2
              go_quiet (fail)
              go_wp2
              go_quiet (fail)
              go_wp2
              go_roundg k2
              case measure => omega
              case rel => exact ⟨i + 1, out, congrArg (Value.int .i64) (by first | exact HWI.out | omega), ⟨by have := HK.out; omega⟩, ⟨by have := HIL.out; omega⟩, ⟨HSK.out.symm.trans HSTEP.out⟩, ⟨by (with_reducible repeat (first | apply Kd.R_alloc | apply Kd.R_drewN | apply Kd.R_drew)); exact HO.out⟩, ⟨by repeat (first | (with_reducible first | exact HB.out | apply below_alloc | apply pw_below_drewN | apply below_drew1) | exact HB.out)⟩⟩
            | false =>
              have hyx : y ≠ x := fun e => by rw [e, beq_self_eq_true] at hte; cases hte
              have HNE : Aside0 (insPosW out x = out.length ∨ out.getD (insPosW out x) ByteArray.empty ≠ x) := ⟨Or.inr (by rw [hpos, ← hy]; exact hyx)⟩
              clear hj hy HP hyx hpos
              go_wp2
              go_quiet (fail)
              go_wp2
              go_quiet (fail)
              go_wp2
              generalize hW0 : World.drewN _ _ = W0
              have HOW : Aside0 (Kd.R Kd.string 9 W0 w.heap.size (fun _ => True) (.slice (some ad) out.length co) out) := ⟨by rw [← hW0]; (with_reducible repeat (first | apply Kd.R_alloc | apply Kd.R_drewN | apply Kd.R_drew)); exact HO.out⟩
              have HBW : Aside0 (Below w.heap.size w W0) := ⟨by rw [← hW0]; repeat (first | (with_reducible first | exact HB.out | apply below_alloc | apply pw_below_drewN | apply below_drew1) | exact HB.out)⟩
              have hxw : W0.cell? (ad0.add i) = some (.string x) := by rw [← hW0]; simpa using hx0
              have HXW := Aside0.mk hxw
              have HBC := Aside0.mk (Below.refl W0.heap.size W0)
              obtain ⟨i5, hi5, hsz5⟩ : ∃ i, Try.prog.info? 9 = some i ∧ i.size = Kd.string.sz := by
                obtain ⟨i, hi, hz⟩ := Option.map_eq_some_iff.1 sinfo
                simp only [Prod.mk.injEq] at hz
                exact ⟨i, hi, hz.2.1⟩
              have hmx := Kd.C_max (Kd.R_reads' HOW.out).2.2
              obtain ⟨A', hcut, hCd, hld, hcd⟩ := Mem.cut_from' (P := Try.prog) (d := Kd.string) 47 9 .i64 Try.underlying47 hi5 hsz5 (m := j) (Kd.R_reads' HOW.out).2.2 HJ.out (Kd.R_reads' HOW.out).2.1
              have hlt0 : (out.take j).length = j := by rw [List.length_take]; have := HJ.out; omega
              have hCt := Kd.C_take (Kd.R_reads' HOW.out).2.2 HJ.out
              rw [hlt0] at hCt
              have HCD := Aside0.mk hCd
              have HLD := Aside0.mk hld
              have HCT := Aside0.mk hCt
              have hjl : (j : Int) ≤ (out.length : Int) := by have := HJ.out; omega
              have hlc : (out.length : Int) ≤ (co : Int) := by have := (Kd.R_reads' HOW.out).2.1; omega
              have hjc : (j : Int) ≤ (co : Int) := by omega
              have hjcb : decide ((j : Int) ≤ (co : Int)) = true := decide_eq_true hjc
              have HLT := Aside0.mk hlt0
              have HRES : Aside0 (insW out x = (out.take j ++ [x]) ++ out.drop j) := ⟨by unfold insW; rw [if_pos HNE.out, HPOS.out]⟩
              clear hCd hld hCt hi5 hlt0 hx0 HO HB hxw hcd
              go_region_held3 (fun w' => w'.cell? (ad0.add i) = some (.string x)) (first | exact (Below.cell (B := W0.heap.size) (by first | ((with_reducible repeat (first | exact HBC.out | apply below_alloc | apply below_drew1)); done) | fail) (World.block_lt_of_cell? W0 _ HXW.out)).trans HXW.out)
                (first
                  | (refine Kd.R_append_rows_step Kd.string (w0 := W0) W0.heap.size (by first | (simp [Region.wanted]; done) | fail) (.tmp 45) (.tmp 48) 47 9 (.string ByteArray.empty) 16 rfl Try.underlying47 sinfo rfl (by decide) (by omega) (.slice (some ⟨W0.heap.size, 0, none⟩) 0 0) [] (out.take j) (some ad) j co (fun _ => True) (fun _ => False) (by first | (simp [Act.eval, Act.put]; done) | fail) (by first | (simp [Act.eval, Act.put]; done) | fail) (by first | ((with_reducible repeat (first | (with_reducible exact lit0s _ _ _ (by first | rfl | (simp; done) | fail) (by first | exact Nat.le_refl _ | (simp; done) | fail)) | apply Kd.R_drew | apply Kd.R_alloc)); done) | fail) (Kd.C_below HCT.out (by first | ((with_reducible repeat (first | exact HBC.out | apply below_alloc | apply below_drew1)); done) | fail)) (fun _ _ h => h) (fun _ h => h.elim) (fun _ _ => trivial) (by first | ((with_reducible repeat (first | exact HBC.out | apply below_alloc | apply below_drew1)); done) | fail) (below_size (by first | ((with_reducible repeat (first | exact HBC.out | apply below_alloc | apply below_drew1)); done) | fail)) (by have h1 := HLT.out; have h2 := HL.out; have h3 := HF.out; have h4 := HJ.out; have h5 := HI.out; have h6 := HLD.out; simp only [List.nil_append, List.length_append, List.length_singleton, List.length_nil]; omega) ?_; intro v56 w56 ho hb hg hn; have HO56 := Aside0.mk ho; (try (have HO61 := Aside0.mk (Kd.R_grown2 (v := .slice (some ⟨W0.heap.size + 1, 0, none⟩) 1 1) (xs := [x]) (e := 9) (base := W0.heap.size) (ok := fun _ => True) (by first | ((with_reducible repeat (first | (with_reducible exact lit1s _ _ _ _ (by first | rfl | (simp; done) | fail) (by first | exact Nat.le_refl _ | (simp; done) | fail)) | apply Kd.R_drew | apply Kd.R_alloc)); done) | fail) rfl hg (by intro k hk; simp [Value.ownBlock] at hk ⊢; omega)))); clear HBC; have HBC := Aside0.mk hb; clear ho hb hg hn)
                  | (refine Kd.R_append_rows_step Kd.string (w0 := W0) W0.heap.size (by first | (simp [Region.wanted]; done) | fail) (.tmp 45) (.tmp 48) 47 9 (.string ByteArray.empty) 16 rfl Try.underlying47 sinfo rfl (by decide) (by omega) (.slice (some ⟨W0.heap.size + 1, 0, none⟩) 0 0) [] (out.take j) (some ad) j co (fun _ => True) (fun _ => False) (by first | (simp [Act.eval, Act.put]; done) | fail) (by first | (simp [Act.eval, Act.put]; done) | fail) (by first | ((with_reducible repeat (first | (with_reducible exact lit0s _ _ _ (by first | rfl | (simp; done) | fail) (by first | exact Nat.le_refl _ | (simp; done) | fail)) | apply Kd.R_drew | apply Kd.R_alloc)); done) | fail) (Kd.C_below HCT.out (by first | ((with_reducible repeat (first | exact HBC.out | apply below_alloc | apply below_drew1)); done) | fail)) (fun _ _ h => h) (fun _ h => h.elim) (fun _ _ => trivial) (by first | ((with_reducible repeat (first | exact HBC.out | apply below_alloc | apply below_drew1)); done) | fail) (below_size (by first | ((with_reducible repeat (first | exact HBC.out | apply below_alloc | apply below_drew1)); done) | fail)) (by have h1 := HLT.out; have h2 := HL.out; have h3 := HF.out; have h4 := HJ.out; have h5 := HI.out; have h6 := HLD.out; simp only [List.nil_append, List.length_append, List.length_singleton, List.length_nil]; omega) ?_; intro v56 w56 ho hb hg hn; have HO56 := Aside0.mk ho; (try (have HO61 := Aside0.mk (Kd.R_grown2 (v := .slice (some ⟨W0.heap.size, 0, none⟩) 1 1) (xs := [x]) (e := 9) (base := W0.heap.size) (ok := fun _ => True) (by first | ((with_reducible repeat (first | (with_reducible exact lit1s _ _ _ _ (by first | rfl | (simp; done) | fail) (by first | exact Nat.le_refl _ | (simp; done) | fail)) | apply Kd.R_drew | apply Kd.R_alloc)); done) | fail) rfl hg (by intro k hk; simp [Value.ownBlock] at hk ⊢; omega)))); clear HBC; have HBC := Aside0.mk hb; clear ho hb hg hn)
                  | (refine Kd.R_append_rows_step Kd.string (w0 := W0) W0.heap.size (by first | (simp [Region.wanted]; done) | fail) (.tmp 49) (.tmp 54) 47 9 (.string ByteArray.empty) 16 rfl Try.underlying47 sinfo rfl (by decide) (by omega) v56 ([] ++ out.take j) [x] (some ⟨w56.heap.size, 0, none⟩) 1 1 (fun _ => True) (fun _ => False) (by first | (simp [Act.eval, Act.put]; done) | fail) (by first | (simp [Act.eval, Act.put]; done) | fail) (by first | ((with_reducible repeat (first | exact HO56.out | apply Kd.R_drew | apply Kd.R_alloc)); done) | fail) (Kd.R_reads' (base := W0.heap.size) (ok := fun _ => True) (by first | ((with_reducible repeat (first | (with_reducible exact lit1s _ _ _ _ (by simp) (by first | exact below_size HBC.out | (simp; exact below_size HBC.out))) | apply Kd.R_drew | apply Kd.R_alloc)); done) | fail)).2.2 (fun _ _ h => h) (fun _ h => h.elim) (fun _ _ => trivial) (by first | ((with_reducible repeat (first | exact HBC.out | apply below_alloc | apply below_drew1)); done) | fail) (below_size (by first | ((with_reducible repeat (first | exact HBC.out | apply below_alloc | apply below_drew1)); done) | fail)) (by have h1 := HLT.out; have h2 := HL.out; have h3 := HF.out; have h4 := HJ.out; have h5 := HI.out; have h6 := HLD.out; simp only [List.nil_append, List.length_append, List.length_singleton, List.length_nil]; omega) ?_; intro v62 w62 ho hb hg hn; have HO62 := Aside0.mk ho; clear HO56; clear HBC; have HBC := Aside0.mk hb; clear ho hb hg hn)
                  | (refine Kd.R_append_rows_step Kd.string (w0 := W0) W0.heap.size (by first | (simp [Region.wanted]; done) | fail) (.tmp 49) (.tmp 54) 47 9 (.string ByteArray.empty) 16 rfl Try.underlying47 sinfo rfl (by decide) (by omega) v56 ([] ++ out.take j) [x] (some ⟨W0.heap.size + 1, 0, none⟩) 1 1 (fun _ => True) (fun _ => False) (by first | (simp [Act.eval, Act.put]; done) | fail) (by first | (simp [Act.eval, Act.put]; done) | fail) HO56.out (Kd.R_reads' HO61.out).2.2 (fun _ _ h => h) (fun _ h => h.elim) (fun _ _ => trivial) (by first | ((with_reducible repeat (first | exact HBC.out | apply below_alloc | apply below_drew1)); done) | fail) (below_size (by first | ((with_reducible repeat (first | exact HBC.out | apply below_alloc | apply below_drew1)); done) | fail)) (by have h1 := HLT.out; have h2 := HL.out; have h3 := HF.out; have h4 := HJ.out; have h5 := HI.out; have h6 := HLD.out; simp only [List.nil_append, List.length_append, List.length_singleton, List.length_nil]; omega) ?_; intro v62 w62 ho hb hg hn; have HO62 := Aside0.mk ho; clear HO56 HO61; clear HBC; have HBC := Aside0.mk hb; clear ho hb hg hn)
                  | (refine Kd.R_append_rows_step Kd.string (w0 := W0) W0.heap.size (by first | (simp [Region.wanted]; done) | fail) (.tmp 49) (.tmp 54) 47 9 (.string ByteArray.empty) 16 rfl Try.underlying47 sinfo rfl (by decide) (by omega) v56 ([] ++ out.take j) [x] (some ⟨W0.heap.size, 0, none⟩) 1 1 (fun _ => True) (fun _ => False) (by first | (simp [Act.eval, Act.put]; done) | fail) (by first | (simp [Act.eval, Act.put]; done) | fail) HO56.out (Kd.R_reads' HO61.out).2.2 (fun _ _ h => h) (fun _ h => h.elim) (fun _ _ => trivial) (by first | ((with_reducible repeat (first | exact HBC.out | apply below_alloc | apply below_drew1)); done) | fail) (below_size (by first | ((with_reducible repeat (first | exact HBC.out | apply below_alloc | apply below_drew1)); done) | fail)) (by have h1 := HLT.out; have h2 := HL.out; have h3 := HF.out; have h4 := HJ.out; have h5 := HI.out; have h6 := HLD.out; simp only [List.nil_append, List.length_append, List.length_singleton, List.length_nil]; omega) ?_; intro v62 w62 ho hb hg hn; have HO62 := Aside0.mk ho; clear HO56 HO61; clear HBC; have HBC := Aside0.mk hb; clear ho hb hg hn)
                  | (refine Kd.R_append_rows_step Kd.string (w0 := W0) W0.heap.size (by first | (simp [Region.wanted]; done) | fail) (.tmp 55) (.tmp 58) 47 9 (.string ByteArray.empty) 16 rfl Try.underlying47 sinfo rfl (by decide) (by omega) v62 ([] ++ out.take j ++ [x]) (out.drop j) A' (out.length - j) (co - j) (fun _ => True) (fun _ => False) (by first | (simp [Act.eval, Act.put]; done) | fail) (by first | (simp [Act.eval, Act.put]; done) | fail) HO62.out (Kd.C_below HCD.out (by first | ((with_reducible repeat (first | exact HBC.out | apply below_alloc | apply below_drew1)); done) | fail)) (fun _ _ h => h) (fun _ h => h.elim) (fun _ _ => trivial) (by first | ((with_reducible repeat (first | exact HBC.out | apply below_alloc | apply below_drew1)); done) | fail) (below_size (by first | ((with_reducible repeat (first | exact HBC.out | apply below_alloc | apply below_drew1)); done) | fail)) (by have h1 := HLT.out; have h2 := HL.out; have h3 := HF.out; have h4 := HJ.out; have h5 := HI.out; have h6 := HLD.out; simp only [List.nil_append, List.length_append, List.length_singleton, List.length_nil]; omega) ?_; intro v66 w66 ho hb hg hn; have HO66 := Aside0.mk ho; clear HO62; clear HBC; have HBC := Aside0.mk hb; clear ho hb hg hn)
                  | fail)
              all_goals
                have HF66 := Aside0.mk (Kd.R_lower HO66.out (below_size HBW.out))
                have HB66 := Aside0.mk (below_step HBW.out HBC.out)
                clear HO66 HBC HOW HBW HCT HCD hcut
                go_wp2
                go_roundg k2
                case measure => omega
                case rel => exact ⟨i + 1, _, congrArg (Value.int .i64) (by first | exact HWI.out | omega), ⟨by have := HK.out; omega⟩, ⟨by have := HIL.out; omega⟩, ⟨HSTEP.out⟩, ⟨by rw [HRES.out]; exact HF66.out⟩, HB66⟩
        · have hje : j = out.length := by have := HJ.out; omega
          have c2 : decide ((j : Int) < (out.length : Int)) = false := decide_eq_false (by omega)
          have c2b : decide (j < out.length) = false := decide_eq_false hj
          have HPOS := Aside0.mk (insPosW_is out x j HJ.out HP.out (Or.inl hje))
          have HNE : Aside0 (insPosW out x = out.length ∨ out.getD (insPosW out x) ByteArray.empty ≠ x) := ⟨Or.inl (by rw [HPOS.out]; exact hje)⟩
          clear hj hje HP
          go_wp2
          go_quiet (fail)
          go_wp2
          go_quiet (fail)
          go_wp2
          generalize hW0 : World.drewN _ _ = W0
          have HOW : Aside0 (Kd.R Kd.string 9 W0 w.heap.size (fun _ => True) (.slice Ao out.length co) out) := ⟨by rw [← hW0]; (with_reducible repeat (first | apply Kd.R_alloc | apply Kd.R_drewN | apply Kd.R_drew)); exact HO.out⟩
          have HBW : Aside0 (Below w.heap.size w W0) := ⟨by rw [← hW0]; repeat (first | (with_reducible first | exact HB.out | apply below_alloc | apply pw_below_drewN | apply below_drew1) | exact HB.out)⟩
          have hxw : W0.cell? (ad0.add i) = some (.string x) := by rw [← hW0]; simpa using hx0
          have HXW := Aside0.mk hxw
          have HBC := Aside0.mk (Below.refl W0.heap.size W0)
          obtain ⟨i5, hi5, hsz5⟩ : ∃ i, Try.prog.info? 9 = some i ∧ i.size = Kd.string.sz := by
            obtain ⟨i, hi, hz⟩ := Option.map_eq_some_iff.1 sinfo
            simp only [Prod.mk.injEq] at hz
            exact ⟨i, hi, hz.2.1⟩
          have hmx := Kd.C_max (Kd.R_reads' HOW.out).2.2
          obtain ⟨A', hcut, hCd, hld, hcd⟩ := Mem.cut_from' (P := Try.prog) (d := Kd.string) 47 9 .i64 Try.underlying47 hi5 hsz5 (m := j) (Kd.R_reads' HOW.out).2.2 HJ.out (Kd.R_reads' HOW.out).2.1
          have hlt0 : (out.take j).length = j := by rw [List.length_take]; have := HJ.out; omega
          have hCt := Kd.C_take (Kd.R_reads' HOW.out).2.2 HJ.out
          rw [hlt0] at hCt
          have HCD := Aside0.mk hCd
          have HLD := Aside0.mk hld
          have HCT := Aside0.mk hCt
          have hjl : (j : Int) ≤ (out.length : Int) := by have := HJ.out; omega
          have hlc : (out.length : Int) ≤ (co : Int) := by have := (Kd.R_reads' HOW.out).2.1; omega
          have hjc : (j : Int) ≤ (co : Int) := by omega
          have hjcb : decide ((j : Int) ≤ (co : Int)) = true := decide_eq_true hjc
          have HLT := Aside0.mk hlt0
          have HRES : Aside0 (insW out x = (out.take j ++ [x]) ++ out.drop j) := ⟨by unfold insW; rw [if_pos HNE.out, HPOS.out]⟩
          clear hCd hld hCt hi5 hlt0 hx0 HO HB hxw hcd
          go_region_held3 (fun w' => w'.cell? (ad0.add i) = some (.string x)) (first | exact (Below.cell (B := W0.heap.size) (by first | ((with_reducible repeat (first | exact HBC.out | apply below_alloc | apply below_drew1)); done) | fail) (World.block_lt_of_cell? W0 _ HXW.out)).trans HXW.out)
            (first
              | (refine Kd.R_append_rows_step Kd.string (w0 := W0) W0.heap.size (by first | (simp [Region.wanted]; done) | fail) (.tmp 45) (.tmp 48) 47 9 (.string ByteArray.empty) 16 rfl Try.underlying47 sinfo rfl (by decide) (by omega) (.slice (some ⟨W0.heap.size, 0, none⟩) 0 0) [] (out.take j) Ao j co (fun _ => True) (fun _ => False) (by first | (simp [Act.eval, Act.put]; done) | fail) (by first | (simp [Act.eval, Act.put]; done) | fail) (by first | ((with_reducible repeat (first | (with_reducible exact lit0s _ _ _ (by first | rfl | (simp; done) | fail) (by first | exact Nat.le_refl _ | (simp; done) | fail)) | apply Kd.R_drew | apply Kd.R_alloc)); done) | fail) (Kd.C_below HCT.out (by first | ((with_reducible repeat (first | exact HBC.out | apply below_alloc | apply below_drew1)); done) | fail)) (fun _ _ h => h) (fun _ h => h.elim) (fun _ _ => trivial) (by first | ((with_reducible repeat (first | exact HBC.out | apply below_alloc | apply below_drew1)); done) | fail) (below_size (by first | ((with_reducible repeat (first | exact HBC.out | apply below_alloc | apply below_drew1)); done) | fail)) (by have h1 := HLT.out; have h2 := HL.out; have h3 := HF.out; have h4 := HJ.out; have h5 := HI.out; have h6 := HLD.out; simp only [List.nil_append, List.length_append, List.length_singleton, List.length_nil]; omega) ?_; intro v56 w56 ho hb hg hn; have HO56 := Aside0.mk ho; (try (have HO61 := Aside0.mk (Kd.R_grown2 (v := .slice (some ⟨W0.heap.size + 1, 0, none⟩) 1 1) (xs := [x]) (e := 9) (base := W0.heap.size) (ok := fun _ => True) (by first | ((with_reducible repeat (first | (with_reducible exact lit1s _ _ _ _ (by first | rfl | (simp; done) | fail) (by first | exact Nat.le_refl _ | (simp; done) | fail)) | apply Kd.R_drew | apply Kd.R_alloc)); done) | fail) rfl hg (by intro k hk; simp [Value.ownBlock] at hk ⊢; omega)))); clear HBC; have HBC := Aside0.mk hb; clear ho hb hg hn)
              | (refine Kd.R_append_rows_step Kd.string (w0 := W0) W0.heap.size (by first | (simp [Region.wanted]; done) | fail) (.tmp 45) (.tmp 48) 47 9 (.string ByteArray.empty) 16 rfl Try.underlying47 sinfo rfl (by decide) (by omega) (.slice (some ⟨W0.heap.size + 1, 0, none⟩) 0 0) [] (out.take j) Ao j co (fun _ => True) (fun _ => False) (by first | (simp [Act.eval, Act.put]; done) | fail) (by first | (simp [Act.eval, Act.put]; done) | fail) (by first | ((with_reducible repeat (first | (with_reducible exact lit0s _ _ _ (by first | rfl | (simp; done) | fail) (by first | exact Nat.le_refl _ | (simp; done) | fail)) | apply Kd.R_drew | apply Kd.R_alloc)); done) | fail) (Kd.C_below HCT.out (by first | ((with_reducible repeat (first | exact HBC.out | apply below_alloc | apply below_drew1)); done) | fail)) (fun _ _ h => h) (fun _ h => h.elim) (fun _ _ => trivial) (by first | ((with_reducible repeat (first | exact HBC.out | apply below_alloc | apply below_drew1)); done) | fail) (below_size (by first | ((with_reducible repeat (first | exact HBC.out | apply below_alloc | apply below_drew1)); done) | fail)) (by have h1 := HLT.out; have h2 := HL.out; have h3 := HF.out; have h4 := HJ.out; have h5 := HI.out; have h6 := HLD.out; simp only [List.nil_append, List.length_append, List.length_singleton, List.length_nil]; omega) ?_; intro v56 w56 ho hb hg hn; have HO56 := Aside0.mk ho; (try (have HO61 := Aside0.mk (Kd.R_grown2 (v := .slice (some ⟨W0.heap.size, 0, none⟩) 1 1) (xs := [x]) (e := 9) (base := W0.heap.size) (ok := fun _ => True) (by first | ((with_reducible repeat (first | (with_reducible exact lit1s _ _ _ _ (by first | rfl | (simp; done) | fail) (by first | exact Nat.le_refl _ | (simp; done) | fail)) | apply Kd.R_drew | apply Kd.R_alloc)); done) | fail) rfl hg (by intro k hk; simp [Value.ownBlock] at hk ⊢; omega)))); clear HBC; have HBC := Aside0.mk hb; clear ho hb hg hn)
              | (refine Kd.R_append_rows_step Kd.string (w0 := W0) W0.heap.size (by first | (simp [Region.wanted]; done) | fail) (.tmp 49) (.tmp 54) 47 9 (.string ByteArray.empty) 16 rfl Try.underlying47 sinfo rfl (by decide) (by omega) v56 ([] ++ out.take j) [x] (some ⟨w56.heap.size, 0, none⟩) 1 1 (fun _ => True) (fun _ => False) (by first | (simp [Act.eval, Act.put]; done) | fail) (by first | (simp [Act.eval, Act.put]; done) | fail) (by first | ((with_reducible repeat (first | exact HO56.out | apply Kd.R_drew | apply Kd.R_alloc)); done) | fail) (Kd.R_reads' (base := W0.heap.size) (ok := fun _ => True) (by first | ((with_reducible repeat (first | (with_reducible exact lit1s _ _ _ _ (by simp) (by first | exact below_size HBC.out | (simp; exact below_size HBC.out))) | apply Kd.R_drew | apply Kd.R_alloc)); done) | fail)).2.2 (fun _ _ h => h) (fun _ h => h.elim) (fun _ _ => trivial) (by first | ((with_reducible repeat (first | exact HBC.out | apply below_alloc | apply below_drew1)); done) | fail) (below_size (by first | ((with_reducible repeat (first | exact HBC.out | apply below_alloc | apply below_drew1)); done) | fail)) (by have h1 := HLT.out; have h2 := HL.out; have h3 := HF.out; have h4 := HJ.out; have h5 := HI.out; have h6 := HLD.out; simp only [List.nil_append, List.length_append, List.length_singleton, List.length_nil]; omega) ?_; intro v62 w62 ho hb hg hn; have HO62 := Aside0.mk ho; clear HO56; clear HBC; have HBC := Aside0.mk hb; clear ho hb hg hn)
              | (refine Kd.R_append_rows_step Kd.string (w0 := W0) W0.heap.size (by first | (simp [Region.wanted]; done) | fail) (.tmp 49) (.tmp 54) 47 9 (.string ByteArray.empty) 16 rfl Try.underlying47 sinfo rfl (by decide) (by omega) v56 ([] ++ out.take j) [x] (some ⟨W0.heap.size + 1, 0, none⟩) 1 1 (fun _ => True) (fun _ => False) (by first | (simp [Act.eval, Act.put]; done) | fail) (by first | (simp [Act.eval, Act.put]; done) | fail) HO56.out (Kd.R_reads' HO61.out).2.2 (fun _ _ h => h) (fun _ h => h.elim) (fun _ _ => trivial) (by first | ((with_reducible repeat (first | exact HBC.out | apply below_alloc | apply below_drew1)); done) | fail) (below_size (by first | ((with_reducible repeat (first | exact HBC.out | apply below_alloc | apply below_drew1)); done) | fail)) (by have h1 := HLT.out; have h2 := HL.out; have h3 := HF.out; have h4 := HJ.out; have h5 := HI.out; have h6 := HLD.out; simp only [List.nil_append, List.length_append, List.length_singleton, List.length_nil]; omega) ?_; intro v62 w62 ho hb hg hn; have HO62 := Aside0.mk ho; clear HO56 HO61; clear HBC; have HBC := Aside0.mk hb; clear ho hb hg hn)
              | (refine Kd.R_append_rows_step Kd.string (w0 := W0) W0.heap.size (by first | (simp [Region.wanted]; done) | fail) (.tmp 49) (.tmp 54) 47 9 (.string ByteArray.empty) 16 rfl Try.underlying47 sinfo rfl (by decide) (by omega) v56 ([] ++ out.take j) [x] (some ⟨W0.heap.size, 0, none⟩) 1 1 (fun _ => True) (fun _ => False) (by first | (simp [Act.eval, Act.put]; done) | fail) (by first | (simp [Act.eval, Act.put]; done) | fail) HO56.out (Kd.R_reads' HO61.out).2.2 (fun _ _ h => h) (fun _ h => h.elim) (fun _ _ => trivial) (by first | ((with_reducible repeat (first | exact HBC.out | apply below_alloc | apply below_drew1)); done) | fail) (below_size (by first | ((with_reducible repeat (first | exact HBC.out | apply below_alloc | apply below_drew1)); done) | fail)) (by have h1 := HLT.out; have h2 := HL.out; have h3 := HF.out; have h4 := HJ.out; have h5 := HI.out; have h6 := HLD.out; simp only [List.nil_append, List.length_append, List.length_singleton, List.length_nil]; omega) ?_; intro v62 w62 ho hb hg hn; have HO62 := Aside0.mk ho; clear HO56 HO61; clear HBC; have HBC := Aside0.mk hb; clear ho hb hg hn)
              | (refine Kd.R_append_rows_step Kd.string (w0 := W0) W0.heap.size (by first | (simp [Region.wanted]; done) | fail) (.tmp 55) (.tmp 58) 47 9 (.string ByteArray.empty) 16 rfl Try.underlying47 sinfo rfl (by decide) (by omega) v62 ([] ++ out.take j ++ [x]) (out.drop j) A' (out.length - j) (co - j) (fun _ => True) (fun _ => False) (by first | (simp [Act.eval, Act.put]; done) | fail) (by first | (simp [Act.eval, Act.put]; done) | fail) HO62.out (Kd.C_below HCD.out (by first | ((with_reducible repeat (first | exact HBC.out | apply below_alloc | apply below_drew1)); done) | fail)) (fun _ _ h => h) (fun _ h => h.elim) (fun _ _ => trivial) (by first | ((with_reducible repeat (first | exact HBC.out | apply below_alloc | apply below_drew1)); done) | fail) (below_size (by first | ((with_reducible repeat (first | exact HBC.out | apply below_alloc | apply below_drew1)); done) | fail)) (by have h1 := HLT.out; have h2 := HL.out; have h3 := HF.out; have h4 := HJ.out; have h5 := HI.out; have h6 := HLD.out; simp only [List.nil_append, List.length_append, List.length_singleton, List.length_nil]; omega) ?_; intro v66 w66 ho hb hg hn; have HO66 := Aside0.mk ho; clear HO62; clear HBC; have HBC := Aside0.mk hb; clear ho hb hg hn)
              | fail)
          all_goals
            have HF66 := Aside0.mk (Kd.R_lower HO66.out (below_size HBW.out))
            have HB66 := Aside0.mk (below_step HBW.out HBC.out)
            clear HO66 HBC HOW HBW HCT HCD hcut
            go_wp2
            go_roundg k2
            case measure => omega
            case rel => exact ⟨i + 1, _, congrArg (Value.int .i64) (by first | exact HWI.out | omega), ⟨by have := HK.out; omega⟩, ⟨by have := HIL.out; omega⟩, ⟨HSTEP.out⟩, ⟨by rw [HRES.out]; exact HF66.out⟩, HB66⟩
    · have hie : i = l0.length := by have := HI.out; omega
      have c1 : decide ((i : Int) < (l0.length : Int)) = false := decide_eq_false (by omega)
      have c1b : decide (i < l0.length) = false := decide_eq_false hi
      have HR : Aside0 (out = l0.foldl insW []) := ⟨by have h1 := HE.out; rw [hie, List.take_length] at h1; exact h1⟩
      clear hi hie
      go_wp2
      go_ret
      exact ⟨_, rfl, by rw [← HR.out]; exact HO.out, HB.out⟩
end Go.Proofs.Ytbbffnlefmogbaa.X
