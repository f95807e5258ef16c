/- TightOne: for every input the call returns true, and each argument reads behind the call as it read before it. No condition. (Part 2 of 2: this session's texts, laid together by wip/merge.py.) -/
import Derived.Deep.QuietTactic
import Derived.BigQuiet
import Derived.Test.YtbbffnlefmogbaaX0
import Derived.Test.YtbbffnlefmogbaaEnc0
import Derived.Test.YtbbffnlefmogbaaRound
import Derived.Test.YtbbffnlefmogbaaMem2
import Derived.Lib.Hide
import Derived.Test.YtbbffnlefmogbaaWf
import Derived.Test.YtbbffnlefmogbaaRows
import Derived.Test.YtbbffnlefmogbaaOpens
import Derived.WalkKit
import Derived.ProofKit
import Derived.OpenShut
import Derived.ShutString
import Derived.ChangeOld
import Derived.Below
import Derived.SizedLaws
import Derived.Test.YtbbffnlefmogbaaMTightOne0
/- The contract of tight.open: a row of bytes as a packed row of so many numbers; or it is none. -/
namespace Go.Proofs.Ytbbffnlefmogbaa.X
open Go.RowKit Go.Proofs.YtbbffnlefmogbaaW.PrintWords Go.Proofs.YtbbffnlefmogbaaW.PrintLast Go.Proofs.YtbbffnlefmogbaaW.PrintMore
set_option linter.unusedVariables false
set_option linter.unusedSimpArgs false
/-- May so many bytes be so many numbers, so wide? -/
def fits (n y m : Nat) : Bool := if y = 0 then m == 0 else decide (n ≤ 8 * m / y) && decide (8 * m / y - n < 8) && ((n * y + 7) / 8 == m)
/-- What is opened: the least number, how wide, the bytes, whether they are so many numbers. -/
def tight_open.f (l : List Int) (n : Nat) : Option (Option (Int × Int × List Int × Bool)) :=
  if l.length < 1000000000 ∧ 1 ≤ n ∧ n ≤ 4096 then (vint_Source_Int.f l false).bind fun a => (vint_Source_Take.f a.2.1 a.2.2 1).bind fun t =>
    if t.2.2 = true then some none else if rd t.1 0 > 64 then some none else if 0 ≤ rd t.1 0 then (vint_Source_Left.f t.2.1 false).bind fun q => (vint_Source_Take.f q.2.1 q.2.2 q.1).bind fun u => if u.1.length < 1000000000 then some (some (a.1, rd t.1 0, u.1, fits n (rd t.1 0).toNat u.1.length)) else none else none
  else none
/-- What stands behind the call. -/
def Opened (w : World) (r : Option (Int × Int × List Int × Bool)) (e : Ending) (w' : World) : Prop :=
  Below w.heap.size w w' ∧ match r with
      | none => e = .returned (.tuple #[.pointer none, .bool false])
      | some (lo, y, b, t) => ∃ g A c, e = .returned (.tuple #[.pointer (some ⟨g, 0, none⟩), .bool t]) ∧ w'.heap[g]? = some (.cells #[.slice A b.length c, .int .i64 0, .int .i64 lo, .int .i64 y] 60 (0, 0)) ∧ w.heap.size ≤ g ∧ b.length ≤ c ∧ Kd.C (Kd.int .u8) w' A b.length b ∧ (∀ ad, A = some ad → 0 < b.length → ad.block ≠ g)
set_option maxHeartbeats 8000000 in
set_option maxRecDepth 1000000 in
theorem tight_open.calls (A0 : Option Addr) (c0 : Nat) (l0 : List Int) (n : Nat) (r : Option (Int × Int × List Int × Bool)) (w : World) (hr0 : Kd.C (Kd.int .u8) w A0 l0.length l0) (hc0 : l0.length ≤ c0) (h : tight_open.f l0 n = some r) :
    Calls Try.prog 47 #[.slice A0 l0.length c0, .int .i64 (n : Int)] w (Opened w r) := by
  unfold tight_open.f at h
  by_cases hf : l0.length < 1000000000 ∧ 1 ≤ n ∧ n ≤ 4096
  case neg => rw [if_neg hf] at h; cases h
  rw [if_pos hf] at h
  obtain ⟨⟨lo, l1, b1⟩, e1, h⟩ := Option.bind_eq_some_iff.mp h
  obtain ⟨⟨t1, l2, b2⟩, e2, h⟩ := Option.bind_eq_some_iff.mp h
  simp only at h e1 e2
  have E1 := Aside0.mk e1
  have E2 := Aside0.mk e2
  have HH := Aside0.mk h
  have HF := Aside0.mk hf
  have HR0 := Aside0.mk hr0
  clear e1 e2 h hf hr0
  have hu := Try.underlying60
  have hu2 := Try.underlying58
  go_enter Try.func47, Try.ntmps47
  go_wp2_with fail
  refine (vint_From.calls2 A0 c0 l0 w w (Below.refl _ _) HR0.out hc0).mono ?_
  rintro e w2 ⟨g, rfl, s2, B2, _, hg2⟩
  go_wp2_with fail
  refine (vint_Source_Int.calls g l0 false lo l1 b1 w _ s2 B2 E1.out).mono ?_
  rintro e w3 ⟨rfl, s3, B3, K3⟩
  clear s2 B2 K3
  go_wp2_with fail
  refine (vint_Source_Take.calls g l1 b1 1 t1 l2 b2 w _ s3 B3 E2.out).mono ?_
  rintro e w4 ⟨v4, rfl, R4, s4, B4, K4⟩
  have HB4 := Aside0.mk B4
  have HS4 := Aside0.mk s4
  have HR4 := Aside0.mk (Kd.R_bound R4)
  have HG2 := Aside0.mk (IsS75.lt s3)
  clear s3 B3 K4 R4 B4 s4
  obtain ⟨A4, c4, e4⟩ := Kd.R_slice HR4.out
  subst e4
  go_wp2_with fail
  refine (vint_Source_Ok.same g l2 b2 w _ HS4.out).mono ?_
  rintro e w5 ⟨rfl, rfl⟩
  cases b2 with
  | true =>
    have h := HH.out
    rw [if_pos rfl] at h
    obtain rfl := Option.some.inj h
    clear h
    go_wp2_with fail
    go_ret2
    exact ⟨HB4.out, rfl⟩
  | false =>
    have h := HH.out
    rw [if_neg (show ¬ (false = true) by decide)] at h
    have HL1 : Aside0 (t1.length = 1) := ⟨by
      have h9 := E2.out
      unfold vint_Source_Take.f at h9
      split at h9
      · have h8 := Option.some.inj h9
        unfold takeS at h8
        split at h8
        · simp at h8
        · rename_i h7
          simp only [Prod.mk.injEq] at h8
          rw [← h8.1, List.length_take]
          have h6 : ¬ ((l1.length : Int) < 1) := fun h5 => h7 (Or.inr (Or.inr h5))
          show min (1 : Int).toNat l1.length = 1
          rw [show (1 : Int).toNat = 1 from rfl]
          omega
      · cases h9⟩
    have hl1 := HL1.out
    have hp0 : (0 : Int) < (t1.length : Int) := by omega
    obtain ⟨gb, cp, ev, hgb1, hgb2, cells, hcl⟩ := Kd.R_form HR4.out (by omega)
    injection ev with ev1 _ ev3
    subst ev1 ev3
    obtain ⟨ad, ea, hy0⟩ := Kd.at_int (Kd.R_reads' HR4.out).2.2 (0 : Int) (by omega) hp0
    injection ea with ea
    subst ea
    have eadd : (⟨gb, 0, none⟩ : Addr).add (0 : Int).toNat = ⟨gb, 0, none⟩ := by unfold Addr.add; split <;> simp_all
    rw [eadd] at hy0
    clear hcl hgb1 hgb2 eadd
    obtain ⟨y, hy⟩ : ∃ y, rd t1 0 = y := ⟨_, rfl⟩
    rw [hy] at hy0 h
    have hp1 : 0 < t1.length := by omega
    by_cases h64 : y > 64
    · rw [if_pos h64] at h
      obtain rfl := Option.some.inj h
      have d1 : decide (y > 64) = true := decide_eq_true h64
      have d1b : decide (64 < y) = true := decide_eq_true h64
      clear h hl1 h64
      go_wp2_with fail
      go_ret2
      exact ⟨HB4.out, rfl⟩
    rw [if_neg h64] at h
    by_cases hy1 : 0 ≤ y
    case neg => rw [if_neg hy1] at h; cases h
    rw [if_pos hy1] at h
    obtain ⟨⟨q, l3, b3⟩, e3, h⟩ := Option.bind_eq_some_iff.mp h
    obtain ⟨⟨u, l4, b4⟩, e4, h⟩ := Option.bind_eq_some_iff.mp h
    simp only at h e3 e4
    by_cases hul : u.length < 1000000000
    case neg => rw [if_neg hul] at h; cases h
    rw [if_pos hul] at h
    obtain rfl := Option.some.inj h
    obtain ⟨m, rfl⟩ : ∃ m : Nat, y = (m : Int) := ⟨y.toNat, by omega⟩
    have HM : Aside0 (m ≤ 64) := ⟨by omega⟩
    have HUL := Aside0.mk hul
    have E3 := Aside0.mk e3
    have E4 := Aside0.mk e4
    have d1 : decide ((m : Int) > 64) = false := decide_eq_false h64
    have d1b : decide ((64 : Int) < (m : Int)) = false := decide_eq_false h64
    have d1c : decide (64 < m) = false := decide_eq_false (by omega)
    have hwy : IntKind.i64.wrap (m : Int) = (m : Int) := by rw [IntKind.wrap_i64]; omega
    clear h hl1 h64 hy1 e3 e4 hy hul
    go_wp2_with fail
    have HS6 := Aside0.mk (IsS75.alloc HS4.out (.cells #[.slice none 0 0, .int .i64 0, .int .i64 lo, .int .i64 (m : Int)] 60))
    have HB6 := Aside0.mk (below_alloc HB4.out (.cells #[.slice none 0 0, .int .i64 0, .int .i64 lo, .int .i64 (m : Int)] 60))
    have HK6 : Aside0 ((w5.alloc (.cells #[.slice none 0 0, .int .i64 0, .int .i64 lo, .int .i64 (m : Int)] 60)).heap[w5.heap.size]? = some (.cells #[.slice none 0 0, .int .i64 0, .int .i64 lo, .int .i64 (m : Int)] 60 (0, 0))) := ⟨Mem.alloc_new _ _⟩
    have HGE : Aside0 (w.heap.size ≤ w5.heap.size ∧ g ≠ w5.heap.size) := ⟨below_size HB4.out, fun h9 => by have := IsS75.lt HS4.out; omega⟩
    obtain ⟨G, hG⟩ : ∃ G, w5.heap.size = G := ⟨_, rfl⟩
    rw [hG] at HK6 HGE ⊢
    have HGN : Aside0 (G = w5.heap.size) := ⟨hG.symm⟩
    clear HS4 HB4 HR4 hG hy0
    generalize w5.alloc (.cells #[.slice none 0 0, .int .i64 0, .int .i64 lo, .int .i64 (m : Int)] 60) = w6 at HS6 HB6 HK6 ⊢
    refine (vint_Source_Left.calls g l2 false q l3 b3 w _ HS6.out HB6.out E3.out).mono ?_
    rintro e w7 ⟨rfl, s7, B7, K7⟩
    have HK7 := Aside0.mk ((K7.2 G (blk_lt HK6.out) (Ne.symm HGE.out.2) (by simp)).trans HK6.out)
    clear HS6 HB6 HK6 K7
    go_wp2_with fail
    refine (vint_Source_Take.calls g l3 b3 q u l4 b4 w _ s7 B7 E4.out).mono ?_
    rintro e w8 ⟨v8, rfl, R8, s8, B8, K8⟩
    have HK8 := Aside0.mk ((K8.2 G (blk_lt HK7.out) (Ne.symm HGE.out.2) (by simp)).trans HK7.out)
    have HB8 := Aside0.mk B8
    have HR8 := Aside0.mk (Kd.R_mono (ok' := fun k => k ≠ G) (Kd.R_bound R8) (fun k hk => by have h9 := hk.2.1; have h8 := blk_lt HK7.out; omega))
    obtain ⟨A8, c8, e8⟩ := Kd.R_slice HR8.out
    subst e8
    have h0 : w8.cell? ⟨G, 0, none⟩ = some (.slice none 0 0) := (blk_cell HK8.out 0).trans rfl
    have h3 : w8.cell? ⟨G, 3, none⟩ = some (.int .i64 (m : Int)) := (blk_cell HK8.out 3).trans rfl
    have f0 := blk_frozen HK8.out 0
    clear s7 B7 HK7 R8 s8 B8 K8
    have HK9 : Aside0 ((w8.setCell ⟨G, 0, none⟩ (.slice A8 u.length c8)).heap[G]? = some (.cells #[.slice A8 u.length c8, .int .i64 0, .int .i64 lo, .int .i64 (m : Int)] 60 (0, 0))) := ⟨by simpa using blk_set HK8.out 0 (.slice A8 u.length c8)⟩
    have HB9 : Aside0 (Below w.heap.size w (w8.setCell ⟨G, 0, none⟩ (.slice A8 u.length c8))) := ⟨below_set HB8.out HGE.out.1⟩
    have HC9 := Aside0.mk (Kd.R_reads' (Kd.R_far (p := ⟨G, 0, none⟩) HR8.out (fun k hk => hk) (.slice A8 u.length c8))).2.2
    have HCC := Aside0.mk (Kd.R_reads' HR8.out).2.1
    have HNE : Aside0 (∀ ad, A8 = some ad → 0 < u.length → ad.block ≠ G) := ⟨fun ad ha hp => by
      have h9 := HR8.out.1 ad.block (by rw [ha]; rfl)
      exact h9⟩
    clear HR8 HB8
    have hl0 : (u.length : Int) ≤ 1000000000 := by have := HUL.out; omega
    by_cases hm : m = 0
    · subst hm
      have d2 : (((0 : Nat) : Int) == 0) = true := rfl
      go_wp2_with fail
      clear h0 h3 f0
      generalize w8.setCell ⟨G, 0, none⟩ (.slice A8 u.length c8) = w9 at HK9 HB9 HC9 ⊢
      have h0 : w9.cell? ⟨G, 0, none⟩ = some (.slice A8 u.length c8) := (blk_cell HK9.out 0).trans rfl
      go_region
      go_wp2_with fail
      go_ret2
      have h7 : ((u.length : Int) == 0) = fits n ((0 : Nat) : Int).toNat u.length := by
        show ((u.length : Int) == 0) = (u.length == 0)
        by_cases h6 : u.length = 0
        · rw [h6]; rfl
        · rw [beq_eq_false_iff_ne.mpr h6, beq_eq_false_iff_ne.mpr (show (u.length : Int) ≠ 0 by omega)]
      exact ⟨below_drew HB9.out, G, A8, c8, congrArg (fun t => Ending.returned (.tuple #[.pointer (some ⟨G, 0, none⟩), .bool t])) h7, blk_drew HK9.out, HGE.out.1, HCC.out, Kd.C_drew HC9.out, HNE.out⟩
    · have d2 : ((m : Int) == 0) = false := beq_eq_false_iff_ne.mpr (by omega)
      have hmp : (0 : Int) < (m : Int) := by omega
      have hmn : ¬ (m : Int) = 0 := by omega
      go_wp2_with fail
      clear h0 h3 f0
      generalize w8.setCell ⟨G, 0, none⟩ (.slice A8 u.length c8) = w9 at HK9 HB9 HC9 ⊢
      have h0 : w9.cell? ⟨G, 0, none⟩ = some (.slice A8 u.length c8) := (blk_cell HK9.out 0).trans rfl
      have h3 : w9.cell? ⟨G, 3, none⟩ = some (.int .i64 (m : Int)) := (blk_cell HK9.out 3).trans rfl
      obtain ⟨L8, hL8⟩ : ∃ L8 : Nat, 8 * u.length = L8 := ⟨_, rfl⟩
      have hw1 : IntKind.i64.wrap (8 * (u.length : Int)) = (L8 : Int) := by rw [IntKind.wrap_i64, ← hL8]; omega
      have hw2 : wrap64 (8 * (u.length : Int)) = (L8 : Int) := by rw [← hL8]; unfold wrap64; omega
      obtain ⟨Q, hQ⟩ : ∃ Q : Nat, L8 / m = Q := ⟨_, rfl⟩
      have hq1 : Int.tdiv (L8 : Int) (m : Int) = (Q : Int) := by rw [Int.tdiv_eq_ediv_of_nonneg (by omega), ← hQ]; rfl
      have HL8 := Aside0.mk hL8
      have HQ := Aside0.mk hQ
      clear hL8 hQ
      go_region
      go_wp2_with fail
      have HB10 := Aside0.mk (below_drew HB9.out)
      have HK10 := Aside0.mk (blk_drew HK9.out)
      have HC10 := Aside0.mk (Kd.C_drew HC9.out)
      clear HB9 HK9 HC9 h0 h3 hw1 hw2 hq1
      generalize w9.drew = w10 at HB10 HK10 HC10 ⊢
      have h0 : w10.cell? ⟨G, 0, none⟩ = some (.slice A8 u.length c8) := (blk_cell HK10.out 0).trans rfl
      have h3 : w10.cell? ⟨G, 3, none⟩ = some (.int .i64 (m : Int)) := (blk_cell HK10.out 3).trans rfl
      have hnm : n * m ≤ 300000 := Nat.le_trans (Nat.mul_le_mul HF.out.2.2 HM.out) (by decide)
      obtain ⟨NM, hNM⟩ : ∃ NM : Nat, n * m = NM := ⟨_, rfl⟩
      rw [hNM] at hnm
      have hx1 : IntKind.i64.wrap ((n : Int) * (m : Int)) = (NM : Int) := by rw [IntKind.wrap_i64, ← Int.natCast_mul, hNM]; omega
      obtain ⟨N8, hN8⟩ : ∃ N8 : Nat, NM + 8 = N8 := ⟨_, rfl⟩
      obtain ⟨N7, hN7⟩ : ∃ N7 : Nat, NM + 7 = N7 := ⟨_, rfl⟩
      obtain ⟨V, hV⟩ : ∃ V : Nat, N7 / 8 = V := ⟨_, rfl⟩
      have hx2 : IntKind.i64.wrap ((NM : Int) + 8) = (N8 : Int) := by rw [IntKind.wrap_i64]; omega
      have hx3 : IntKind.i64.wrap ((N8 : Int) - 1) = (N7 : Int) := by rw [IntKind.wrap_i64]; omega
      have hx4 : Int.tdiv (N7 : Int) 8 = (V : Int) := by rw [Int.tdiv_eq_ediv_of_nonneg (by omega), ← hV]; rfl
      have hx5 : IntKind.i64.wrap (V : Int) = (V : Int) := by rw [IntKind.wrap_i64]; omega
      have hQ2 : Q ≤ 8000000000 := by have h8 := HQ.out; have h7 := HL8.out; have h6 := HUL.out; rw [← h8]; exact Nat.le_trans (Nat.div_le_self _ _) (by omega)
      obtain ⟨ta, hta⟩ : ∃ t : Bool, decide ((n : Int) ≤ (Q : Int)) = t := ⟨_, rfl⟩
      have hta2 : decide (n ≤ Q) = ta := by rw [← hta]; by_cases h9 : n ≤ Q <;> simp [h9]
      obtain ⟨D, hD⟩ : ∃ D : Int, (Q : Int) - (n : Int) = D := ⟨_, rfl⟩
      have hd1 : IntKind.i64.wrap ((Q : Int) - (n : Int)) = D := by rw [IntKind.wrap_i64, ← hD]; have := HF.out; omega
      obtain ⟨tb, htb⟩ : ∃ t : Bool, decide (D < 8) = t := ⟨_, rfl⟩
      rw [show wrap64 (Q : Int) = (Q : Int) by unfold wrap64; omega]
      have HVV : Aside0 ((n * m + 7) / 8 = V) := ⟨by rw [hNM, hN7, hV]⟩
      have HFIT : Aside0 ((ta && tb && ((V : Int) == (u.length : Int))) = fits n (m : Int).toNat u.length) := ⟨by
        unfold fits
        rw [Int.toNat_natCast, if_neg hm, HL8.out, HQ.out, HVV.out, ← hta2]
        have h7 : ((V : Int) == (u.length : Int)) = (V == u.length) := by
          by_cases h6 : V = u.length
          · rw [h6]; simp
          · rw [beq_eq_false_iff_ne.mpr h6, beq_eq_false_iff_ne.mpr (show (V : Int) ≠ (u.length : Int) by omega)]
        rw [h7]
        by_cases h6 : n ≤ Q
        · have h5 : tb = decide (Q - n < 8) := by
            rw [← htb, ← hD]
            by_cases h4 : Q - n < 8
            · rw [decide_eq_true h4]; exact decide_eq_true (by omega)
            · rw [decide_eq_false h4]; exact decide_eq_false (by omega)
          rw [h5]
        · rw [decide_eq_false h6]; rfl⟩
      clear hNM hN8 hN7 hV hD hQ2 hnm
      cases ta with
      | true =>
        cases tb with
        | true =>
          go_quiet (fail)
          go_wp2_with fail
          go_ret2
          exact ⟨pw_below_drewN HB10.out _, G, A8, c8, congrArg (fun t => Ending.returned (.tuple #[.pointer (some ⟨G, 0, none⟩), .bool t])) HFIT.out, blk_drewN HK10.out _, HGE.out.1, HCC.out, Kd.C_drewN HC10.out _, HNE.out⟩
        | false =>
          go_quiet (fail)
          go_wp2_with fail
          go_ret2
          exact ⟨pw_below_drewN HB10.out _, G, A8, c8, congrArg (fun t => Ending.returned (.tuple #[.pointer (some ⟨G, 0, none⟩), .bool t])) HFIT.out, blk_drewN HK10.out _, HGE.out.1, HCC.out, Kd.C_drewN HC10.out _, HNE.out⟩
      | false =>
        go_quiet (fail)
        go_wp2_with fail
        go_ret2
        exact ⟨pw_below_drewN HB10.out _, G, A8, c8, congrArg (fun t => Ending.returned (.tuple #[.pointer (some ⟨G, 0, none⟩), .bool t])) HFIT.out, blk_drewN HK10.out _, HGE.out.1, HCC.out, Kd.C_drewN HC10.out _, HNE.out⟩
end Go.Proofs.Ytbbffnlefmogbaa.X
-- Printed for this claim by a program of this session (wip/xprint.py) over the kit's printer; Lean checks it.
namespace Go.Proofs.Ytbbffnlefmogbaa.X
open Go.RowKit Go.Proofs.YtbbffnlefmogbaaW.PrintWords Go.Proofs.YtbbffnlefmogbaaW.PrintLast Go.Proofs.YtbbffnlefmogbaaW.PrintMore
attribute [local go_sem] max2_int min2_int max_two min_two max_three min_three max_four min_four   -- for this text's walks alone
set_option linter.unusedVariables false
set_option linter.unusedSimpArgs false

-- NOT PRINTED: function 48 (tight_packed_next)

/-! ### bytes_Equal: function 49 -/
def bytes_Equal.f (l0 : List Int) (l1 : List Int) : Option (Bool) := some ((strOfNums l0).toList == (strOfNums l1).toList)
set_option maxHeartbeats 8000000 in
set_option maxRecDepth 100000 in
theorem bytes_Equal.calls (A0 : Option Addr) (c0 : Nat) (l0 : List Int) (A1 : Option Addr) (c1 : Nat) (l1 : List Int) (r : Bool) (w : World) (hr0 : Kd.C (Kd.int .u8) w A0 l0.length l0) (hc0 : l0.length ≤ c0) (hr1 : Kd.C (Kd.int .u8) w A1 l1.length l1) (hc1 : l1.length ≤ c1) (h : bytes_Equal.f l0 l1 = some r) :
    Calls Try.prog 49 #[.slice A0 l0.length c0, .slice A1 l1.length c1] w fun e w' => e = .returned (.bool r) ∧ Drawn0 w w' := by
  have HR0 := Aside0.mk hr0
  have HC0 := Aside0.mk hc0
  clear hr0 hc0
  have HR1 := Aside0.mk hr1
  have HC1 := Aside0.mk hc1
  clear hr1 hc1
  have H : (some ((strOfNums l0).toList == (strOfNums l1).toList)) = some r := h
  clear h
  obtain rfl := Option.some.inj H
  have hcv3 := Kd.C_string (P := Try.prog) (A := A0) (c := c0) Try.underlying24 Try.underlying5 Try.underlying9 HR0.out
  have hcv4 := Kd.C_string (P := Try.prog) (A := A1) (c := c1) Try.underlying24 Try.underlying5 Try.underlying9 HR1.out
  go_enter Try.func49, Try.ntmps49
  go_wp2
  go_ret
  exact ⟨by first | rfl | (simp; done) | (simp [*]; done), by repeat (first | exact Drawn0.refl _ | apply Drawn0.step)⟩

end Go.Proofs.Ytbbffnlefmogbaa.X
/- The contract of tight.Get: the numbers that bytes are in as few bits as can be. -/
namespace Go.Proofs.Ytbbffnlefmogbaa.X
open Go.RowKit Go.Proofs.YtbbffnlefmogbaaW.PrintWords Go.Proofs.YtbbffnlefmogbaaW.PrintLast Go.Proofs.YtbbffnlefmogbaaW.PrintMore
set_option linter.unusedVariables false
set_option linter.unusedSimpArgs false
/-- So many numbers from a bit on. -/
def getGo (lo : Int) (m : Nat) (b : List Int) : Nat → Nat → List Int
  | 0, _ => []
  | d + 1, at_ => nextOf lo (readGo b m 0 0 at_) :: getGo lo m b d (at_ + m)
theorem getGo_len (lo : Int) (m : Nat) (b : List Int) : ∀ d a, (getGo lo m b d a).length = d
  | 0, _ => rfl
  | d + 1, a => by rw [getGo, List.length_cons, getGo_len lo m b d]
theorem getGo_at (lo : Int) (m : Nat) (b : List Int) : ∀ d a i, i < d → (getGo lo m b d a)[i]? = some (nextOf lo (readGo b m 0 0 (a + i * m)))
  | 0, _, i, h => by omega
  | d + 1, a, 0, h => by rw [getGo, Nat.zero_mul, Nat.add_zero]; rfl
  | d + 1, a, i + 1, h => by
    rw [getGo, List.getElem?_cons_succ, getGo_at lo m b d (a + m) i (by omega), Nat.succ_mul, show a + m + i * m = a + (i * m + m) by omega]
def tight_Get.f (k : Nat) (l0 : List Int) (a1 : Int) : Option (List Int × Bool) :=
  if a1 ≤ 0 ∨ a1 > 4096 then some ([], decide (a1 = 0) && (l0.length == 0)) else (tight_open.f l0 a1.toNat).bind fun o =>
    match o with
    | none => some ([], false)
    | some (lo, y, b, t) => if t = false then some ([], false) else
      if 0 ≤ y ∧ y ≤ 64 ∧ a1.toNat * y.toNat ≤ 8 * b.length ∧ b.length < 1000000000 then (tight_Put.f k (getGo lo y.toNat b a1.toNat 0)).bind fun p => (bytes_Equal.f p l0).bind fun q => if q = true then some (getGo lo y.toNat b a1.toNat 0, true) else some ([], false) else none
theorem tight_Get.mono : ∀ a0 a1 k, LeO (tight_Get.f k a0 a1) (tight_Get.f (k + 1) a0 a1) := by
  intro a0 a1 k r h
  unfold tight_Get.f at h ⊢
  split
  · rename_i h1; rw [if_pos h1] at h; exact h
  · rename_i h1
    rw [if_neg h1] at h
    obtain ⟨o, e1, h⟩ := Option.bind_eq_some_iff.mp h
    rw [e1, Option.bind_some]
    match o, h with
    | none, h => exact h
    | some (lo, y, b, t), h =>
      simp only at h ⊢
      split
      · rename_i h2; rw [if_pos h2] at h; exact h
      · rename_i h2
        rw [if_neg h2] at h
        split
        · rename_i h3
          rw [if_pos h3] at h
          obtain ⟨p, e2, h⟩ := Option.bind_eq_some_iff.mp h
          rw [tight_Put.mono _ _ _ e2]; exact h
        · rename_i h3; rw [if_neg h3] at h; cases h
set_option maxHeartbeats 8000000 in
set_option maxRecDepth 1000000 in
theorem tight_Get.calls (k : Nat) (A0 : Option Addr) (c0 : Nat) (l0 : List Int) (a1 : Int) (r1 : List Int) (r2 : Bool) (w : World) (hr0 : Kd.C (Kd.int .u8) w A0 l0.length l0) (hc0 : l0.length ≤ c0) (h : tight_Get.f k l0 a1 = some (r1, r2)) :
    Calls Try.prog 12 #[.slice A0 l0.length c0, .int .i64 a1] w fun e w' => ∃ v0_ : Value, e = .returned (.tuple #[v0_, .bool r2]) ∧ Kd.R (Kd.int .i64) 2 w' w.heap.size (fun _ => True) v0_ r1 ∧ Below w.heap.size w w' := by
  unfold tight_Get.f at h
  have HR0 := Aside0.mk hr0
  clear hr0
  by_cases h0 : a1 ≤ 0 ∨ a1 > 4096
  · rw [if_pos h0] at h
    simp only [Option.some.injEq, Prod.mk.injEq] at h
    obtain ⟨rfl, rfl⟩ := h
    obtain ⟨ta, hta⟩ : ∃ t : Bool, decide (a1 ≤ 0) = t := ⟨_, rfl⟩
    obtain ⟨tb, htb⟩ : ∃ t : Bool, decide (a1 > 4096) = t := ⟨_, rfl⟩
    obtain ⟨tc, htc⟩ : ∃ t : Bool, (a1 == 0) = t := ⟨_, rfl⟩
    obtain ⟨td, htd⟩ : ∃ t : Bool, ((l0.length : Int) == 0) = t := ⟨_, rfl⟩
    have hx : (ta || tb) = true := by rw [← hta, ← htb]; simpa only [Bool.or_eq_true, decide_eq_true_eq] using h0
    have hres : (decide (a1 = 0) && (l0.length == 0)) = (tc && td) := by
      rw [← htc, ← htd]
      have h7 : ((l0.length : Int) == 0) = (l0.length == 0) := by
        by_cases h6 : l0.length = 0
        · rw [h6]; rfl
        · rw [beq_eq_false_iff_ne.mpr h6, beq_eq_false_iff_ne.mpr (show (l0.length : Int) ≠ 0 by omega)]
      rw [h7]; rfl
    rw [hres]
    clear h0 hres
    cases ta <;> cases tb <;> cases tc <;> cases td <;> first
      | (exact absurd hx (by decide))
      | (clear hx
         go_enter Try.func12, Try.ntmps12
         go_wp2_with fail
         go_ret2
         exact ⟨_, rfl, Kd.R_nil _ _ _ _ _, Below.refl _ _⟩)
  rw [if_neg h0] at h
  obtain ⟨n, rfl⟩ : ∃ n : Nat, a1 = (n : Int) := ⟨a1.toNat, by omega⟩
  have HN : Aside0 (1 ≤ n ∧ n ≤ 4096) := ⟨by omega⟩
  have d1 : decide ((n : Int) ≤ 0) = false := decide_eq_false (by omega)
  have d2 : decide ((n : Int) > 4096) = false := decide_eq_false (by omega)
  have d3 : decide (n ≤ 0) = false := decide_eq_false (by omega)
  have d3b : decide (n = 0) = false := decide_eq_false (by omega)
  have d4 : decide (4096 < n) = false := decide_eq_false (by omega)
  rw [Int.toNat_natCast] at h
  obtain ⟨o, e1, h⟩ := Option.bind_eq_some_iff.mp h
  have E1 := Aside0.mk e1
  have HH := Aside0.mk h
  clear h0 e1 h
  go_enter Try.func12, Try.ntmps12
  go_wp2_with fail
  refine (tight_open.calls A0 c0 l0 n o w HR0.out hc0 E1.out).mono ?_
  rintro e w2 ⟨B2, hO⟩
  have HB2 := Aside0.mk B2
  clear B2
  match o, HH, hO with
  | none, HH, hO =>
    have h := HH.out
    simp only [Option.some.injEq, Prod.mk.injEq] at h
    obtain ⟨rfl, rfl⟩ := h
    obtain rfl := hO
    go_wp2_with fail
    go_ret2
    exact ⟨_, rfl, Kd.R_nil _ _ _ _ _, HB2.out⟩
  | some (lo, y, b, t), HH, hO =>
    obtain ⟨g, A, c, rfl, hK, hG, hcc, hC, hne⟩ := hO
    have h := HH.out
    simp only at h
    cases t with
    | false =>
      rw [if_pos rfl] at h
      simp only [Option.some.injEq, Prod.mk.injEq] at h
      obtain ⟨rfl, rfl⟩ := h
      go_wp2_with fail
      go_ret2
      exact ⟨_, rfl, Kd.R_nil _ _ _ _ _, HB2.out⟩
    | true =>
      rw [if_neg (by decide)] at h
      by_cases hy : 0 ≤ y ∧ y ≤ 64 ∧ n * y.toNat ≤ 8 * b.length ∧ b.length < 1000000000
      case neg => rw [if_neg hy] at h; cases h
      rw [if_pos hy] at h
      obtain ⟨m, rfl⟩ : ∃ m : Nat, y = (m : Int) := ⟨y.toNat, by omega⟩
      rw [Int.toNat_natCast] at h hy
      obtain ⟨all, hall⟩ : ∃ all, getGo lo m b n 0 = all := ⟨_, rfl⟩
      rw [hall] at h
      have HALL := Aside0.mk hall
      have HLEN : Aside0 (all.length = n) := ⟨by rw [← hall, getGo_len]⟩
      obtain ⟨p, e2, h⟩ := Option.bind_eq_some_iff.mp h
      obtain ⟨q, e3, h⟩ := Option.bind_eq_some_iff.mp h
      have E2 := Aside0.mk e2
      have E3 := Aside0.mk e3
      have HH2 := Aside0.mk h
      have HY := Aside0.mk hy
      have HK := Aside0.mk hK
      have HG := Aside0.mk hG
      have HC := Aside0.mk hC
      have HNE := Aside0.mk hne
      have HLT : Aside0 (∀ ad, A = some ad → 0 < b.length → ad.block < w2.heap.size) := ⟨fun ad ha hp => by
        obtain ⟨ad', ea, hx⟩ := Kd.at_int HC.out (0 : Int) (by omega) (by omega)
        rw [ha] at ea
        injection ea with ea
        have h9 := World.block_lt_of_cell? w2 _ hx
        rw [ea]
        simpa [Addr.add] using h9⟩
      obtain ⟨zs, hz⟩ : ∃ zs : List Int, List.replicate n 0 = zs := ⟨_, rfl⟩
      have HZ := Aside0.mk hz
      have HZL : Aside0 (zs.length = n) := ⟨by rw [← hz, List.length_replicate]⟩
      have hmk : (n : Int).toNat * 8 ≤ 281474976710656 := by have := HN.out; omega
      clear hall e2 e3 h hy hK hG hcc hC hne hz
      go_wp2_with ((with_reducible refine gate_dst (N := 32) rfl ?_); refine Kd.R_make (Kd.int .i64) _ 2 rfl (N := 32) rfl 22 _ _ rfl (n : Int) rfl rfl Try.underlying22 (.int .i64 0) 8 info2 rfl (by decide) (by omega) 0 (ok := fun _ => True) (okp := fun _ => True) rfl (fun _ hk => hk) trivial (by omega) hmk (Below.refl _ _) (Nat.le_refl _) ?_; intro v32 w3 hR hb _ _; rw [Int.toNat_natCast, HZ.out] at hR; obtain ⟨gl, cl, ev, hgl1, hgl2, cells, hcl⟩ := Kd.R_form hR (by rw [HZL.out]; exact HN.out.1); subst ev; rw [HZL.out] at hR ⊢; have HRL := Aside0.mk (Kd.R_mono (ok' := fun k => k ≠ g) (Kd.R_bound hR) (fun k hk => by have h9 := hk.2.1; have h8 := blk_lt HK.out; omega)); have HGL := Aside0.mk hgl1; have HK3 := Aside0.mk (blk_below HK.out hb); have HC3 := Aside0.mk (Kd.C_below HC.out hb); have HB3 := Aside0.mk (below_step HB2.out hb); have HGE : Aside0 (∀ ad, A = some ad → 0 < b.length → ad.block ≠ gl) := ⟨fun ad ha hp => by have h9 := HLT.out ad ha hp; omega⟩; clear hR hb hgl1 hgl2 hcl HK HC)
      have hAt : ∀ i, i < n → all[i]? = some (nextOf lo (readGo b m 0 0 (i * m))) := fun i hi => by
        have h9 := getGo_at lo m b n 0 i hi
        rw [HALL.out, Nat.zero_add] at h9; exact h9
      have HAT := Aside0.mk hAt
      have HZS : Aside0 (zs = List.replicate n 0) := ⟨HZ.out.symm⟩
      clear hAt
      go_loopg [35] (n + 1) (fun kq v35 w' => ∃ (i : Nat) (L : List Int), v35 = .int .i64 (i : Int) ∧ Aside0 (kq + i = n + 1) ∧ Aside0 (i ≤ n) ∧ Aside0 (L = all.take i ++ List.replicate (n - i) 0) ∧ Aside0 (Kd.R (Kd.int .i64) 2 w' w2.heap.size (fun k => k ≠ g) (.slice (some ⟨gl, 0, none⟩) n cl) L) ∧ Aside0 (w'.heap[g]? = some (.cells #[.slice A b.length c, .int .i64 ((i * m : Nat) : Int), .int .i64 lo, .int .i64 (m : Int)] 60 (0, 0))) ∧ Aside0 (Kd.C (Kd.int .u8) w' A b.length b) ∧ Aside0 (Below w.heap.size w w'))
      case atStart => exact ⟨0, zs, rfl, ⟨by omega⟩, ⟨by omega⟩, ⟨by rw [HZS.out]; simp⟩, HRL, ⟨by simpa using HK3.out⟩, HC3, HB3⟩
      case round =>
        clear HRL HK3 HC3 HB3
        obtain ⟨i, L, rfl, HQ, HI, HLL, HRL, HK, HC, HB⟩ := hrel
        cases gk with
        | zero => have h1 := HQ.out; have h2 := HI.out; omega
        | succ k2 =>
        have HLN : Aside0 (L.length = n) := ⟨(Kd.R_reads' HRL.out).1.symm⟩
        by_cases hi : i < n
        · have c1 : decide ((i : Int) < (n : Int)) = true := decide_eq_true (by omega)
          have c1b : decide (i < n) = true := decide_eq_true hi
          have hi0 : (0 : Int) ≤ (i : Int) := Int.natCast_nonneg _
          have hi1 : (i : Int) < (n : Int) := by omega
          have HIN := Aside0.mk hi
          have HMUL : Aside0 (i * m + m ≤ n * m) := ⟨by rw [← Nat.succ_mul]; exact Nat.mul_le_mul_right m hi⟩
          have HNM : Aside0 (n * m ≤ 262144) := ⟨Nat.le_trans (Nat.mul_le_mul HN.out.2 (show m ≤ 64 by have := HY.out; omega)) (by decide)⟩
          clear hi
          go_wp2_with fail
          refine (tight_packed_next.calls g A c b (i * m) lo m (readGo b m 0 0 (i * m)) w wr HK.out HG.out HC.out HNE.out HB.out (by unfold tight_row_read.f; rw [if_pos]; have h1 := HMUL.out; have h2 := HY.out; have h3 := HNM.out; omega)).mono ?_
          rintro e w5 ⟨rfl, k5, K5, B5⟩
          have HR5 := Aside0.mk (Kd.R_keep HRL.out K5 (fun k hk => hk))
          have HK5 := Aside0.mk k5
          have HC5 := Aside0.mk (Kd.C_keep (0 : Int) HC.out K5 HNE.out)
          have HB5 := Aside0.mk B5
          obtain ⟨gl', cl', ev, _, _, cells, hcl⟩ := Kd.R_form HR5.out (by rw [HLN.out]; exact HN.out.1)
          have ev1 : gl = gl' := by injection ev with h1 _ _; injection h1 with h1; injection h1 with h1
          clear ev
          subst ev1
          have hil : i < L.length := by have h1 := HLN.out; have h2 := HIN.out; omega
          obtain ⟨ad, ea, hy0⟩ := Kd.at_int (Kd.R_reads' HR5.out).2.2 (i : Int) hi0 (by omega)
          injection ea with ea
          subst ea
          have eadd : (⟨gl, 0, none⟩ : Addr).add (i : Int).toNat = ⟨gl, i, none⟩ := by rw [Int.toNat_natCast]; unfold Addr.add; split <;> simp_all
          rw [eadd] at hy0
          obtain ⟨z, hz⟩ : ∃ z, rd L (i : Int) = z := ⟨_, rfl⟩
          rw [hz] at hy0
          have fy := blk_frozen hcl i
          clear HRL HK HC HB k5 K5 B5 hcl hil eadd hz
          obtain ⟨x, hx⟩ : ∃ x, nextOf lo (readGo b m 0 0 (i * m)) = x := ⟨_, rfl⟩
          rw [hx]
          have HX := Aside0.mk hx
          clear hx
          go_wp2_with fail
          have HLI : Aside0 (L.set i x = all.take (i + 1) ++ List.replicate (n - (i + 1)) 0) := ⟨by
            have h1 := HLL.out
            have h2 := HAT.out i HIN.out
            rw [HX.out] at h2
            have h3 : i < all.length := by rw [HLEN.out]; exact HIN.out
            have h4 : all[i] = x := by rw [List.getElem?_eq_getElem h3] at h2; injection h2
            have h5 : (all.take i).length = i := by rw [List.length_take]; omega
            obtain ⟨d, hd⟩ : ∃ d, n - i = d + 1 := ⟨n - i - 1, by have := HIN.out; omega⟩
            rw [h1, hd, List.replicate_succ, List.set_append_right _ _ (by omega), h5, Nat.sub_self, List.set_cons_zero, List.take_succ_eq_append_getElem h3, h4, List.append_assoc, show n - (i + 1) = d by omega]
            rfl⟩
          have h2 := (Kd.R_putg HR5.out (i : Int) x).1
          rw [Int.toNat_natCast] at h2
          have HR6 := Aside0.mk h2
          have HK6 : Aside0 ((w5.setCell ⟨gl, i, none⟩ (.int .i64 x)).heap[g]? = some (.cells #[.slice A b.length c, .int .i64 ((i * m + m : Nat) : Int), .int .i64 lo, .int .i64 (m : Int)] 60 (0, 0))) := ⟨(Below.heap_setCell w5 ⟨gl, i, none⟩ (.int .i64 x) g (fun h9 => HR5.out.1 gl rfl h9.symm)).trans HK5.out⟩
          have HC6 : Aside0 (Kd.C (Kd.int .u8) (w5.setCell ⟨gl, i, none⟩ (.int .i64 x)) A b.length b) := ⟨Kd.C_keep (0 : Int) HC5.out (KeepBut.set_ (KeepBut.of_below (Below.refl w5.heap.size w5) gl none) i _) HGE.out⟩
          have HB6 := Aside0.mk (below_set HB5.out (g := gl) (j := i) (v := .int .i64 x) (Nat.le_trans (below_size HB2.out) HGL.out))
          have HW : Aside0 ((i : Int) + 1 = ((i + 1 : Nat) : Int)) := ⟨by omega⟩
          clear h2 HR5 HK5 HC5 HB5 hy0 fy
          (try rw [show wrap64 ((i : Int) + 1) = (i : Int) + 1 from by have h1 := HIN.out; have h2 := HN.out; unfold wrap64; omega])
          go_roundg k2
          case measure => omega
          case rel => exact ⟨i + 1, L.set i x, congrArg (Value.int .i64) HW.out, ⟨by have := HQ.out; omega⟩, ⟨by have := HIN.out; omega⟩, HLI, HR6, ⟨by rw [Nat.succ_mul]; exact HK6.out⟩, HC6, HB6⟩
        · have hie : i = n := by have := HI.out; omega
          have c1 : decide ((i : Int) < (n : Int)) = false := decide_eq_false (by omega)
          have c1b : decide (i < n) = false := decide_eq_false hi
          have hLa : L = all := by
            have h1 := HLL.out
            rw [hie, Nat.sub_self, List.replicate_zero, List.append_nil, List.take_of_length_le (by rw [HLEN.out]; exact Nat.le_refl _)] at h1
            exact h1
          subst hLa
          have HCP := tight_Put.calls k (some ⟨gl, 0, none⟩) cl L p wr (Kd.R_reads' HRL.out).2.2 (by rw [HLEN.out]; exact (Kd.R_reads' HRL.out).2.1) E2.out
          rw [HLEN.out] at HCP
          clear hi hie
          go_wp2_with fail
          refine HCP.mono ?_
          rintro e w6 ⟨v6, rfl, R6, B6⟩
          obtain ⟨A6, c6, rfl, hc6, C6⟩ := Kd.R_reads R6
          have HR6 := Aside0.mk (Kd.R_below HRL.out B6)
          have HB6 := Aside0.mk (below_step HB.out B6)
          have HC6 := Aside0.mk C6
          clear HCP R6 B6 C6 HRL HK HC HB
          go_wp2_with fail
          refine (bytes_Equal.calls A6 c6 p A0 c0 l0 q w6 HC6.out hc6 (Kd.C_below HR0.out HB6.out) hc0 E3.out).mono ?_
          rintro e w7 ⟨rfl, D7⟩
          obtain ⟨nd, rfl⟩ := D7
          have h := HH2.out
          cases q with
          | true =>
            rw [if_pos rfl] at h
            simp only [Option.some.injEq, Prod.mk.injEq] at h
            obtain ⟨rfl, rfl⟩ := h
            go_wp2_with fail
            go_ret2
            exact ⟨_, rfl, Kd.R_mono (Kd.R_lower (Kd.R_drewN HR6.out nd) (below_size HB2.out)) (fun _ _ => trivial), pw_below_drewN HB6.out nd⟩
          | false =>
            rw [if_neg (by decide)] at h
            simp only [Option.some.injEq, Prod.mk.injEq] at h
            obtain ⟨rfl, rfl⟩ := h
            go_wp2_with fail
            go_ret2
            exact ⟨_, rfl, Kd.R_nil _ _ _ _ _, pw_below_drewN HB6.out nd⟩
end Go.Proofs.Ytbbffnlefmogbaa.X
-- Printed for this claim by a program of this session (wip/xprint.py) over the kit's printer; Lean checks it.
namespace Go.Proofs.Ytbbffnlefmogbaa.X
open Go.RowKit Go.Proofs.YtbbffnlefmogbaaW.PrintWords Go.Proofs.YtbbffnlefmogbaaW.PrintLast Go.Proofs.YtbbffnlefmogbaaW.PrintMore
attribute [local go_sem] max2_int min2_int max_two min_two max_three min_three max_four min_four   -- for this text's walks alone
set_option linter.unusedVariables false
set_option linter.unusedSimpArgs false

/-! ### firkinlaw07_TightOne: function 5 -/
mutual
def firkinlaw07_TightOne.j0 : Nat → List Int → Int → Int → Bool → Option (Bool)
  | 0, _, _, _, _ => none
  | k + 1, x0, x1, x2, x21 => if x21 = true then ((firkinlaw07_live.f k).bind fun t171 => (some t171)) else ((tight_Get.f k x0 x1).bind fun bt172 => (if bt172.2 = true then ((tight_Get.f k x0 x2).bind fun bt177 => (if bt177.2 = true then (if (bt177.1.length : Int) = x2 then ((tight_Put.f k bt177.1).bind fun t181 => ((firkinref01_Same.f t181 x0).bind fun t184 => (firkinlaw07_TightOne.j1 k x0 x1 bt172.1 (!t184)))) else (firkinlaw07_TightOne.j1 k x0 x1 bt172.1 true)) else (firkinlaw07_TightOne.j1 k x0 x1 bt172.1 false))) else (if (bt172.1.length : Int) = 0 then ((firkinlaw07_live.f k).bind fun t176 => (some t176)) else (some false))))
def firkinlaw07_TightOne.j1 : Nat → List Int → Int → List Int → Bool → Option (Bool)
  | 0, _, _, _, _ => none
  | k + 1, x0, x1, x7, x56 => if x56 = true then (some false) else (if (x7.length : Int) = x1 then ((tight_Put.f k x7).bind fun t185 => ((firkinref01_Same.f t185 x0).bind fun t188 => (if t188 = true then ((firkinlaw07_live.f k).bind fun t189 => (some t189)) else (some false)))) else (some false))
end
def firkinlaw07_TightOne.f (k : Nat) (l0 : List Int) (a1 : Int) (a2 : Int) : Option (Bool) := if (l0.length : Int) > 400 then (firkinlaw07_TightOne.j0 k l0 a1 a2 true) else (if a1 > 400 then (firkinlaw07_TightOne.j0 k l0 a1 a2 true) else (firkinlaw07_TightOne.j0 k l0 a1 a2 (decide (a2 > 400))))
theorem firkinlaw07_TightOne.mono_l : ∀ k, (∀ y0 y1 y2 y3, LeO (firkinlaw07_TightOne.j0 k y0 y1 y2 y3) (firkinlaw07_TightOne.j0 (k + 1) y0 y1 y2 y3)) ∧ (∀ y0 y1 y2 y3, LeO (firkinlaw07_TightOne.j1 k y0 y1 y2 y3) (firkinlaw07_TightOne.j1 (k + 1) y0 y1 y2 y3))
  | 0 => ⟨fun _ _ _ _ r h => by simp [firkinlaw07_TightOne.j0] at h, fun _ _ _ _ r h => by simp [firkinlaw07_TightOne.j1] at h⟩
  | k + 1 => by
    obtain ⟨ih0, ih1⟩ := firkinlaw07_TightOne.mono_l k
    refine ⟨?_, ?_⟩
    · intro y0 y1 y2 y3
      unfold firkinlaw07_TightOne.j0
      repeat' first
      | (with_reducible exact ih0 _ _ _ _)
      | (with_reducible exact ih1 _ _ _ _)
      | (with_reducible exact firkinlaw07_live.mono _)
      | (with_reducible exact tight_Get.mono _ _ _)
      | (with_reducible exact tight_Put.mono _ _)
      | (with_reducible exact LeO.refl _)
      | (with_reducible exact LeO.none _)
      | (with_reducible refine LeO.ite ?_ ?_)
      | (with_reducible refine LeO.bind ?_ (fun _ => ?_))
      | exact ih0 _ _ _ _
      | exact ih1 _ _ _ _
      | exact firkinlaw07_live.mono _
      | exact tight_Get.mono _ _ _
      | exact tight_Put.mono _ _
      | exact LeO.none _
      | refine LeO.ite ?_ ?_
      | refine LeO.bind ?_ (fun _ => ?_)
    · intro y0 y1 y2 y3
      unfold firkinlaw07_TightOne.j1
      repeat' first
      | (with_reducible exact ih0 _ _ _ _)
      | (with_reducible exact ih1 _ _ _ _)
      | (with_reducible exact firkinlaw07_live.mono _)
      | (with_reducible exact tight_Get.mono _ _ _)
      | (with_reducible exact tight_Put.mono _ _)
      | (with_reducible exact LeO.refl _)
      | (with_reducible exact LeO.none _)
      | (with_reducible refine LeO.ite ?_ ?_)
      | (with_reducible refine LeO.bind ?_ (fun _ => ?_))
      | exact ih0 _ _ _ _
      | exact ih1 _ _ _ _
      | exact firkinlaw07_live.mono _
      | exact tight_Get.mono _ _ _
      | exact tight_Put.mono _ _
      | exact LeO.none _
      | refine LeO.ite ?_ ?_
      | refine LeO.bind ?_ (fun _ => ?_)
theorem firkinlaw07_TightOne.mono : ∀ a0 a1 a2 k, LeO (firkinlaw07_TightOne.f k a0 a1 a2) (firkinlaw07_TightOne.f (k + 1) a0 a1 a2) := by
  intro a0 a1 a2 k
  obtain ⟨ih0, ih1⟩ := firkinlaw07_TightOne.mono_l k
  unfold firkinlaw07_TightOne.f
  repeat' first
      | (with_reducible exact ih0 _ _ _ _)
      | (with_reducible exact ih1 _ _ _ _)
      | (with_reducible exact firkinlaw07_live.mono _)
      | (with_reducible exact tight_Get.mono _ _ _)
      | (with_reducible exact tight_Put.mono _ _)
      | (with_reducible exact LeO.refl _)
      | (with_reducible exact LeO.none _)
      | (with_reducible refine LeO.ite ?_ ?_)
      | (with_reducible refine LeO.bind ?_ (fun _ => ?_))
      | exact ih0 _ _ _ _
      | exact ih1 _ _ _ _
      | exact firkinlaw07_live.mono _
      | exact tight_Get.mono _ _ _
      | exact tight_Put.mono _ _
      | exact LeO.none _
      | refine LeO.ite ?_ ?_
      | refine LeO.bind ?_ (fun _ => ?_)
set_option maxHeartbeats 8000000 in
set_option maxRecDepth 100000 in
theorem firkinlaw07_TightOne.calls (k : Nat) (A0 : Option Addr) (c0 : Nat) (l0 : List Int) (a1 : Int) (a2 : Int) (r : Bool) (w : World) (hr0 : Kd.C (Kd.int .u8) w A0 l0.length l0) (hc0 : l0.length ≤ c0) (h : firkinlaw07_TightOne.f k l0 a1 a2 = some r) :
    Calls Try.prog 5 #[.slice A0 l0.length c0, .int .i64 a1, .int .i64 a2] w fun e w' => e = .returned (.bool r) ∧ Below w.heap.size w w' := by
  have HR0 := Aside0.mk hr0
  have HC0 := Aside0.mk hc0
  clear hr0 hc0
  have HB := Aside0.mk (Below.refl w.heap.size w)
  have H : (if (l0.length : Int) > 400 then (firkinlaw07_TightOne.j0 k l0 a1 a2 true) else (if a1 > 400 then (firkinlaw07_TightOne.j0 k l0 a1 a2 true) else (firkinlaw07_TightOne.j0 k l0 a1 a2 (decide (a2 > 400))))) = some r := h
  clear h
  have HC4 := Aside0.mk H
  clear H
  go_enter Try.func5, Try.ntmps5
  go_upto_region 1 with (fail)
  go_cut [21] (fun v21 wc => ∃ (kq : Nat) (x21_3 : Bool), v21 = .bool x21_3 ∧ Aside0 (firkinlaw07_TightOne.j0 kq l0 a1 a2 x21_3 = some r) ∧ Aside0 (kq ≤ k) ∧ Aside0 (Below w.heap.size w wc))
  case first =>
    have H := HC4.out
    clear HC4
    by_cases c5 : (l0.length : Int) > 400
    · rw [if_pos c5] at H
      have c5b0 : decide (400 < (l0.length : Int)) = true := decide_eq_true c5
      have c5b1 : decide (400 < l0.length) = true := decide_eq_true (by omega)
      clear c5
      (first | rw [c5b0] | (simp only [i64_w, i32_w]; rw [c5b0]) | skip)
      have H' := Aside0.mk H
      clear H
      go_wp2
      go_meet
      case rel => exact ⟨_, (true), (by first | rfl | (simp; done) | (simp [*]; done)), H', ⟨by first | omega | exact Nat.le_refl _⟩, ⟨by repeat (first | (with_reducible first | exact HB.out | apply below_alloc | apply pw_below_drewN | apply below_drew1) | exact HB.out)⟩⟩
    · rw [if_neg c5] at H
      have c5b0 : decide (400 < (l0.length : Int)) = false := decide_eq_false c5
      have c5b1 : decide (400 < l0.length) = false := decide_eq_false (by omega)
      clear c5
      (first | rw [c5b0] | (simp only [i64_w, i32_w]; rw [c5b0]) | skip)
      by_cases c6 : a1 > 400
      · rw [if_pos c6] at H
        have c6b0 : decide (400 < a1) = true := decide_eq_true c6
        clear c6
        have H' := Aside0.mk H
        clear H
        go_wp2
        go_meet
        case rel => exact ⟨_, (true), (by first | rfl | (simp; done) | (simp [*]; done)), H', ⟨by first | omega | exact Nat.le_refl _⟩, ⟨by repeat (first | (with_reducible first | exact HB.out | apply below_alloc | apply pw_below_drewN | apply below_drew1) | exact HB.out)⟩⟩
      · rw [if_neg c6] at H
        have c6b0 : decide (400 < a1) = false := decide_eq_false c6
        clear c6
        have H' := Aside0.mk H
        clear H
        go_wp2
        go_meet
        case rel => exact ⟨_, (decide (a2 > 400)), (by first | rfl | (simp; done) | (simp [*]; done)), H', ⟨by first | omega | exact Nat.le_refl _⟩, ⟨by repeat (first | (with_reducible first | exact HB.out | apply below_alloc | apply pw_below_drewN | apply below_drew1) | exact HB.out)⟩⟩
  case rest =>
    clear HC4
    try clear p2
    try clear c5
    try clear c5b0
    try clear c5b1
    try clear c6
    try clear c6b0
    obtain ⟨kq, x21_3, rfl, HA, HJ3, HB⟩ := hcut
    cases kq with
    | zero => exact absurd HA.out (by simp [firkinlaw07_TightOne.j0])
    | succ kj3 =>
      have H := HA.out
      clear HA
      simp only [firkinlaw07_TightOne.j0] at H
      by_cases c7 : x21_3 = true
      · subst c7
        have H1 : ((firkinlaw07_live.f kj3).bind fun t171 => (some t171)) = some r := by rw [if_pos rfl] at H; exact H
        clear H
        have H := H1
        clear H1
        replace H := Option.bind_eq_some_iff.mp H
        obtain ⟨t171, A80, H⟩ := H
        replace H : (some t171) = some r := H
        have A8 := Aside0.mk A80
        clear A80
        obtain rfl := Option.some.inj H
        go_wp2_with (first | ((with_reducible refine gate_callee (f := 10) rfl ?_); refine goesL_ (some 22) rfl rfl Try.func10 (by kernel_rfl) rfl #[] rfl (by (try simp only [List.map_toArray, List.map_cons, List.map_nil]); first | done | rfl | (simp only [List.length_drop, List.length_take]; rfl)) ?_; (with_reducible refine (firkinlaw07_live.calls kj3  t171 _ A8.out).mono ?_); rintro e w9 ⟨rfl, hb⟩; refine ⟨_, rfl, ?_⟩; have n0_ := Aside0.mk (below_step (by repeat (first | (with_reducible first | exact HB.out | apply below_alloc | apply pw_below_drewN | apply below_drew1) | exact HB.out)) hb); clear HB; have HB := n0_; clear n0_; (try clear hb); (try clear hb2); (try clear hk); (try clear hi)))
        go_ret
        exact ⟨by first | rfl | (simp [errW_none, errW_some] <;> rfl) | (simp [*, errW_none, errW_some] <;> rfl), by repeat (first | (with_reducible first | exact HB.out | apply below_alloc | apply pw_below_drewN | apply below_drew1) | exact HB.out)⟩
      · replace c7 := Bool.eq_false_iff.mpr c7
        subst c7
        have H1 : ((tight_Get.f kj3 l0 a1).bind fun bt172 => (if bt172.2 = true then ((tight_Get.f kj3 l0 a2).bind fun bt177 => (if bt177.2 = true then (if (bt177.1.length : Int) = a2 then ((tight_Put.f kj3 bt177.1).bind fun t181 => ((firkinref01_Same.f t181 l0).bind fun t184 => (firkinlaw07_TightOne.j1 kj3 l0 a1 bt172.1 (!t184)))) else (firkinlaw07_TightOne.j1 kj3 l0 a1 bt172.1 true)) else (firkinlaw07_TightOne.j1 kj3 l0 a1 bt172.1 false))) else (if (bt172.1.length : Int) = 0 then ((firkinlaw07_live.f kj3).bind fun t176 => (some t176)) else (some false)))) = some r := by rw [if_neg (show ¬ (false = true) by decide)] at H; exact H
        clear H
        have H := H1
        clear H1
        replace H := Option.bind_eq_some_iff.mp H
        obtain ⟨⟨t172, t173⟩, A100, H⟩ := H
        replace H : (if t173 = true then ((tight_Get.f kj3 l0 a2).bind fun bt177 => (if bt177.2 = true then (if (bt177.1.length : Int) = a2 then ((tight_Put.f kj3 bt177.1).bind fun t181 => ((firkinref01_Same.f t181 l0).bind fun t184 => (firkinlaw07_TightOne.j1 kj3 l0 a1 t172 (!t184)))) else (firkinlaw07_TightOne.j1 kj3 l0 a1 t172 true)) else (firkinlaw07_TightOne.j1 kj3 l0 a1 t172 false))) else (if (t172.length : Int) = 0 then ((firkinlaw07_live.f kj3).bind fun t176 => (some t176)) else (some false))) = some r := H
        have A10 := Aside0.mk A100
        clear A100
        by_cases c11 : t173 = true
        · subst c11
          have H1 : ((tight_Get.f kj3 l0 a2).bind fun bt177 => (if bt177.2 = true then (if (bt177.1.length : Int) = a2 then ((tight_Put.f kj3 bt177.1).bind fun t181 => ((firkinref01_Same.f t181 l0).bind fun t184 => (firkinlaw07_TightOne.j1 kj3 l0 a1 t172 (!t184)))) else (firkinlaw07_TightOne.j1 kj3 l0 a1 t172 true)) else (firkinlaw07_TightOne.j1 kj3 l0 a1 t172 false))) = some r := by rw [if_pos rfl] at H; exact H
          clear H
          have H := H1
          clear H1
          replace H := Option.bind_eq_some_iff.mp H
          obtain ⟨⟨t177, t178⟩, A120, H⟩ := H
          replace H : (if t178 = true then (if (t177.length : Int) = a2 then ((tight_Put.f kj3 t177).bind fun t181 => ((firkinref01_Same.f t181 l0).bind fun t184 => (firkinlaw07_TightOne.j1 kj3 l0 a1 t172 (!t184)))) else (firkinlaw07_TightOne.j1 kj3 l0 a1 t172 true)) else (firkinlaw07_TightOne.j1 kj3 l0 a1 t172 false)) = some r := H
          have A12 := Aside0.mk A120
          clear A120
          have HC13 := Aside0.mk H
          clear H
          go_upto_region 7 with (first | ((with_reducible refine gate_callee (f := 12) rfl ?_); refine goesL_ (some 26) rfl rfl Try.func12 (by kernel_rfl) rfl #[.slice A0 l0.length c0, .int .i64 a1] rfl (by (try simp only [List.map_toArray, List.map_cons, List.map_nil]); first | done | rfl | (simp only [List.length_drop, List.length_take]; rfl)) ?_; (with_reducible refine (tight_Get.calls kj3 _ _ l0 a1 t172 true _ ?side1 ?side2 A10.out).mono ?_); (case side1 => repeat (first | exact (Kd.C_below HR0.out HB.out) | (with_reducible refine Kd.C_alloc ?_ _) | (with_reducible refine Kd.C_drewN ?_ _) | (with_reducible refine Kd.C_drew ?_))); (case side2 => exact HC0.out); rintro e w14 ⟨v174, rfl, ho0, hb⟩; refine ⟨_, rfl, ?_⟩; have n0_ := Aside0.mk (Kd.R_lower ho0 (below_size (by repeat (first | (with_reducible first | exact HB.out | apply below_alloc | apply pw_below_drewN | apply below_drew1) | exact HB.out)))); have n1_ := Aside0.mk (below_step (by repeat (first | (with_reducible first | exact HB.out | apply below_alloc | apply pw_below_drewN | apply below_drew1) | exact HB.out)) hb); clear HB; have HO175 := n0_; have HB := n1_; clear n0_ n1_; (try clear hb); (try clear hb2); (try clear hk); (try clear hi); (try clear ho0)) | ((with_reducible refine gate_callee (f := 12) rfl ?_); refine goesL_ (some 40) rfl rfl Try.func12 (by kernel_rfl) rfl #[.slice A0 l0.length c0, .int .i64 a2] rfl (by (try simp only [List.map_toArray, List.map_cons, List.map_nil]); first | done | rfl | (simp only [List.length_drop, List.length_take]; rfl)) ?_; (with_reducible refine (tight_Get.calls kj3 _ _ l0 a2 t177 t178 _ ?side1 ?side2 A12.out).mono ?_); (case side1 => repeat (first | exact (Kd.C_below HR0.out HB.out) | (with_reducible refine Kd.C_alloc ?_ _) | (with_reducible refine Kd.C_drewN ?_ _) | (with_reducible refine Kd.C_drew ?_))); (case side2 => exact HC0.out); rintro e w15 ⟨v179, rfl, ho0, hb⟩; refine ⟨_, rfl, ?_⟩; have n0_ := Aside0.mk (Kd.R_elder' (by (with_reducible repeat (first | apply Kd.R_alloc | apply Kd.R_drewN | apply Kd.R_drew)); exact HO175.out) (Kd.R_base ho0) hb); have n1_ := Aside0.mk (Kd.R_lower (Kd.R_new' ho0 (Kd.R_lt (by (with_reducible repeat (first | apply Kd.R_alloc | apply Kd.R_drewN | apply Kd.R_drew)); exact HO175.out))) (below_size (by repeat (first | (with_reducible first | exact HB.out | apply below_alloc | apply pw_below_drewN | apply below_drew1) | exact HB.out)))); have n2_ := Aside0.mk (below_step (by repeat (first | (with_reducible first | exact HB.out | apply below_alloc | apply pw_below_drewN | apply below_drew1) | exact HB.out)) hb); clear HO175; clear HB; have HO175 := n0_; have HO180 := n1_; have HB := n2_; clear n0_ n1_ n2_; (try clear hb); (try clear hb2); (try clear hk); (try clear hi); (try clear ho0)))
          (try simp only [Act.put, List.setIfInBounds_toArray, List.set_cons_zero, List.set_cons_succ])
          go_cut [56] (fun v56 wc => ∃ (kq : Nat) (x56_12 : Bool), v56 = .bool x56_12 ∧ Aside0 (firkinlaw07_TightOne.j1 kq l0 a1 t172 x56_12 = some r) ∧ Aside0 (kq ≤ kj3) ∧ Aside0 (Kd.R (Kd.int .i64) 2 wc w.heap.size (fun _ => True) v174 t172) ∧ Aside0 (Below w.heap.size w wc))
          case first =>
            have H := HC13.out
            clear HC13
            by_cases c16 : t178 = true
            · subst c16
              have H1 : (if (t177.length : Int) = a2 then ((tight_Put.f kj3 t177).bind fun t181 => ((firkinref01_Same.f t181 l0).bind fun t184 => (firkinlaw07_TightOne.j1 kj3 l0 a1 t172 (!t184)))) else (firkinlaw07_TightOne.j1 kj3 l0 a1 t172 true)) = some r := by rw [if_pos rfl] at H; exact H
              clear H
              have H := H1
              clear H1
              by_cases c17 : (t177.length : Int) = a2
              · rw [if_pos c17] at H
                have c17b0 : ((t177.length : Int) == a2) = true := beq_iff_eq.mpr c17
                have c17b1 : ((t177.length : Int) != a2) = false := bne_eq_false_iff_eq.mpr c17
                clear c17
                (first | rw [c17b0] | (simp only [i64_w, i32_w]; rw [c17b0]) | skip)
                replace H := Option.bind_eq_some_iff.mp H
                obtain ⟨t181, A180, H⟩ := H
                replace H : ((firkinref01_Same.f t181 l0).bind fun t184 => (firkinlaw07_TightOne.j1 kj3 l0 a1 t172 (!t184))) = some r := H
                have A18 := Aside0.mk A180
                clear A180
                replace H := Option.bind_eq_some_iff.mp H
                obtain ⟨t184, A190, H⟩ := H
                replace H : (firkinlaw07_TightOne.j1 kj3 l0 a1 t172 (!t184)) = some r := H
                have A19 := Aside0.mk A190
                clear A190
                have H' := Aside0.mk H
                clear H
                obtain ⟨Ao20, co20, eo20⟩ := Kd.R_slice HO180.out
                subst eo20
                go_wp2_with (first | (go_at_call 11; (with_reducible refine (tight_Put.calls kj3 _ _ t177 t181 _ ?side1 ?side2 A18.out).mono ?_); (case side1 => repeat (first | exact (Kd.R_reads' HO180.out).2.2 | (with_reducible refine Kd.C_alloc ?_ _) | (with_reducible refine Kd.C_drewN ?_ _) | (with_reducible refine Kd.C_drew ?_))); (case side2 => exact (Kd.R_reads' HO180.out).2.1); rintro e w21 ⟨v182, rfl, ho0, hb⟩; have n0_ := Aside0.mk (Kd.R_below (by (with_reducible repeat (first | apply Kd.R_alloc | apply Kd.R_drewN | apply Kd.R_drew)); exact HO175.out) hb); have n1_ := Aside0.mk (Kd.R_below (by (with_reducible repeat (first | apply Kd.R_alloc | apply Kd.R_drewN | apply Kd.R_drew)); exact HO180.out) hb); have n2_ := Aside0.mk (Kd.R_lower ho0 (below_size (by repeat (first | (with_reducible first | exact HB.out | apply below_alloc | apply pw_below_drewN | apply below_drew1) | exact HB.out)))); have n3_ := Aside0.mk (below_step (by repeat (first | (with_reducible first | exact HB.out | apply below_alloc | apply pw_below_drewN | apply below_drew1) | exact HB.out)) hb); clear HO175; clear HO180; clear HB; have HO175 := n0_; have HO180 := n1_; have HO183 := n2_; have HB := n3_; clear n0_ n1_ n2_ n3_; (try clear hb); (try clear hb2); (try clear hk); (try clear hi); (try clear ho0); (try clear A18); obtain ⟨Ao22, co22, eo22⟩ := Kd.R_slice HO183.out; subst eo22) | (go_at_call 13; (with_reducible refine (firkinref01_Same.calls _ _ t181 _ _ l0 t184 _ ?side1 ?side2 ?side3 ?side4 A19.out).mono ?_); (case side1 => repeat (first | exact (Kd.R_reads' HO183.out).2.2 | (with_reducible refine Kd.C_alloc ?_ _) | (with_reducible refine Kd.C_drewN ?_ _) | (with_reducible refine Kd.C_drew ?_))); (case side2 => exact (Kd.R_reads' HO183.out).2.1); (case side3 => repeat (first | exact (Kd.C_below HR0.out HB.out) | (with_reducible refine Kd.C_alloc ?_ _) | (with_reducible refine Kd.C_drewN ?_ _) | (with_reducible refine Kd.C_drew ?_))); (case side4 => exact HC0.out); rintro e w' ⟨rfl, ⟨nd, rfl⟩⟩; (try clear A19)))
                go_meet
                case rel => exact ⟨_, (!t184), (by first | rfl | (simp; done) | (simp [*]; done)), H', ⟨by have := HJ3.out; first | omega | exact Nat.le_refl _⟩, ⟨by (with_reducible repeat (first | apply Kd.R_alloc | apply Kd.R_drewN | apply Kd.R_drew)); exact Kd.R_mono HO175.out (fun _ hk => trivial)⟩, ⟨by repeat (first | (with_reducible first | exact HB.out | apply below_alloc | apply pw_below_drewN | apply below_drew1) | exact HB.out)⟩⟩
              · rw [if_neg c17] at H
                have c17b0 : ((t177.length : Int) == a2) = false := beq_eq_false_iff_ne.mpr c17
                have c17b1 : ((t177.length : Int) != a2) = true := bne_iff_ne.mpr c17
                (first | rw [c17b0] | (simp only [i64_w, i32_w]; rw [c17b0]) | skip)
                have H' := Aside0.mk H
                clear H
                obtain ⟨Ao23, co23, eo23⟩ := Kd.R_slice HO180.out
                subst eo23
                go_wp2
                go_meet
                case rel => exact ⟨_, (true), (by first | rfl | (simp; done) | (simp [*]; done)), H', ⟨by have := HJ3.out; first | omega | exact Nat.le_refl _⟩, ⟨by (with_reducible repeat (first | apply Kd.R_alloc | apply Kd.R_drewN | apply Kd.R_drew)); exact Kd.R_mono HO175.out (fun _ hk => trivial)⟩, ⟨by repeat (first | (with_reducible first | exact HB.out | apply below_alloc | apply pw_below_drewN | apply below_drew1) | exact HB.out)⟩⟩
            · replace c16 := Bool.eq_false_iff.mpr c16
              subst c16
              have H1 : (firkinlaw07_TightOne.j1 kj3 l0 a1 t172 false) = some r := by rw [if_neg (show ¬ (false = true) by decide)] at H; exact H
              clear H
              have H := H1
              clear H1
              have H' := Aside0.mk H
              clear H
              go_wp2
              go_meet
              case rel => exact ⟨_, (false), (by first | rfl | (simp; done) | (simp [*]; done)), H', ⟨by have := HJ3.out; first | omega | exact Nat.le_refl _⟩, ⟨by (with_reducible repeat (first | apply Kd.R_alloc | apply Kd.R_drewN | apply Kd.R_drew)); exact Kd.R_mono HO175.out (fun _ hk => trivial)⟩, ⟨by repeat (first | (with_reducible first | exact HB.out | apply below_alloc | apply pw_below_drewN | apply below_drew1) | exact HB.out)⟩⟩
          case rest =>
            clear HC13
            try clear c1
            try clear p2
            try clear c5
            try clear c5b0
            try clear c5b1
            try clear c6
            try clear c6b0
            try clear c7
            try clear c10
            try clear c11
            try clear c12
            try clear c16
            try clear c17
            try clear c17b0
            try clear c17b1
            try clear p2
            obtain ⟨kq, x56_12, rfl, HA, HJ12, HO_7, HB⟩ := hcut
            cases kq with
            | zero => exact absurd HA.out (by simp [firkinlaw07_TightOne.j1])
            | succ kj12 =>
              have H := HA.out
              clear HA
              simp only [firkinlaw07_TightOne.j1] at H
              by_cases c24 : x56_12 = true
              · subst c24
                have H1 : (some false) = some r := by rw [if_pos rfl] at H; exact H
                clear H
                have H := H1
                clear H1
                obtain rfl := Option.some.inj H
                go_wp2
                go_ret
                exact ⟨by first | rfl | (simp [errW_none, errW_some] <;> rfl) | (simp [*, errW_none, errW_some] <;> rfl), by repeat (first | (with_reducible first | exact HB.out | apply below_alloc | apply pw_below_drewN | apply below_drew1) | exact HB.out)⟩
              · replace c24 := Bool.eq_false_iff.mpr c24
                subst c24
                have H1 : (if (t172.length : Int) = a1 then ((tight_Put.f kj12 t172).bind fun t185 => ((firkinref01_Same.f t185 l0).bind fun t188 => (if t188 = true then ((firkinlaw07_live.f kj12).bind fun t189 => (some t189)) else (some false)))) else (some false)) = some r := by rw [if_neg (show ¬ (false = true) by decide)] at H; exact H
                clear H
                have H := H1
                clear H1
                by_cases c25 : (t172.length : Int) = a1
                · rw [if_pos c25] at H
                  have c25b0 : ((t172.length : Int) == a1) = true := beq_iff_eq.mpr c25
                  have c25b1 : ((t172.length : Int) != a1) = false := bne_eq_false_iff_eq.mpr c25
                  clear c25
                  replace H := Option.bind_eq_some_iff.mp H
                  obtain ⟨t185, A260, H⟩ := H
                  replace H : ((firkinref01_Same.f t185 l0).bind fun t188 => (if t188 = true then ((firkinlaw07_live.f kj12).bind fun t189 => (some t189)) else (some false))) = some r := H
                  have A26 := Aside0.mk A260
                  clear A260
                  replace H := Option.bind_eq_some_iff.mp H
                  obtain ⟨t188, A270, H⟩ := H
                  replace H : (if t188 = true then ((firkinlaw07_live.f kj12).bind fun t189 => (some t189)) else (some false)) = some r := H
                  have A27 := Aside0.mk A270
                  clear A270
                  by_cases c28 : t188 = true
                  · subst c28
                    have H1 : ((firkinlaw07_live.f kj12).bind fun t189 => (some t189)) = some r := by rw [if_pos rfl] at H; exact H
                    clear H
                    have H := H1
                    clear H1
                    replace H := Option.bind_eq_some_iff.mp H
                    obtain ⟨t189, A290, H⟩ := H
                    replace H : (some t189) = some r := H
                    have A29 := Aside0.mk A290
                    clear A290
                    obtain rfl := Option.some.inj H
                    obtain ⟨Ao30, co30, eo30⟩ := Kd.R_slice HO_7.out
                    subst eo30
                    go_wp2_with (first | (go_at_call 11; (with_reducible refine (tight_Put.calls kj12 _ _ t172 t185 _ ?side1 ?side2 A26.out).mono ?_); (case side1 => repeat (first | exact (Kd.R_reads' HO_7.out).2.2 | (with_reducible refine Kd.C_alloc ?_ _) | (with_reducible refine Kd.C_drewN ?_ _) | (with_reducible refine Kd.C_drew ?_))); (case side2 => exact (Kd.R_reads' HO_7.out).2.1); rintro e w31 ⟨v186, rfl, ho0, hb⟩; have n0_ := Aside0.mk (Kd.R_below (by (with_reducible repeat (first | apply Kd.R_alloc | apply Kd.R_drewN | apply Kd.R_drew)); exact HO_7.out) hb); have n1_ := Aside0.mk (Kd.R_lower ho0 (below_size (by repeat (first | (with_reducible first | exact HB.out | apply below_alloc | apply pw_below_drewN | apply below_drew1) | exact HB.out)))); have n2_ := Aside0.mk (below_step (by repeat (first | (with_reducible first | exact HB.out | apply below_alloc | apply pw_below_drewN | apply below_drew1) | exact HB.out)) hb); clear HO_7; clear HB; have HO_7 := n0_; have HO187 := n1_; have HB := n2_; clear n0_ n1_ n2_; (try clear hb); (try clear hb2); (try clear hk); (try clear hi); (try clear ho0); (try clear A26); obtain ⟨Ao32, co32, eo32⟩ := Kd.R_slice HO187.out; subst eo32) | (go_at_call 13; (with_reducible refine (firkinref01_Same.calls _ _ t185 _ _ l0 true _ ?side1 ?side2 ?side3 ?side4 A27.out).mono ?_); (case side1 => repeat (first | exact (Kd.R_reads' HO187.out).2.2 | (with_reducible refine Kd.C_alloc ?_ _) | (with_reducible refine Kd.C_drewN ?_ _) | (with_reducible refine Kd.C_drew ?_))); (case side2 => exact (Kd.R_reads' HO187.out).2.1); (case side3 => repeat (first | exact (Kd.C_below HR0.out HB.out) | (with_reducible refine Kd.C_alloc ?_ _) | (with_reducible refine Kd.C_drewN ?_ _) | (with_reducible refine Kd.C_drew ?_))); (case side4 => exact HC0.out); rintro e w' ⟨rfl, ⟨nd, rfl⟩⟩; (try clear A27)) | (go_at_call 10; (with_reducible refine (firkinlaw07_live.calls kj12  t189 _ A29.out).mono ?_); rintro e w33 ⟨rfl, hb⟩; have n0_ := Aside0.mk (Kd.R_below (by (with_reducible repeat (first | apply Kd.R_alloc | apply Kd.R_drewN | apply Kd.R_drew)); exact HO_7.out) hb); have n1_ := Aside0.mk (Kd.R_below (by (with_reducible repeat (first | apply Kd.R_alloc | apply Kd.R_drewN | apply Kd.R_drew)); exact HO187.out) hb); have n2_ := Aside0.mk (below_step (by repeat (first | (with_reducible first | exact HB.out | apply below_alloc | apply pw_below_drewN | apply below_drew1) | exact HB.out)) hb); clear HO_7; clear HO187; clear HB; have HO_7 := n0_; have HO187 := n1_; have HB := n2_; clear n0_ n1_ n2_; (try clear hb); (try clear hb2); (try clear hk); (try clear hi); (try clear A29)))
                    go_ret
                    exact ⟨by first | rfl | (simp [errW_none, errW_some] <;> rfl) | (simp [*, errW_none, errW_some] <;> rfl), by repeat (first | (with_reducible first | exact HB.out | apply below_alloc | apply pw_below_drewN | apply below_drew1) | exact HB.out)⟩
                  · replace c28 := Bool.eq_false_iff.mpr c28
                    subst c28
                    have H1 : (some false) = some r := by rw [if_neg (show ¬ (false = true) by decide)] at H; exact H
                    clear H
                    have H := H1
                    clear H1
                    obtain rfl := Option.some.inj H
                    obtain ⟨Ao34, co34, eo34⟩ := Kd.R_slice HO_7.out
                    subst eo34
                    go_wp2_with (first | (go_at_call 11; (with_reducible refine (tight_Put.calls kj12 _ _ t172 t185 _ ?side1 ?side2 A26.out).mono ?_); (case side1 => repeat (first | exact (Kd.R_reads' HO_7.out).2.2 | (with_reducible refine Kd.C_alloc ?_ _) | (with_reducible refine Kd.C_drewN ?_ _) | (with_reducible refine Kd.C_drew ?_))); (case side2 => exact (Kd.R_reads' HO_7.out).2.1); rintro e w35 ⟨v186, rfl, ho0, hb⟩; have n0_ := Aside0.mk (Kd.R_below (by (with_reducible repeat (first | apply Kd.R_alloc | apply Kd.R_drewN | apply Kd.R_drew)); exact HO_7.out) hb); have n1_ := Aside0.mk (Kd.R_lower ho0 (below_size (by repeat (first | (with_reducible first | exact HB.out | apply below_alloc | apply pw_below_drewN | apply below_drew1) | exact HB.out)))); have n2_ := Aside0.mk (below_step (by repeat (first | (with_reducible first | exact HB.out | apply below_alloc | apply pw_below_drewN | apply below_drew1) | exact HB.out)) hb); clear HO_7; clear HB; have HO_7 := n0_; have HO187 := n1_; have HB := n2_; clear n0_ n1_ n2_; (try clear hb); (try clear hb2); (try clear hk); (try clear hi); (try clear ho0); (try clear A26); obtain ⟨Ao36, co36, eo36⟩ := Kd.R_slice HO187.out; subst eo36) | (go_at_call 13; (with_reducible refine (firkinref01_Same.calls _ _ t185 _ _ l0 false _ ?side1 ?side2 ?side3 ?side4 A27.out).mono ?_); (case side1 => repeat (first | exact (Kd.R_reads' HO187.out).2.2 | (with_reducible refine Kd.C_alloc ?_ _) | (with_reducible refine Kd.C_drewN ?_ _) | (with_reducible refine Kd.C_drew ?_))); (case side2 => exact (Kd.R_reads' HO187.out).2.1); (case side3 => repeat (first | exact (Kd.C_below HR0.out HB.out) | (with_reducible refine Kd.C_alloc ?_ _) | (with_reducible refine Kd.C_drewN ?_ _) | (with_reducible refine Kd.C_drew ?_))); (case side4 => exact HC0.out); rintro e w' ⟨rfl, ⟨nd, rfl⟩⟩; (try clear A27)))
                    go_ret
                    exact ⟨by first | rfl | (simp [errW_none, errW_some] <;> rfl) | (simp [*, errW_none, errW_some] <;> rfl), by repeat (first | (with_reducible first | exact HB.out | apply below_alloc | apply pw_below_drewN | apply below_drew1) | exact HB.out)⟩
                · rw [if_neg c25] at H
                  have c25b0 : ((t172.length : Int) == a1) = false := beq_eq_false_iff_ne.mpr c25
                  have c25b1 : ((t172.length : Int) != a1) = true := bne_iff_ne.mpr c25
                  obtain rfl := Option.some.inj H
                  obtain ⟨Ao37, co37, eo37⟩ := Kd.R_slice HO_7.out
                  subst eo37
                  go_wp2
                  go_ret
                  exact ⟨by first | rfl | (simp [errW_none, errW_some] <;> rfl) | (simp [*, errW_none, errW_some] <;> rfl), by repeat (first | (with_reducible first | exact HB.out | apply below_alloc | apply pw_below_drewN | apply below_drew1) | exact HB.out)⟩
        · replace c11 := Bool.eq_false_iff.mpr c11
          subst c11
          have H1 : (if (t172.length : Int) = 0 then ((firkinlaw07_live.f kj3).bind fun t176 => (some t176)) else (some false)) = some r := by rw [if_neg (show ¬ (false = true) by decide)] at H; exact H
          clear H
          have H := H1
          clear H1
          by_cases c38 : (t172.length : Int) = 0
          · rw [if_pos c38] at H
            have c38b0 : ((t172.length : Int) == 0) = true := beq_iff_eq.mpr c38
            have c38b1 : ((t172.length : Int) != 0) = false := bne_eq_false_iff_eq.mpr c38
            clear c38
            replace H := Option.bind_eq_some_iff.mp H
            obtain ⟨t176, A390, H⟩ := H
            replace H : (some t176) = some r := H
            have A39 := Aside0.mk A390
            clear A390
            obtain rfl := Option.some.inj H
            go_wp2_with (first | ((with_reducible refine gate_callee (f := 12) rfl ?_); refine goesL_ (some 26) rfl rfl Try.func12 (by kernel_rfl) rfl #[.slice A0 l0.length c0, .int .i64 a1] rfl (by (try simp only [List.map_toArray, List.map_cons, List.map_nil]); first | done | rfl | (simp only [List.length_drop, List.length_take]; rfl)) ?_; (with_reducible refine (tight_Get.calls kj3 _ _ l0 a1 t172 false _ ?side1 ?side2 A10.out).mono ?_); (case side1 => repeat (first | exact (Kd.C_below HR0.out HB.out) | (with_reducible refine Kd.C_alloc ?_ _) | (with_reducible refine Kd.C_drewN ?_ _) | (with_reducible refine Kd.C_drew ?_))); (case side2 => exact HC0.out); rintro e w40 ⟨v174, rfl, ho0, hb⟩; refine ⟨_, rfl, ?_⟩; have n0_ := Aside0.mk (Kd.R_lower ho0 (below_size (by repeat (first | (with_reducible first | exact HB.out | apply below_alloc | apply pw_below_drewN | apply below_drew1) | exact HB.out)))); have n1_ := Aside0.mk (below_step (by repeat (first | (with_reducible first | exact HB.out | apply below_alloc | apply pw_below_drewN | apply below_drew1) | exact HB.out)) hb); clear HB; have HO175 := n0_; have HB := n1_; clear n0_ n1_; (try clear hb); (try clear hb2); (try clear hk); (try clear hi); (try clear ho0); obtain ⟨Ao41, co41, eo41⟩ := Kd.R_slice HO175.out; subst eo41) | (go_at_call 10; (with_reducible refine (firkinlaw07_live.calls kj3  t176 _ A39.out).mono ?_); rintro e w42 ⟨rfl, hb⟩; have n0_ := Aside0.mk (Kd.R_below (by (with_reducible repeat (first | apply Kd.R_alloc | apply Kd.R_drewN | apply Kd.R_drew)); exact HO175.out) hb); have n1_ := Aside0.mk (below_step (by repeat (first | (with_reducible first | exact HB.out | apply below_alloc | apply pw_below_drewN | apply below_drew1) | exact HB.out)) hb); clear HO175; clear HB; have HO175 := n0_; have HB := n1_; clear n0_ n1_; (try clear hb); (try clear hb2); (try clear hk); (try clear hi); (try clear A39)))
            go_ret
            exact ⟨by first | rfl | (simp [errW_none, errW_some] <;> rfl) | (simp [*, errW_none, errW_some] <;> rfl), by repeat (first | (with_reducible first | exact HB.out | apply below_alloc | apply pw_below_drewN | apply below_drew1) | exact HB.out)⟩
          · rw [if_neg c38] at H
            have c38b0 : ((t172.length : Int) == 0) = false := beq_eq_false_iff_ne.mpr c38
            have c38b1 : ((t172.length : Int) != 0) = true := bne_iff_ne.mpr c38
            have c38b2 : ¬ (t172 = []) := fun h_ => c38 (by rw [h_]; rfl)
            obtain rfl := Option.some.inj H
            go_wp2_with (first | ((with_reducible refine gate_callee (f := 12) rfl ?_); refine goesL_ (some 26) rfl rfl Try.func12 (by kernel_rfl) rfl #[.slice A0 l0.length c0, .int .i64 a1] rfl (by (try simp only [List.map_toArray, List.map_cons, List.map_nil]); first | done | rfl | (simp only [List.length_drop, List.length_take]; rfl)) ?_; (with_reducible refine (tight_Get.calls kj3 _ _ l0 a1 t172 false _ ?side1 ?side2 A10.out).mono ?_); (case side1 => repeat (first | exact (Kd.C_below HR0.out HB.out) | (with_reducible refine Kd.C_alloc ?_ _) | (with_reducible refine Kd.C_drewN ?_ _) | (with_reducible refine Kd.C_drew ?_))); (case side2 => exact HC0.out); rintro e w43 ⟨v174, rfl, ho0, hb⟩; refine ⟨_, rfl, ?_⟩; have n0_ := Aside0.mk (Kd.R_lower ho0 (below_size (by repeat (first | (with_reducible first | exact HB.out | apply below_alloc | apply pw_below_drewN | apply below_drew1) | exact HB.out)))); have n1_ := Aside0.mk (below_step (by repeat (first | (with_reducible first | exact HB.out | apply below_alloc | apply pw_below_drewN | apply below_drew1) | exact HB.out)) hb); clear HB; have HO175 := n0_; have HB := n1_; clear n0_ n1_; (try clear hb); (try clear hb2); (try clear hk); (try clear hi); (try clear ho0); obtain ⟨Ao44, co44, eo44⟩ := Kd.R_slice HO175.out; subst eo44))
            go_ret
            exact ⟨by first | rfl | (simp [errW_none, errW_some] <;> rfl) | (simp [*, errW_none, errW_some] <;> rfl), by repeat (first | (with_reducible first | exact HB.out | apply below_alloc | apply pw_below_drewN | apply below_drew1) | exact HB.out)⟩

end Go.Proofs.Ytbbffnlefmogbaa.X
/- A number's bytes, plain law: the code's and the document's are the same. -/
namespace Go.Proofs.Ytbbffnlefmogbaa.Enc
open Go.RowKit Go.Proofs.Ytbbffnlefmogbaa.X Go.Proofs.Ytbbffnlefmogbaa.Dec Go.Proofs.YtbbffnlefmogbaaW.PrintWords Go.Proofs.YtbbffnlefmogbaaW.PrintLast Go.Proofs.YtbbffnlefmogbaaW.PrintMore
set_option linter.unusedVariables false
theorem num_loop (n G : Nat) (hG : 1 ≤ G) (hG2 : G ≤ 10) (d : Nat) : ∀ (k i : Nat), i + d = G → d < k →
    vint_Num.l0 k (n : Int) (G : Int) (laid n G i) (G : Int) (i : Int) = some (encL n G) := by
  induction d with
  | zero =>
    intro k i hd hk
    obtain ⟨k, rfl⟩ : ∃ m, k = m + 1 := ⟨k - 1, by omega⟩
    obtain rfl : i = G := by omega
    rw [vint_Num.l0, if_neg (by omega), w64 (by omega) (by omega), if_pos (by omega), if_pos (by rw [laid_length]; omega)]
    rw [show ((i : Int) - 1) = ((i - 1 : Nat) : Int) by omega, rd_nat, Int.toNat_natCast]
    have hg : (laid n i i).getD (i - 1) 0 = ((n / 2 ^ (7 * (i - 1)) % 128 + 128 : Nat) : Int) := by
      simp only [laid, List.getD]
      rw [List.getElem?_map, List.getElem?_range (by omega)]
      simp; omega
    rw [hg, last_seven _ (Nat.mod_lt _ (by decide)), laid_end n i hG]
  | succ d ih =>
    intro k i hd hk
    obtain ⟨k, rfl⟩ : ∃ m, k = m + 1 := ⟨k - 1, by omega⟩
    rw [vint_Num.l0, if_pos (by omega), w64 (x := 7 * (i : Int)) (by omega) (by omega), if_pos (by omega), if_pos (by omega), if_pos (by rw [laid_length]; omega)]
    rw [show (7 * (i : Int)) = ((7 * i : Nat) : Int) by omega, shr_nat n i (by omega), seven, Int.toNat_natCast, laid_set n G i (by omega), w64 (by omega) (by omega), show ((i : Int) + 1) = ((i + 1 : Nat) : Int) by omega]
    exact ih k (i + 1) (by omega) (by omega)
theorem num_is (n : Nat) (h : n < 18446744073709551616) (k : Nat) (hk : 10 < k) : vint_Num.f k (n : Int) = some (enc n) := by
  have hl := len_le n h
  have hg := grp_le (n := n) h
  unfold vint_Num.f bits_Len64.f
  rw [if_pos ⟨by omega, by omega⟩, Option.bind_some, Int.toNat_natCast]
  have e : mx 1 (wrap64 (Int.tdiv (wrap64 ((wrap64 (((Lib.bitLen n : Nat) : Int) + 7)) - 1)) 7)) = ((grp n : Nat) : Int) := by
    rw [w64 (x := ((Lib.bitLen n : Nat) : Int) + 7) (by omega) (by omega), w64 (x := ((Lib.bitLen n : Nat) : Int) + 7 - 1) (by omega) (by omega), Int.tdiv_eq_ediv_of_nonneg (by omega), w64 (by omega) (by omega)]
    unfold mx grp
    split <;> omega
  rw [e]
  rw [if_pos (by omega), Int.toNat_natCast, if_pos (by omega), Option.bind_some, List.length_replicate, ← laid_zero n]
  have := num_loop n (grp n) (grp_has h).1 hg (grp n) k 0 (by omega) (by omega)
  exact this
theorem rnum_loop (n G : Nat) (hn : Has n G) (hlt : n < 18446744073709551616) (hG : G ≤ 10) (d : Nat) : ∀ (k i : Nat) (acc : List Int), i + d = G → 1 ≤ d → d < k → acc = (encL n G).take i →
    firkinref01_Num.l0 k ((n / 2 ^ (7 * i) : Nat) : Int) acc = some (encL n G) := by
  induction d with
  | zero => intro k i acc hd h1; omega
  | succ d ih =>
    intro k i acc hd _ hk hacc
    obtain ⟨k, rfl⟩ : ∃ m, k = m + 1 := ⟨k - 1, by omega⟩
    have hq : n / 2 ^ (7 * i) < 18446744073709551616 := Nat.lt_of_le_of_lt (Nat.div_le_self _ _) hlt
    have hlen : acc.length ≤ 10 := by rw [hacc, List.length_take, encL_length]; omega
    have hget : (encL n G)[i]? = some ((encByte n G i : Nat) : Int) := by
      rw [encL, List.getElem?_map, List.getElem?_range (by omega)]; rfl
    have hsnoc : (encL n G).take i ++ [((encByte n G i : Nat) : Int)] = (encL n G).take (i + 1) := by
      have hi : i < (encL n G).length := by rw [encL_length]; omega
      rw [List.take_succ_eq_append_getElem hi]
      congr 1
      rw [List.getElem?_eq_getElem hi] at hget
      rw [Option.some.inj hget]
    have hpow : 2 ^ (7 * (i + 1)) = 2 ^ (7 * i) * 128 := by rw [show 7 * (i + 1) = 7 * i + 7 by omega, Nat.pow_add]
    rw [firkinref01_Num.l0]
    by_cases hd0 : d = 0
    · have hi : i + 1 = G := by omega
      have hsm : n / 2 ^ (7 * i) < 128 := by
        have := hn.2.1
        rw [← hi, hpow] at this
        exact Nat.div_lt_of_lt_mul this
      rw [if_neg (by omega), if_pos (by omega), hacc]
      have he : encByte n G i = n / 2 ^ (7 * i) := by unfold encByte; rw [if_neg (by omega), Nat.mod_eq_of_lt hsm, Nat.add_zero]
      rw [show (((n / 2 ^ (7 * i) : Nat) : Int) % 256) = ((n / 2 ^ (7 * i) : Nat) : Int) by omega, ← he, hsnoc, List.take_of_length_le (by rw [encL_length]; omega)]
    · have hbig : 128 ≤ n / 2 ^ (7 * i) := by
        have h1 := hn.2.2 (by omega)
        have h2 : 2 ^ (7 * (i + 1)) ≤ 2 ^ (7 * (G - 1)) := Nat.pow_le_pow_right (by decide) (by omega)
        rw [hpow] at h2
        rw [Nat.le_div_iff_mul_le (Nat.two_pow_pos _), Nat.mul_comm]
        omega
      have he : encByte n G i = n / 2 ^ (7 * i) % 128 + 128 := by unfold encByte; rw [if_pos (by omega)]
      have hdd : n / 2 ^ (7 * i) / 128 = n / 2 ^ (7 * (i + 1)) := by rw [Nat.div_div_eq_div_mul, hpow]
      rw [if_pos (by omega), if_pos (by omega), Int.tdiv_eq_ediv_of_nonneg (by omega), Int.tmod_eq_emod_of_nonneg (by omega)]
      rw [IntKind.wrap_u64, IntKind.wrap_u64]
      rw [show ((((n / 2 ^ (7 * i) : Nat) : Int) / 128) % 18446744073709551616) = ((n / 2 ^ (7 * i) / 128 : Nat) : Int) by omega, hdd]
      rw [show (((((n / 2 ^ (7 * i) : Nat) : Int) % 128 + 128) % 18446744073709551616) % 256) = ((n / 2 ^ (7 * i) % 128 + 128 : Nat) : Int) by omega, ← he]
      exact ih k (i + 1) _ (by omega) (by omega) (by omega) (by rw [hacc, hsnoc])
theorem rnum_is (n : Nat) (h : n < 18446744073709551616) (k : Nat) (hk : 11 < k) : firkinref01_Num.f k (n : Int) = some (enc n) := by
  unfold firkinref01_Num.f
  have hg := grp_le (n := n) h
  have := rnum_loop n (grp n) (grp_has h) h hg (grp n) k 0 [] (by omega) (grp_has h).1 (by omega) (by simp)
  rw [Nat.mul_zero, Nat.pow_zero, Nat.div_one] at this
  exact this
end Go.Proofs.Ytbbffnlefmogbaa.Enc
/- A signed number's bytes, plain law: the code's and the document's are the same. -/
namespace Go.Proofs.Ytbbffnlefmogbaa.Enc
open Go.RowKit Go.Proofs.Ytbbffnlefmogbaa.X Go.Proofs.Ytbbffnlefmogbaa.Dec Go.Proofs.YtbbffnlefmogbaaW.PrintWords Go.Proofs.YtbbffnlefmogbaaW.PrintLast Go.Proofs.YtbbffnlefmogbaaW.PrintMore
set_option linter.unusedVariables false
theorem int_is (n : Int) (h0 : -9223372036854775808 ≤ n) (h1 : n < 9223372036854775808) (k : Nat) (hk : 10 < k) : vint_Int.f k n = some (enc (zig n)) := by
  unfold vint_Int.f
  have hz := zig_lt h0 h1
  have e : Go.bits .xor .u64 (IntKind.u64.wrap ((IntKind.u64.wrap n) * 2)) (IntKind.u64.wrap (n / 9223372036854775808)) = ((zig n : Nat) : Int) := by
    rw [IntKind.wrap_u64, IntKind.wrap_u64, IntKind.wrap_u64]
    by_cases hn : n < 0
    · have e1 : n / 9223372036854775808 = -1 := by omega
      rw [e1, show ((-1 : Int) % 18446744073709551616) = 18446744073709551615 by decide, u64_xor _ _ (by omega) (by omega) (by omega) (by omega), show (18446744073709551615 : Int).toNat = 18446744073709551615 by decide, xor_all _ (by omega)]
      unfold zig
      rw [if_pos hn]
      omega
    · have e1 : n / 9223372036854775808 = 0 := by omega
      rw [e1, show ((0 : Int) % 18446744073709551616) = 0 by decide, u64_xor _ _ (by omega) (by omega) (by omega) (by omega), show (0 : Int).toNat = 0 from rfl, Nat.xor_zero]
      unfold zig
      rw [if_neg hn]
      omega
  rw [e, num_is _ hz k hk]; rfl
theorem rint_is (n : Int) (h0 : -9223372036854775808 ≤ n) (h1 : n < 9223372036854775808) (k : Nat) (hk : 11 < k) : firkinref01_Int.f k n = some (enc (zig n)) := by
  unfold firkinref01_Int.f
  have hz := zig_lt h0 h1
  simp only [IntKind.wrap_u64]
  by_cases hn : n < 0
  · rw [if_pos hn]
    have e : ((2 * ((-(n % 18446744073709551616)) % 18446744073709551616)) % 18446744073709551616 - 1) % 18446744073709551616 = ((zig n : Nat) : Int) := by
      unfold zig; rw [if_pos hn]; omega
    rw [e, rnum_is _ hz k hk]; rfl
  · rw [if_neg hn]
    have e : (2 * (n % 18446744073709551616)) % 18446744073709551616 = ((zig n : Nat) : Int) := by
      unfold zig; rw [if_neg hn]; omega
    rw [e, rnum_is _ hz k hk]; rfl
end Go.Proofs.Ytbbffnlefmogbaa.Enc
-- Printed for this claim by a program of this session (wip/xprint.py) over the kit's printer; Lean checks it.
namespace Go.Proofs.Ytbbffnlefmogbaa.X
open Go.RowKit Go.Proofs.YtbbffnlefmogbaaW.PrintWords Go.Proofs.YtbbffnlefmogbaaW.PrintLast Go.Proofs.YtbbffnlefmogbaaW.PrintMore
attribute [local go_sem] max2_int min2_int max_two min_two max_three min_three max_four min_four   -- for this text's walks alone
set_option linter.unusedVariables false
set_option linter.unusedSimpArgs false

/-! ### vint_Source_Below: function 57 -/
def vint_Source_Below.f (s0_0 : List Int) (s0_1 : Bool) (a1 : Int) : Option (Int × List Int × Bool) := (vint_Source_Num.f s0_0 s0_1).bind fun bt102 => ((vint_Source_Ok.f bt102.2.1 bt102.2.2).bind fun bt105 => (if bt105.1 = true then (if a1 > 0 then (if bt102.1 < (IntKind.u64.wrap (a1)) then (some (wrap64 (bt102.1), bt105.2.1, bt105.2.2)) else ((vint_Source_Fail.f bt105.2.1 bt105.2.2).bind fun bt108 => (some (0, bt108.1, bt108.2)))) else ((vint_Source_Fail.f bt105.2.1 bt105.2.2).bind fun bt110 => (some (0, bt110.1, bt110.2)))) else ((vint_Source_Fail.f bt105.2.1 bt105.2.2).bind fun bt112 => (some (0, bt112.1, bt112.2)))))
set_option maxHeartbeats 8000000 in
set_option maxRecDepth 100000 in
theorem vint_Source_Below.calls (g : Nat) (s0_0 : List Int) (s0_1 : Bool) (a1 : Int) (r1 : Int) (r2 : List Int) (r3 : Bool) (w0 w : World) (hI : IsS75 w0 w g s0_0 s0_1) (hB : Below w0.heap.size w0 w) (h : vint_Source_Below.f s0_0 s0_1 a1 = some (r1, r2, r3)) :
    Calls Try.prog 57 #[.pointer (some ⟨g, 0, none⟩), .int .i64 a1] w fun e w' => e = .returned (.int .i64 r1) ∧ IsS75 w0 w' g r2 r3 ∧ Below w0.heap.size w0 w' ∧ KeepBut w w' g none := by
  have HI0 := Aside0.mk hI
  have HK := Aside0.mk (KeepBut.refl w g none)
  have HL := Aside0.mk hB.size
  clear hI
  have HW0 := Aside0.mk hB.size
  have HB := Aside0.mk hB
  clear hB
  have H : ((vint_Source_Num.f s0_0 s0_1).bind fun bt102 => ((vint_Source_Ok.f bt102.2.1 bt102.2.2).bind fun bt105 => (if bt105.1 = true then (if a1 > 0 then (if bt102.1 < (IntKind.u64.wrap (a1)) then (some (wrap64 (bt102.1), bt105.2.1, bt105.2.2)) else ((vint_Source_Fail.f bt105.2.1 bt105.2.2).bind fun bt108 => (some (0, bt108.1, bt108.2)))) else ((vint_Source_Fail.f bt105.2.1 bt105.2.2).bind fun bt110 => (some (0, bt110.1, bt110.2)))) else ((vint_Source_Fail.f bt105.2.1 bt105.2.2).bind fun bt112 => (some (0, bt112.1, bt112.2)))))) = some (r1, r2, r3) := h
  clear h
  replace H := Option.bind_eq_some_iff.mp H
  obtain ⟨⟨t102, t103, t104⟩, A30, H⟩ := H
  replace H : ((vint_Source_Ok.f t103 t104).bind fun bt105 => (if bt105.1 = true then (if a1 > 0 then (if t102 < (IntKind.u64.wrap (a1)) then (some (wrap64 (t102), bt105.2.1, bt105.2.2)) else ((vint_Source_Fail.f bt105.2.1 bt105.2.2).bind fun bt108 => (some (0, bt108.1, bt108.2)))) else ((vint_Source_Fail.f bt105.2.1 bt105.2.2).bind fun bt110 => (some (0, bt110.1, bt110.2)))) else ((vint_Source_Fail.f bt105.2.1 bt105.2.2).bind fun bt112 => (some (0, bt112.1, bt112.2))))) = some (r1, r2, r3) := H
  have A3 := Aside0.mk A30
  clear A30
  replace H := Option.bind_eq_some_iff.mp H
  obtain ⟨⟨t105, t106, t107⟩, A40, H⟩ := H
  replace H : (if t105 = true then (if a1 > 0 then (if t102 < (IntKind.u64.wrap (a1)) then (some (wrap64 (t102), t106, t107)) else ((vint_Source_Fail.f t106 t107).bind fun bt108 => (some (0, bt108.1, bt108.2)))) else ((vint_Source_Fail.f t106 t107).bind fun bt110 => (some (0, bt110.1, bt110.2)))) else ((vint_Source_Fail.f t106 t107).bind fun bt112 => (some (0, bt112.1, bt112.2)))) = some (r1, r2, r3) := H
  have A4 := Aside0.mk A40
  clear A40
  by_cases c5 : t105 = true
  · subst c5
    have H1 : (if a1 > 0 then (if t102 < (IntKind.u64.wrap (a1)) then (some (wrap64 (t102), t106, t107)) else ((vint_Source_Fail.f t106 t107).bind fun bt108 => (some (0, bt108.1, bt108.2)))) else ((vint_Source_Fail.f t106 t107).bind fun bt110 => (some (0, bt110.1, bt110.2)))) = some (r1, r2, r3) := by rw [if_pos rfl] at H; exact H
    clear H
    have H := H1
    clear H1
    by_cases c6 : a1 > 0
    · rw [if_pos c6] at H
      have c6b0 : decide (0 < a1) = true := decide_eq_true c6
      clear c6
      by_cases c7 : t102 < (IntKind.u64.wrap (a1))
      · rw [if_pos c7] at H
        have c7b0 : decide (t102 < (IntKind.u64.wrap (a1))) = true := decide_eq_true c7
        clear c7
        simp only [Option.some.injEq, Prod.mk.injEq] at H
        obtain ⟨rfl, rfl, rfl⟩ := H
        go_enter Try.func57, Try.ntmps57
        go_wp2_with (first | ((with_reducible refine gate_callee (f := 83) rfl ?_); refine goesL_ (some 7) rfl rfl Try.func83 (by kernel_rfl) rfl #[.pointer (some ⟨g, 0, none⟩)] rfl (by (try simp only [List.map_toArray, List.map_cons, List.map_nil]); first | done | rfl | (simp only [List.length_drop, List.length_take]; rfl)) ?_; (with_reducible refine (vint_Source_Num.calls g s0_0 s0_1 t102 t103 t104 w0 _ ?side1 ?side2 A3.out).mono ?_); (case side1 => repeat (first | (with_reducible first | exact HI0.out | apply IsS75.alloc | apply IsS75.drewN | apply IsS75.drew | apply IsS75.set_0 | apply IsS75.set_1) | exact HI0.out)); (case side2 => repeat (first | (with_reducible first | exact HB.out | apply below_alloc | apply pw_below_drewN | apply below_drew1 | refine below_set ?_ (IsS75.ge HI0.out)) | exact HB.out)); rintro e w8 ⟨rfl, hi, hb, hk⟩; refine ⟨_, rfl, ?_⟩; have n0_ := Aside0.mk (KeepBut.trans (by repeat (first | (with_reducible first | exact HK.out | apply KeepBut.set_ | apply keep_drewN | apply keep_drew | apply keep_alloc) | exact HK.out)) hk (.inl rfl)); have n1_ := Aside0.mk (hb); have n2_ := Aside0.mk (hi); clear HK; clear HB; clear HI0; have HK := n0_; have HB := n1_; have HI0 := n2_; clear n0_ n1_ n2_; (try clear hb); (try clear hb2); (try clear hk); (try clear hi)) | ((with_reducible refine gate_callee (f := 23) rfl ?_); refine goesL_ (some 9) rfl rfl Try.func23 (by kernel_rfl) rfl #[.pointer (some ⟨g, 0, none⟩)] rfl (by (try simp only [List.map_toArray, List.map_cons, List.map_nil]); first | done | rfl | (simp only [List.length_drop, List.length_take]; rfl)) ?_; (with_reducible refine (vint_Source_Ok.calls g t103 t104 true t106 t107 w0 _ ?side1 ?side2 A4.out).mono ?_); (case side1 => repeat (first | (with_reducible first | exact HI0.out | apply IsS75.alloc | apply IsS75.drewN | apply IsS75.drew | apply IsS75.set_0 | apply IsS75.set_1) | exact HI0.out)); (case side2 => repeat (first | (with_reducible first | exact HB.out | apply below_alloc | apply pw_below_drewN | apply below_drew1 | refine below_set ?_ (IsS75.ge HI0.out)) | exact HB.out)); rintro e w9 ⟨rfl, hi, hb, hk⟩; refine ⟨_, rfl, ?_⟩; have n0_ := Aside0.mk (KeepBut.trans (by repeat (first | (with_reducible first | exact HK.out | apply KeepBut.set_ | apply keep_drewN | apply keep_drew | apply keep_alloc) | exact HK.out)) hk (.inl rfl)); have n1_ := Aside0.mk (hb); have n2_ := Aside0.mk (hi); clear HK; clear HB; clear HI0; have HK := n0_; have HB := n1_; have HI0 := n2_; clear n0_ n1_ n2_; (try clear hb); (try clear hb2); (try clear hk); (try clear hi)))
        go_ret
        exact ⟨by first | rfl | (simp [errW_none, errW_some] <;> rfl) | (simp [*, errW_none, errW_some] <;> rfl), by repeat (first | (with_reducible first | exact HI0.out | apply IsS75.alloc | apply IsS75.drewN | apply IsS75.drew | apply IsS75.set_0 | apply IsS75.set_1) | exact HI0.out), by repeat (first | (with_reducible first | exact HB.out | apply below_alloc | apply pw_below_drewN | apply below_drew1 | refine below_set ?_ (IsS75.ge HI0.out)) | exact HB.out), by repeat (first | (with_reducible first | exact HK.out | apply KeepBut.set_ | apply keep_drewN | apply keep_drew | apply keep_alloc) | exact HK.out)⟩
      · rw [if_neg c7] at H
        have c7b0 : decide (t102 < (IntKind.u64.wrap (a1))) = false := decide_eq_false c7
        clear c7
        replace H := Option.bind_eq_some_iff.mp H
        obtain ⟨⟨t108, t109⟩, A100, H⟩ := H
        replace H : (some (0, t108, t109)) = some (r1, r2, r3) := H
        have A10 := Aside0.mk A100
        clear A100
        simp only [Option.some.injEq, Prod.mk.injEq] at H
        obtain ⟨rfl, rfl, rfl⟩ := H
        go_enter Try.func57, Try.ntmps57
        go_wp2_with (first | ((with_reducible refine gate_callee (f := 83) rfl ?_); refine goesL_ (some 7) rfl rfl Try.func83 (by kernel_rfl) rfl #[.pointer (some ⟨g, 0, none⟩)] rfl (by (try simp only [List.map_toArray, List.map_cons, List.map_nil]); first | done | rfl | (simp only [List.length_drop, List.length_take]; rfl)) ?_; (with_reducible refine (vint_Source_Num.calls g s0_0 s0_1 t102 t103 t104 w0 _ ?side1 ?side2 A3.out).mono ?_); (case side1 => repeat (first | (with_reducible first | exact HI0.out | apply IsS75.alloc | apply IsS75.drewN | apply IsS75.drew | apply IsS75.set_0 | apply IsS75.set_1) | exact HI0.out)); (case side2 => repeat (first | (with_reducible first | exact HB.out | apply below_alloc | apply pw_below_drewN | apply below_drew1 | refine below_set ?_ (IsS75.ge HI0.out)) | exact HB.out)); rintro e w11 ⟨rfl, hi, hb, hk⟩; refine ⟨_, rfl, ?_⟩; have n0_ := Aside0.mk (KeepBut.trans (by repeat (first | (with_reducible first | exact HK.out | apply KeepBut.set_ | apply keep_drewN | apply keep_drew | apply keep_alloc) | exact HK.out)) hk (.inl rfl)); have n1_ := Aside0.mk (hb); have n2_ := Aside0.mk (hi); clear HK; clear HB; clear HI0; have HK := n0_; have HB := n1_; have HI0 := n2_; clear n0_ n1_ n2_; (try clear hb); (try clear hb2); (try clear hk); (try clear hi)) | ((with_reducible refine gate_callee (f := 23) rfl ?_); refine goesL_ (some 9) rfl rfl Try.func23 (by kernel_rfl) rfl #[.pointer (some ⟨g, 0, none⟩)] rfl (by (try simp only [List.map_toArray, List.map_cons, List.map_nil]); first | done | rfl | (simp only [List.length_drop, List.length_take]; rfl)) ?_; (with_reducible refine (vint_Source_Ok.calls g t103 t104 true t106 t107 w0 _ ?side1 ?side2 A4.out).mono ?_); (case side1 => repeat (first | (with_reducible first | exact HI0.out | apply IsS75.alloc | apply IsS75.drewN | apply IsS75.drew | apply IsS75.set_0 | apply IsS75.set_1) | exact HI0.out)); (case side2 => repeat (first | (with_reducible first | exact HB.out | apply below_alloc | apply pw_below_drewN | apply below_drew1 | refine below_set ?_ (IsS75.ge HI0.out)) | exact HB.out)); rintro e w12 ⟨rfl, hi, hb, hk⟩; refine ⟨_, rfl, ?_⟩; have n0_ := Aside0.mk (KeepBut.trans (by repeat (first | (with_reducible first | exact HK.out | apply KeepBut.set_ | apply keep_drewN | apply keep_drew | apply keep_alloc) | exact HK.out)) hk (.inl rfl)); have n1_ := Aside0.mk (hb); have n2_ := Aside0.mk (hi); clear HK; clear HB; clear HI0; have HK := n0_; have HB := n1_; have HI0 := n2_; clear n0_ n1_ n2_; (try clear hb); (try clear hb2); (try clear hk); (try clear hi)) | ((with_reducible refine gate_callee (f := 59) rfl ?_); refine goesL_ (some 23) rfl rfl Try.func59 (by kernel_rfl) rfl #[.pointer (some ⟨g, 0, none⟩)] rfl (by (try simp only [List.map_toArray, List.map_cons, List.map_nil]); first | done | rfl | (simp only [List.length_drop, List.length_take]; rfl)) ?_; (with_reducible refine (vint_Source_Fail.calls g t106 t107 t108 t109 w0 _ ?side1 ?side2 A10.out).mono ?_); (case side1 => repeat (first | (with_reducible first | exact HI0.out | apply IsS75.alloc | apply IsS75.drewN | apply IsS75.drew | apply IsS75.set_0 | apply IsS75.set_1) | exact HI0.out)); (case side2 => repeat (first | (with_reducible first | exact HB.out | apply below_alloc | apply pw_below_drewN | apply below_drew1 | refine below_set ?_ (IsS75.ge HI0.out)) | exact HB.out)); rintro e w13 ⟨rfl, hi, hb, hk⟩; refine ⟨_, rfl, ?_⟩; have n0_ := Aside0.mk (KeepBut.trans (by repeat (first | (with_reducible first | exact HK.out | apply KeepBut.set_ | apply keep_drewN | apply keep_drew | apply keep_alloc) | exact HK.out)) hk (.inl rfl)); have n1_ := Aside0.mk (hb); have n2_ := Aside0.mk (hi); clear HK; clear HB; clear HI0; have HK := n0_; have HB := n1_; have HI0 := n2_; clear n0_ n1_ n2_; (try clear hb); (try clear hb2); (try clear hk); (try clear hi)))
        go_ret
        exact ⟨by first | rfl | (simp [errW_none, errW_some] <;> rfl) | (simp [*, errW_none, errW_some] <;> rfl), by repeat (first | (with_reducible first | exact HI0.out | apply IsS75.alloc | apply IsS75.drewN | apply IsS75.drew | apply IsS75.set_0 | apply IsS75.set_1) | exact HI0.out), by repeat (first | (with_reducible first | exact HB.out | apply below_alloc | apply pw_below_drewN | apply below_drew1 | refine below_set ?_ (IsS75.ge HI0.out)) | exact HB.out), by repeat (first | (with_reducible first | exact HK.out | apply KeepBut.set_ | apply keep_drewN | apply keep_drew | apply keep_alloc) | exact HK.out)⟩
    · rw [if_neg c6] at H
      have c6b0 : decide (0 < a1) = false := decide_eq_false c6
      clear c6
      replace H := Option.bind_eq_some_iff.mp H
      obtain ⟨⟨t110, t111⟩, A140, H⟩ := H
      replace H : (some (0, t110, t111)) = some (r1, r2, r3) := H
      have A14 := Aside0.mk A140
      clear A140
      simp only [Option.some.injEq, Prod.mk.injEq] at H
      obtain ⟨rfl, rfl, rfl⟩ := H
      go_enter Try.func57, Try.ntmps57
      go_wp2_with (first | ((with_reducible refine gate_callee (f := 83) rfl ?_); refine goesL_ (some 7) rfl rfl Try.func83 (by kernel_rfl) rfl #[.pointer (some ⟨g, 0, none⟩)] rfl (by (try simp only [List.map_toArray, List.map_cons, List.map_nil]); first | done | rfl | (simp only [List.length_drop, List.length_take]; rfl)) ?_; (with_reducible refine (vint_Source_Num.calls g s0_0 s0_1 t102 t103 t104 w0 _ ?side1 ?side2 A3.out).mono ?_); (case side1 => repeat (first | (with_reducible first | exact HI0.out | apply IsS75.alloc | apply IsS75.drewN | apply IsS75.drew | apply IsS75.set_0 | apply IsS75.set_1) | exact HI0.out)); (case side2 => repeat (first | (with_reducible first | exact HB.out | apply below_alloc | apply pw_below_drewN | apply below_drew1 | refine below_set ?_ (IsS75.ge HI0.out)) | exact HB.out)); rintro e w15 ⟨rfl, hi, hb, hk⟩; refine ⟨_, rfl, ?_⟩; have n0_ := Aside0.mk (KeepBut.trans (by repeat (first | (with_reducible first | exact HK.out | apply KeepBut.set_ | apply keep_drewN | apply keep_drew | apply keep_alloc) | exact HK.out)) hk (.inl rfl)); have n1_ := Aside0.mk (hb); have n2_ := Aside0.mk (hi); clear HK; clear HB; clear HI0; have HK := n0_; have HB := n1_; have HI0 := n2_; clear n0_ n1_ n2_; (try clear hb); (try clear hb2); (try clear hk); (try clear hi)) | ((with_reducible refine gate_callee (f := 23) rfl ?_); refine goesL_ (some 9) rfl rfl Try.func23 (by kernel_rfl) rfl #[.pointer (some ⟨g, 0, none⟩)] rfl (by (try simp only [List.map_toArray, List.map_cons, List.map_nil]); first | done | rfl | (simp only [List.length_drop, List.length_take]; rfl)) ?_; (with_reducible refine (vint_Source_Ok.calls g t103 t104 true t106 t107 w0 _ ?side1 ?side2 A4.out).mono ?_); (case side1 => repeat (first | (with_reducible first | exact HI0.out | apply IsS75.alloc | apply IsS75.drewN | apply IsS75.drew | apply IsS75.set_0 | apply IsS75.set_1) | exact HI0.out)); (case side2 => repeat (first | (with_reducible first | exact HB.out | apply below_alloc | apply pw_below_drewN | apply below_drew1 | refine below_set ?_ (IsS75.ge HI0.out)) | exact HB.out)); rintro e w16 ⟨rfl, hi, hb, hk⟩; refine ⟨_, rfl, ?_⟩; have n0_ := Aside0.mk (KeepBut.trans (by repeat (first | (with_reducible first | exact HK.out | apply KeepBut.set_ | apply keep_drewN | apply keep_drew | apply keep_alloc) | exact HK.out)) hk (.inl rfl)); have n1_ := Aside0.mk (hb); have n2_ := Aside0.mk (hi); clear HK; clear HB; clear HI0; have HK := n0_; have HB := n1_; have HI0 := n2_; clear n0_ n1_ n2_; (try clear hb); (try clear hb2); (try clear hk); (try clear hi)) | ((with_reducible refine gate_callee (f := 59) rfl ?_); refine goesL_ (some 23) rfl rfl Try.func59 (by kernel_rfl) rfl #[.pointer (some ⟨g, 0, none⟩)] rfl (by (try simp only [List.map_toArray, List.map_cons, List.map_nil]); first | done | rfl | (simp only [List.length_drop, List.length_take]; rfl)) ?_; (with_reducible refine (vint_Source_Fail.calls g t106 t107 t110 t111 w0 _ ?side1 ?side2 A14.out).mono ?_); (case side1 => repeat (first | (with_reducible first | exact HI0.out | apply IsS75.alloc | apply IsS75.drewN | apply IsS75.drew | apply IsS75.set_0 | apply IsS75.set_1) | exact HI0.out)); (case side2 => repeat (first | (with_reducible first | exact HB.out | apply below_alloc | apply pw_below_drewN | apply below_drew1 | refine below_set ?_ (IsS75.ge HI0.out)) | exact HB.out)); rintro e w17 ⟨rfl, hi, hb, hk⟩; refine ⟨_, rfl, ?_⟩; have n0_ := Aside0.mk (KeepBut.trans (by repeat (first | (with_reducible first | exact HK.out | apply KeepBut.set_ | apply keep_drewN | apply keep_drew | apply keep_alloc) | exact HK.out)) hk (.inl rfl)); have n1_ := Aside0.mk (hb); have n2_ := Aside0.mk (hi); clear HK; clear HB; clear HI0; have HK := n0_; have HB := n1_; have HI0 := n2_; clear n0_ n1_ n2_; (try clear hb); (try clear hb2); (try clear hk); (try clear hi)))
      go_ret
      exact ⟨by first | rfl | (simp [errW_none, errW_some] <;> rfl) | (simp [*, errW_none, errW_some] <;> rfl), by repeat (first | (with_reducible first | exact HI0.out | apply IsS75.alloc | apply IsS75.drewN | apply IsS75.drew | apply IsS75.set_0 | apply IsS75.set_1) | exact HI0.out), by repeat (first | (with_reducible first | exact HB.out | apply below_alloc | apply pw_below_drewN | apply below_drew1 | refine below_set ?_ (IsS75.ge HI0.out)) | exact HB.out), by repeat (first | (with_reducible first | exact HK.out | apply KeepBut.set_ | apply keep_drewN | apply keep_drew | apply keep_alloc) | exact HK.out)⟩
  · replace c5 := Bool.eq_false_iff.mpr c5
    subst c5
    have H1 : ((vint_Source_Fail.f t106 t107).bind fun bt112 => (some (0, bt112.1, bt112.2))) = some (r1, r2, r3) := by rw [if_neg (show ¬ (false = true) by decide)] at H; exact H
    clear H
    have H := H1
    clear H1
    replace H := Option.bind_eq_some_iff.mp H
    obtain ⟨⟨t112, t113⟩, A180, H⟩ := H
    replace H : (some (0, t112, t113)) = some (r1, r2, r3) := H
    have A18 := Aside0.mk A180
    clear A180
    simp only [Option.some.injEq, Prod.mk.injEq] at H
    obtain ⟨rfl, rfl, rfl⟩ := H
    go_enter Try.func57, Try.ntmps57
    go_wp2_with (first | ((with_reducible refine gate_callee (f := 83) rfl ?_); refine goesL_ (some 7) rfl rfl Try.func83 (by kernel_rfl) rfl #[.pointer (some ⟨g, 0, none⟩)] rfl (by (try simp only [List.map_toArray, List.map_cons, List.map_nil]); first | done | rfl | (simp only [List.length_drop, List.length_take]; rfl)) ?_; (with_reducible refine (vint_Source_Num.calls g s0_0 s0_1 t102 t103 t104 w0 _ ?side1 ?side2 A3.out).mono ?_); (case side1 => repeat (first | (with_reducible first | exact HI0.out | apply IsS75.alloc | apply IsS75.drewN | apply IsS75.drew | apply IsS75.set_0 | apply IsS75.set_1) | exact HI0.out)); (case side2 => repeat (first | (with_reducible first | exact HB.out | apply below_alloc | apply pw_below_drewN | apply below_drew1 | refine below_set ?_ (IsS75.ge HI0.out)) | exact HB.out)); rintro e w19 ⟨rfl, hi, hb, hk⟩; refine ⟨_, rfl, ?_⟩; have n0_ := Aside0.mk (KeepBut.trans (by repeat (first | (with_reducible first | exact HK.out | apply KeepBut.set_ | apply keep_drewN | apply keep_drew | apply keep_alloc) | exact HK.out)) hk (.inl rfl)); have n1_ := Aside0.mk (hb); have n2_ := Aside0.mk (hi); clear HK; clear HB; clear HI0; have HK := n0_; have HB := n1_; have HI0 := n2_; clear n0_ n1_ n2_; (try clear hb); (try clear hb2); (try clear hk); (try clear hi)) | ((with_reducible refine gate_callee (f := 23) rfl ?_); refine goesL_ (some 9) rfl rfl Try.func23 (by kernel_rfl) rfl #[.pointer (some ⟨g, 0, none⟩)] rfl (by (try simp only [List.map_toArray, List.map_cons, List.map_nil]); first | done | rfl | (simp only [List.length_drop, List.length_take]; rfl)) ?_; (with_reducible refine (vint_Source_Ok.calls g t103 t104 false t106 t107 w0 _ ?side1 ?side2 A4.out).mono ?_); (case side1 => repeat (first | (with_reducible first | exact HI0.out | apply IsS75.alloc | apply IsS75.drewN | apply IsS75.drew | apply IsS75.set_0 | apply IsS75.set_1) | exact HI0.out)); (case side2 => repeat (first | (with_reducible first | exact HB.out | apply below_alloc | apply pw_below_drewN | apply below_drew1 | refine below_set ?_ (IsS75.ge HI0.out)) | exact HB.out)); rintro e w20 ⟨rfl, hi, hb, hk⟩; refine ⟨_, rfl, ?_⟩; have n0_ := Aside0.mk (KeepBut.trans (by repeat (first | (with_reducible first | exact HK.out | apply KeepBut.set_ | apply keep_drewN | apply keep_drew | apply keep_alloc) | exact HK.out)) hk (.inl rfl)); have n1_ := Aside0.mk (hb); have n2_ := Aside0.mk (hi); clear HK; clear HB; clear HI0; have HK := n0_; have HB := n1_; have HI0 := n2_; clear n0_ n1_ n2_; (try clear hb); (try clear hb2); (try clear hk); (try clear hi)) | ((with_reducible refine gate_callee (f := 59) rfl ?_); refine goesL_ (some 23) rfl rfl Try.func59 (by kernel_rfl) rfl #[.pointer (some ⟨g, 0, none⟩)] rfl (by (try simp only [List.map_toArray, List.map_cons, List.map_nil]); first | done | rfl | (simp only [List.length_drop, List.length_take]; rfl)) ?_; (with_reducible refine (vint_Source_Fail.calls g t106 t107 t112 t113 w0 _ ?side1 ?side2 A18.out).mono ?_); (case side1 => repeat (first | (with_reducible first | exact HI0.out | apply IsS75.alloc | apply IsS75.drewN | apply IsS75.drew | apply IsS75.set_0 | apply IsS75.set_1) | exact HI0.out)); (case side2 => repeat (first | (with_reducible first | exact HB.out | apply below_alloc | apply pw_below_drewN | apply below_drew1 | refine below_set ?_ (IsS75.ge HI0.out)) | exact HB.out)); rintro e w21 ⟨rfl, hi, hb, hk⟩; refine ⟨_, rfl, ?_⟩; have n0_ := Aside0.mk (KeepBut.trans (by repeat (first | (with_reducible first | exact HK.out | apply KeepBut.set_ | apply keep_drewN | apply keep_drew | apply keep_alloc) | exact HK.out)) hk (.inl rfl)); have n1_ := Aside0.mk (hb); have n2_ := Aside0.mk (hi); clear HK; clear HB; clear HI0; have HK := n0_; have HB := n1_; have HI0 := n2_; clear n0_ n1_ n2_; (try clear hb); (try clear hb2); (try clear hk); (try clear hi)))
    go_ret
    exact ⟨by first | rfl | (simp [errW_none, errW_some] <;> rfl) | (simp [*, errW_none, errW_some] <;> rfl), by repeat (first | (with_reducible first | exact HI0.out | apply IsS75.alloc | apply IsS75.drewN | apply IsS75.drew | apply IsS75.set_0 | apply IsS75.set_1) | exact HI0.out), by repeat (first | (with_reducible first | exact HB.out | apply below_alloc | apply pw_below_drewN | apply below_drew1 | refine below_set ?_ (IsS75.ge HI0.out)) | exact HB.out), by repeat (first | (with_reducible first | exact HK.out | apply KeepBut.set_ | apply keep_drewN | apply keep_drew | apply keep_alloc) | exact HK.out)⟩

end Go.Proofs.Ytbbffnlefmogbaa.X
-- Printed for this claim by a program of this session (wip/xprint.py) over the kit's printer; Lean checks it.
namespace Go.Proofs.Ytbbffnlefmogbaa.X
open Go.RowKit Go.Proofs.YtbbffnlefmogbaaW.PrintWords Go.Proofs.YtbbffnlefmogbaaW.PrintLast Go.Proofs.YtbbffnlefmogbaaW.PrintMore
attribute [local go_sem] max2_int min2_int max_two min_two max_three min_three max_four min_four   -- for this text's walks alone
set_option linter.unusedVariables false
set_option linter.unusedSimpArgs false

/-! ### firkinref01_S_Below: function 60 -/
def firkinref01_S_Below.f (s0_0 : List Int) (s0_1 : Bool) (a1 : Int) : Option (Int × List Int × Bool) := (firkinref01_S_Num.f s0_0 s0_1).bind fun bt114 => (if bt114.2.2 = true then ((firkinref01_S_Fail.f bt114.2.1 bt114.2.2).bind fun bt117 => (some (0, bt117.1, bt117.2))) else (if a1 < 1 then ((firkinref01_S_Fail.f bt114.2.1 bt114.2.2).bind fun bt119 => (some (0, bt119.1, bt119.2))) else (if bt114.1 ≥ (IntKind.u64.wrap (a1)) then ((firkinref01_S_Fail.f bt114.2.1 bt114.2.2).bind fun bt121 => (some (0, bt121.1, bt121.2))) else (some (wrap64 (bt114.1), bt114.2.1, bt114.2.2)))))
set_option maxHeartbeats 8000000 in
set_option maxRecDepth 100000 in
theorem firkinref01_S_Below.calls (g : Nat) (s0_0 : List Int) (s0_1 : Bool) (a1 : Int) (r1 : Int) (r2 : List Int) (r3 : Bool) (w0 w : World) (hI : IsS39 w0 w g s0_0 s0_1) (hB : Below w0.heap.size w0 w) (h : firkinref01_S_Below.f s0_0 s0_1 a1 = some (r1, r2, r3)) :
    Calls Try.prog 60 #[.pointer (some ⟨g, 0, none⟩), .int .i64 a1] w fun e w' => e = .returned (.int .i64 r1) ∧ IsS39 w0 w' g r2 r3 ∧ Below w0.heap.size w0 w' ∧ KeepBut w w' g none := by
  have HI0 := Aside0.mk hI
  have HK := Aside0.mk (KeepBut.refl w g none)
  have HL := Aside0.mk hB.size
  clear hI
  have HW0 := Aside0.mk hB.size
  have HB := Aside0.mk hB
  clear hB
  have H : ((firkinref01_S_Num.f s0_0 s0_1).bind fun bt114 => (if bt114.2.2 = true then ((firkinref01_S_Fail.f bt114.2.1 bt114.2.2).bind fun bt117 => (some (0, bt117.1, bt117.2))) else (if a1 < 1 then ((firkinref01_S_Fail.f bt114.2.1 bt114.2.2).bind fun bt119 => (some (0, bt119.1, bt119.2))) else (if bt114.1 ≥ (IntKind.u64.wrap (a1)) then ((firkinref01_S_Fail.f bt114.2.1 bt114.2.2).bind fun bt121 => (some (0, bt121.1, bt121.2))) else (some (wrap64 (bt114.1), bt114.2.1, bt114.2.2)))))) = some (r1, r2, r3) := h
  clear h
  replace H := Option.bind_eq_some_iff.mp H
  obtain ⟨⟨t114, t115, t116⟩, A30, H⟩ := H
  replace H : (if t116 = true then ((firkinref01_S_Fail.f t115 t116).bind fun bt117 => (some (0, bt117.1, bt117.2))) else (if a1 < 1 then ((firkinref01_S_Fail.f t115 t116).bind fun bt119 => (some (0, bt119.1, bt119.2))) else (if t114 ≥ (IntKind.u64.wrap (a1)) then ((firkinref01_S_Fail.f t115 t116).bind fun bt121 => (some (0, bt121.1, bt121.2))) else (some (wrap64 (t114), t115, t116))))) = some (r1, r2, r3) := H
  have A3 := Aside0.mk A30
  clear A30
  by_cases c4 : t116 = true
  · subst c4
    have H1 : ((firkinref01_S_Fail.f t115 true).bind fun bt117 => (some (0, bt117.1, bt117.2))) = some (r1, r2, r3) := by rw [if_pos rfl] at H; exact H
    clear H
    have H := H1
    clear H1
    replace H := Option.bind_eq_some_iff.mp H
    obtain ⟨⟨t117, t118⟩, A50, H⟩ := H
    replace H : (some (0, t117, t118)) = some (r1, r2, r3) := H
    have A5 := Aside0.mk A50
    clear A50
    simp only [Option.some.injEq, Prod.mk.injEq] at H
    obtain ⟨rfl, rfl, rfl⟩ := H
    go_enter Try.func60, Try.ntmps60
    go_wp2_with (first | ((with_reducible refine gate_callee (f := 79) rfl ?_); refine goesL_ (some 7) rfl rfl Try.func79 (by kernel_rfl) rfl #[.pointer (some ⟨g, 0, none⟩)] rfl (by (try simp only [List.map_toArray, List.map_cons, List.map_nil]); first | done | rfl | (simp only [List.length_drop, List.length_take]; rfl)) ?_; (with_reducible refine (firkinref01_S_Num.calls g s0_0 s0_1 t114 t115 true w0 _ ?side1 ?side2 A3.out).mono ?_); (case side1 => repeat (first | (with_reducible first | exact HI0.out | apply IsS39.alloc | apply IsS39.drewN | apply IsS39.drew | apply IsS39.set_0 | apply IsS39.set_1) | exact HI0.out)); (case side2 => repeat (first | (with_reducible first | exact HB.out | apply below_alloc | apply pw_below_drewN | apply below_drew1 | refine below_set ?_ (IsS39.ge HI0.out)) | exact HB.out)); rintro e w6 ⟨rfl, hi, hb, hk⟩; refine ⟨_, rfl, ?_⟩; have n0_ := Aside0.mk (KeepBut.trans (by repeat (first | (with_reducible first | exact HK.out | apply KeepBut.set_ | apply keep_drewN | apply keep_drew | apply keep_alloc) | exact HK.out)) hk (.inl rfl)); have n1_ := Aside0.mk (hb); have n2_ := Aside0.mk (hi); clear HK; clear HB; clear HI0; have HK := n0_; have HB := n1_; have HI0 := n2_; clear n0_ n1_ n2_; (try clear hb); (try clear hb2); (try clear hk); (try clear hi); obtain ⟨ASz7_0, cSz7_0, HGz7, hgz7, ⟨HSz7_0, _⟩⟩ := HI0.out; have hcz7_0 := cellS39_0 HGz7; have hcz7_1 := cellS39_1 HGz7; have hfz7_0 := blk_frozen HGz7 0; have hfz7_1 := blk_frozen HGz7 1; clear HGz7 hgz7) | ((with_reducible refine gate_callee (f := 62) rfl ?_); refine goesL_ (some 23) rfl rfl Try.func62 (by kernel_rfl) rfl #[.pointer (some ⟨g, 0, none⟩)] rfl (by (try simp only [List.map_toArray, List.map_cons, List.map_nil]); first | done | rfl | (simp only [List.length_drop, List.length_take]; rfl)) ?_; (with_reducible refine (firkinref01_S_Fail.calls g t115 true t117 t118 w0 _ ?side1 ?side2 A5.out).mono ?_); (case side1 => repeat (first | (with_reducible first | exact HI0.out | apply IsS39.alloc | apply IsS39.drewN | apply IsS39.drew | apply IsS39.set_0 | apply IsS39.set_1) | exact HI0.out)); (case side2 => repeat (first | (with_reducible first | exact HB.out | apply below_alloc | apply pw_below_drewN | apply below_drew1 | refine below_set ?_ (IsS39.ge HI0.out)) | exact HB.out)); rintro e w8 ⟨rfl, hi, hb, hk⟩; refine ⟨_, rfl, ?_⟩; have n0_ := Aside0.mk (KeepBut.trans (by repeat (first | (with_reducible first | exact HK.out | apply KeepBut.set_ | apply keep_drewN | apply keep_drew | apply keep_alloc) | exact HK.out)) hk (.inl rfl)); have n1_ := Aside0.mk (hb); have n2_ := Aside0.mk (hi); clear HK; clear HB; clear HI0; have HK := n0_; have HB := n1_; have HI0 := n2_; clear n0_ n1_ n2_; (try clear hb); (try clear hb2); (try clear hk); (try clear hi)))
    go_ret
    exact ⟨by first | rfl | (simp [errW_none, errW_some] <;> rfl) | (simp [*, errW_none, errW_some] <;> rfl), by repeat (first | (with_reducible first | exact HI0.out | apply IsS39.alloc | apply IsS39.drewN | apply IsS39.drew | apply IsS39.set_0 | apply IsS39.set_1) | exact HI0.out), by repeat (first | (with_reducible first | exact HB.out | apply below_alloc | apply pw_below_drewN | apply below_drew1 | refine below_set ?_ (IsS39.ge HI0.out)) | exact HB.out), by repeat (first | (with_reducible first | exact HK.out | apply KeepBut.set_ | apply keep_drewN | apply keep_drew | apply keep_alloc) | exact HK.out)⟩
  · replace c4 := Bool.eq_false_iff.mpr c4
    subst c4
    have H1 : (if a1 < 1 then ((firkinref01_S_Fail.f t115 false).bind fun bt119 => (some (0, bt119.1, bt119.2))) else (if t114 ≥ (IntKind.u64.wrap (a1)) then ((firkinref01_S_Fail.f t115 false).bind fun bt121 => (some (0, bt121.1, bt121.2))) else (some (wrap64 (t114), t115, false)))) = some (r1, r2, r3) := by rw [if_neg (show ¬ (false = true) by decide)] at H; exact H
    clear H
    have H := H1
    clear H1
    by_cases c9 : a1 < 1
    · rw [if_pos c9] at H
      have c9b0 : decide (a1 < 1) = true := decide_eq_true c9
      clear c9
      replace H := Option.bind_eq_some_iff.mp H
      obtain ⟨⟨t119, t120⟩, A100, H⟩ := H
      replace H : (some (0, t119, t120)) = some (r1, r2, r3) := H
      have A10 := Aside0.mk A100
      clear A100
      simp only [Option.some.injEq, Prod.mk.injEq] at H
      obtain ⟨rfl, rfl, rfl⟩ := H
      go_enter Try.func60, Try.ntmps60
      go_wp2_with (first | ((with_reducible refine gate_callee (f := 79) rfl ?_); refine goesL_ (some 7) rfl rfl Try.func79 (by kernel_rfl) rfl #[.pointer (some ⟨g, 0, none⟩)] rfl (by (try simp only [List.map_toArray, List.map_cons, List.map_nil]); first | done | rfl | (simp only [List.length_drop, List.length_take]; rfl)) ?_; (with_reducible refine (firkinref01_S_Num.calls g s0_0 s0_1 t114 t115 false w0 _ ?side1 ?side2 A3.out).mono ?_); (case side1 => repeat (first | (with_reducible first | exact HI0.out | apply IsS39.alloc | apply IsS39.drewN | apply IsS39.drew | apply IsS39.set_0 | apply IsS39.set_1) | exact HI0.out)); (case side2 => repeat (first | (with_reducible first | exact HB.out | apply below_alloc | apply pw_below_drewN | apply below_drew1 | refine below_set ?_ (IsS39.ge HI0.out)) | exact HB.out)); rintro e w11 ⟨rfl, hi, hb, hk⟩; refine ⟨_, rfl, ?_⟩; have n0_ := Aside0.mk (KeepBut.trans (by repeat (first | (with_reducible first | exact HK.out | apply KeepBut.set_ | apply keep_drewN | apply keep_drew | apply keep_alloc) | exact HK.out)) hk (.inl rfl)); have n1_ := Aside0.mk (hb); have n2_ := Aside0.mk (hi); clear HK; clear HB; clear HI0; have HK := n0_; have HB := n1_; have HI0 := n2_; clear n0_ n1_ n2_; (try clear hb); (try clear hb2); (try clear hk); (try clear hi); obtain ⟨ASz12_0, cSz12_0, HGz12, hgz12, ⟨HSz12_0, _⟩⟩ := HI0.out; have hcz12_0 := cellS39_0 HGz12; have hcz12_1 := cellS39_1 HGz12; have hfz12_0 := blk_frozen HGz12 0; have hfz12_1 := blk_frozen HGz12 1; clear HGz12 hgz12) | ((with_reducible refine gate_callee (f := 62) rfl ?_); refine goesL_ (some 23) rfl rfl Try.func62 (by kernel_rfl) rfl #[.pointer (some ⟨g, 0, none⟩)] rfl (by (try simp only [List.map_toArray, List.map_cons, List.map_nil]); first | done | rfl | (simp only [List.length_drop, List.length_take]; rfl)) ?_; (with_reducible refine (firkinref01_S_Fail.calls g t115 false t119 t120 w0 _ ?side1 ?side2 A10.out).mono ?_); (case side1 => repeat (first | (with_reducible first | exact HI0.out | apply IsS39.alloc | apply IsS39.drewN | apply IsS39.drew | apply IsS39.set_0 | apply IsS39.set_1) | exact HI0.out)); (case side2 => repeat (first | (with_reducible first | exact HB.out | apply below_alloc | apply pw_below_drewN | apply below_drew1 | refine below_set ?_ (IsS39.ge HI0.out)) | exact HB.out)); rintro e w13 ⟨rfl, hi, hb, hk⟩; refine ⟨_, rfl, ?_⟩; have n0_ := Aside0.mk (KeepBut.trans (by repeat (first | (with_reducible first | exact HK.out | apply KeepBut.set_ | apply keep_drewN | apply keep_drew | apply keep_alloc) | exact HK.out)) hk (.inl rfl)); have n1_ := Aside0.mk (hb); have n2_ := Aside0.mk (hi); clear HK; clear HB; clear HI0; have HK := n0_; have HB := n1_; have HI0 := n2_; clear n0_ n1_ n2_; (try clear hb); (try clear hb2); (try clear hk); (try clear hi)))
      go_ret
      exact ⟨by first | rfl | (simp [errW_none, errW_some] <;> rfl) | (simp [*, errW_none, errW_some] <;> rfl), by repeat (first | (with_reducible first | exact HI0.out | apply IsS39.alloc | apply IsS39.drewN | apply IsS39.drew | apply IsS39.set_0 | apply IsS39.set_1) | exact HI0.out), by repeat (first | (with_reducible first | exact HB.out | apply below_alloc | apply pw_below_drewN | apply below_drew1 | refine below_set ?_ (IsS39.ge HI0.out)) | exact HB.out), by repeat (first | (with_reducible first | exact HK.out | apply KeepBut.set_ | apply keep_drewN | apply keep_drew | apply keep_alloc) | exact HK.out)⟩
    · rw [if_neg c9] at H
      have c9b0 : decide (a1 < 1) = false := decide_eq_false c9
      clear c9
      by_cases c14 : t114 ≥ (IntKind.u64.wrap (a1))
      · rw [if_pos c14] at H
        have c14b0 : decide ((IntKind.u64.wrap (a1)) ≤ t114) = true := decide_eq_true c14
        clear c14
        replace H := Option.bind_eq_some_iff.mp H
        obtain ⟨⟨t121, t122⟩, A150, H⟩ := H
        replace H : (some (0, t121, t122)) = some (r1, r2, r3) := H
        have A15 := Aside0.mk A150
        clear A150
        simp only [Option.some.injEq, Prod.mk.injEq] at H
        obtain ⟨rfl, rfl, rfl⟩ := H
        go_enter Try.func60, Try.ntmps60
        go_wp2_with (first | ((with_reducible refine gate_callee (f := 79) rfl ?_); refine goesL_ (some 7) rfl rfl Try.func79 (by kernel_rfl) rfl #[.pointer (some ⟨g, 0, none⟩)] rfl (by (try simp only [List.map_toArray, List.map_cons, List.map_nil]); first | done | rfl | (simp only [List.length_drop, List.length_take]; rfl)) ?_; (with_reducible refine (firkinref01_S_Num.calls g s0_0 s0_1 t114 t115 false w0 _ ?side1 ?side2 A3.out).mono ?_); (case side1 => repeat (first | (with_reducible first | exact HI0.out | apply IsS39.alloc | apply IsS39.drewN | apply IsS39.drew | apply IsS39.set_0 | apply IsS39.set_1) | exact HI0.out)); (case side2 => repeat (first | (with_reducible first | exact HB.out | apply below_alloc | apply pw_below_drewN | apply below_drew1 | refine below_set ?_ (IsS39.ge HI0.out)) | exact HB.out)); rintro e w16 ⟨rfl, hi, hb, hk⟩; refine ⟨_, rfl, ?_⟩; have n0_ := Aside0.mk (KeepBut.trans (by repeat (first | (with_reducible first | exact HK.out | apply KeepBut.set_ | apply keep_drewN | apply keep_drew | apply keep_alloc) | exact HK.out)) hk (.inl rfl)); have n1_ := Aside0.mk (hb); have n2_ := Aside0.mk (hi); clear HK; clear HB; clear HI0; have HK := n0_; have HB := n1_; have HI0 := n2_; clear n0_ n1_ n2_; (try clear hb); (try clear hb2); (try clear hk); (try clear hi); obtain ⟨ASz17_0, cSz17_0, HGz17, hgz17, ⟨HSz17_0, _⟩⟩ := HI0.out; have hcz17_0 := cellS39_0 HGz17; have hcz17_1 := cellS39_1 HGz17; have hfz17_0 := blk_frozen HGz17 0; have hfz17_1 := blk_frozen HGz17 1; clear HGz17 hgz17) | ((with_reducible refine gate_callee (f := 62) rfl ?_); refine goesL_ (some 23) rfl rfl Try.func62 (by kernel_rfl) rfl #[.pointer (some ⟨g, 0, none⟩)] rfl (by (try simp only [List.map_toArray, List.map_cons, List.map_nil]); first | done | rfl | (simp only [List.length_drop, List.length_take]; rfl)) ?_; (with_reducible refine (firkinref01_S_Fail.calls g t115 false t121 t122 w0 _ ?side1 ?side2 A15.out).mono ?_); (case side1 => repeat (first | (with_reducible first | exact HI0.out | apply IsS39.alloc | apply IsS39.drewN | apply IsS39.drew | apply IsS39.set_0 | apply IsS39.set_1) | exact HI0.out)); (case side2 => repeat (first | (with_reducible first | exact HB.out | apply below_alloc | apply pw_below_drewN | apply below_drew1 | refine below_set ?_ (IsS39.ge HI0.out)) | exact HB.out)); rintro e w18 ⟨rfl, hi, hb, hk⟩; refine ⟨_, rfl, ?_⟩; have n0_ := Aside0.mk (KeepBut.trans (by repeat (first | (with_reducible first | exact HK.out | apply KeepBut.set_ | apply keep_drewN | apply keep_drew | apply keep_alloc) | exact HK.out)) hk (.inl rfl)); have n1_ := Aside0.mk (hb); have n2_ := Aside0.mk (hi); clear HK; clear HB; clear HI0; have HK := n0_; have HB := n1_; have HI0 := n2_; clear n0_ n1_ n2_; (try clear hb); (try clear hb2); (try clear hk); (try clear hi)))
        go_ret
        exact ⟨by first | rfl | (simp [errW_none, errW_some] <;> rfl) | (simp [*, errW_none, errW_some] <;> rfl), by repeat (first | (with_reducible first | exact HI0.out | apply IsS39.alloc | apply IsS39.drewN | apply IsS39.drew | apply IsS39.set_0 | apply IsS39.set_1) | exact HI0.out), by repeat (first | (with_reducible first | exact HB.out | apply below_alloc | apply pw_below_drewN | apply below_drew1 | refine below_set ?_ (IsS39.ge HI0.out)) | exact HB.out), by repeat (first | (with_reducible first | exact HK.out | apply KeepBut.set_ | apply keep_drewN | apply keep_drew | apply keep_alloc) | exact HK.out)⟩
      · rw [if_neg c14] at H
        have c14b0 : decide ((IntKind.u64.wrap (a1)) ≤ t114) = false := decide_eq_false c14
        clear c14
        simp only [Option.some.injEq, Prod.mk.injEq] at H
        obtain ⟨rfl, rfl, rfl⟩ := H
        go_enter Try.func60, Try.ntmps60
        go_wp2_with (first | ((with_reducible refine gate_callee (f := 79) rfl ?_); refine goesL_ (some 7) rfl rfl Try.func79 (by kernel_rfl) rfl #[.pointer (some ⟨g, 0, none⟩)] rfl (by (try simp only [List.map_toArray, List.map_cons, List.map_nil]); first | done | rfl | (simp only [List.length_drop, List.length_take]; rfl)) ?_; (with_reducible refine (firkinref01_S_Num.calls g s0_0 s0_1 t114 t115 false w0 _ ?side1 ?side2 A3.out).mono ?_); (case side1 => repeat (first | (with_reducible first | exact HI0.out | apply IsS39.alloc | apply IsS39.drewN | apply IsS39.drew | apply IsS39.set_0 | apply IsS39.set_1) | exact HI0.out)); (case side2 => repeat (first | (with_reducible first | exact HB.out | apply below_alloc | apply pw_below_drewN | apply below_drew1 | refine below_set ?_ (IsS39.ge HI0.out)) | exact HB.out)); rintro e w19 ⟨rfl, hi, hb, hk⟩; refine ⟨_, rfl, ?_⟩; have n0_ := Aside0.mk (KeepBut.trans (by repeat (first | (with_reducible first | exact HK.out | apply KeepBut.set_ | apply keep_drewN | apply keep_drew | apply keep_alloc) | exact HK.out)) hk (.inl rfl)); have n1_ := Aside0.mk (hb); have n2_ := Aside0.mk (hi); clear HK; clear HB; clear HI0; have HK := n0_; have HB := n1_; have HI0 := n2_; clear n0_ n1_ n2_; (try clear hb); (try clear hb2); (try clear hk); (try clear hi); obtain ⟨ASz20_0, cSz20_0, HGz20, hgz20, ⟨HSz20_0, _⟩⟩ := HI0.out; have hcz20_0 := cellS39_0 HGz20; have hcz20_1 := cellS39_1 HGz20; have hfz20_0 := blk_frozen HGz20 0; have hfz20_1 := blk_frozen HGz20 1; clear HGz20 hgz20))
        go_ret
        exact ⟨by first | rfl | (simp [errW_none, errW_some] <;> rfl) | (simp [*, errW_none, errW_some] <;> rfl), by repeat (first | (with_reducible first | exact HI0.out | apply IsS39.alloc | apply IsS39.drewN | apply IsS39.drew | apply IsS39.set_0 | apply IsS39.set_1) | exact HI0.out), by repeat (first | (with_reducible first | exact HB.out | apply below_alloc | apply pw_below_drewN | apply below_drew1 | refine below_set ?_ (IsS39.ge HI0.out)) | exact HB.out), by repeat (first | (with_reducible first | exact HK.out | apply KeepBut.set_ | apply keep_drewN | apply keep_drew | apply keep_alloc) | exact HK.out)⟩

end Go.Proofs.Ytbbffnlefmogbaa.X
/- What is read of a source, plain law: numbers, numbers below another one: the code's source and the document's read the same. -/
namespace Go.Proofs.Ytbbffnlefmogbaa.Read
open Go Go.RowKit Go.Proofs.Ytbbffnlefmogbaa.X Go.Proofs.Ytbbffnlefmogbaa.Dec Go.Proofs.Ytbbffnlefmogbaa.Enc Go.Proofs.Ytbbffnlefmogbaa.Round Go.Proofs.YtbbffnlefmogbaaW.PrintWords Go.Proofs.YtbbffnlefmogbaaW.PrintLast Go.Proofs.YtbbffnlefmogbaaW.PrintMore
set_option linter.unusedVariables false
/-- A source as it can be: of one that failed nothing is left. -/
def GoodS (l : List Int) (bad : Bool) : Prop := Fit l ∧ (bad = true → l = [])
theorem GoodS.nil (b : Bool) : GoodS [] b := ⟨Fit.nil, fun _ => rfl⟩
theorem GoodS.of {l : List Int} (h : Fit l) : GoodS l false := ⟨h, fun h => by cases h⟩
theorem GoodS.drop {l : List Int} {b : Bool} (h : GoodS l b) (k : Nat) : GoodS (l.drop k) b := ⟨h.1.drop k, fun e => by rw [h.2 e]; exact List.drop_nil⟩
def gNum (l : List Int) (bad : Bool) : Int × List Int × Bool :=
  if bad = true ∨ szS 0 l = 0 then (0, [], true) else (((valS 0 (l.take (szS 0 l)) : Nat) : Int), l.drop (szS 0 l), false)
theorem gNum_good {l : List Int} {b : Bool} (h : GoodS l b) : GoodS (gNum l b).2.1 (gNum l b).2.2 := by
  unfold gNum; split
  · exact GoodS.nil _
  · exact GoodS.of (h.1.drop _)
theorem gNum_len (l : List Int) (b : Bool) : (gNum l b).2.1.length ≤ l.length := by
  unfold gNum; split <;> simp
theorem gNum_range {l : List Int} {b : Bool} (h : GoodS l b) : 0 ≤ (gNum l b).1 ∧ (gNum l b).1 < 18446744073709551616 := by
  unfold gNum; split
  · simp
  · have := val_lt h.1.1 (Nat.le_refl (szS 0 l))
    show 0 ≤ ((_ : Nat) : Int) ∧ ((_ : Nat) : Int) < _
    omega
theorem num_g {l : List Int} {b : Bool} (h : GoodS l b) : vint_Source_Num.f l b = some (gNum l b) := by
  unfold vint_Source_Num.f numS gNum
  rw [if_pos h.1]
  cases b with
  | true => rw [if_pos rfl, if_pos (.inl rfl), h.2 rfl]
  | false =>
    rw [if_neg (by decide)]
    by_cases hz : szS 0 l = 0
    · rw [if_pos hz, if_pos (.inr hz)]
    · rw [if_neg hz, if_neg (by simp [hz])]
theorem rnum_g {l : List Int} {b : Bool} (h : GoodS l b) : firkinref01_S_Num.f l b = some (gNum l b) := by
  unfold firkinref01_S_Num.f rnumS gNum
  rw [if_pos h.1]
  cases b with
  | true => obtain rfl := h.2 rfl; rfl
  | false =>
    by_cases hz : szS 0 l = 0
    · rw [if_pos hz, if_pos (.inr hz)]
    · rw [if_neg hz, if_neg (by simp [hz])]
def gBelow (l : List Int) (bad : Bool) (n : Int) : Int × List Int × Bool :=
  if (gNum l bad).2.2 = true ∨ n ≤ 0 ∨ n ≤ (gNum l bad).1 then (0, [], true) else gNum l bad
theorem gBelow_good {l : List Int} {b : Bool} (h : GoodS l b) (n : Int) : GoodS (gBelow l b n).2.1 (gBelow l b n).2.2 := by
  unfold gBelow; split
  · exact GoodS.nil _
  · exact gNum_good h
theorem gBelow_len (l : List Int) (b : Bool) (n : Int) : (gBelow l b n).2.1.length ≤ l.length := by
  unfold gBelow; split
  · simp
  · exact gNum_len l b
theorem gBelow_range {l : List Int} {b : Bool} (h : GoodS l b) (n : Int) : 0 ≤ (gBelow l b n).1 ∧ ((gBelow l b n).1 < n ∨ (gBelow l b n).1 = 0) := by
  unfold gBelow; split
  · simp
  · have := gNum_range h; omega
theorem wrap_u64_of {n : Int} (h0 : 0 ≤ n) (h1 : n < 18446744073709551616) : IntKind.u64.wrap n = n := by rw [IntKind.wrap_u64]; omega
theorem below_g {l : List Int} {b : Bool} (h : GoodS l b) (n : Int) (hn : n < 9223372036854775808) : vint_Source_Below.f l b n = some (gBelow l b n) := by
  unfold vint_Source_Below.f vint_Source_Ok.f vint_Source_Fail.f
  rw [num_g h, Option.bind_some]
  obtain ⟨h0, h1⟩ := gNum_range h
  unfold gBelow
  generalize gNum l b = g at h0 h1 ⊢
  obtain ⟨x, l', b'⟩ := g
  simp only [Option.bind_some] at h0 h1 ⊢
  cases b' with
  | true => simp
  | false =>
    by_cases hn0 : n > 0
    · rw [wrap_u64_of (by omega) (by omega)]
      by_cases hx : x < n
      · have hw : wrap64 x = x := w64 (by omega) (by omega)
        have : ¬ n ≤ 0 := by omega
        simp [hn0, hx, hw, this]
      · have : n ≤ x := by omega
        simp [hn0, hx, this]
    · have : n ≤ 0 := by omega
      simp [hn0, this]
theorem rbelow_g {l : List Int} {b : Bool} (h : GoodS l b) (n : Int) (hn : n < 9223372036854775808) : firkinref01_S_Below.f l b n = some (gBelow l b n) := by
  unfold firkinref01_S_Below.f firkinref01_S_Fail.f
  rw [rnum_g h, Option.bind_some]
  obtain ⟨h0, h1⟩ := gNum_range h
  unfold gBelow
  generalize gNum l b = g at h0 h1 ⊢
  obtain ⟨x, l', b'⟩ := g
  simp only [Option.bind_some] at h0 h1 ⊢
  cases b' with
  | true => simp
  | false =>
    by_cases hn0 : n < 1
    · have : n ≤ 0 := by omega
      simp [hn0, this]
    · have hn2 : ¬ n ≤ 0 := by omega
      rw [wrap_u64_of (by omega) (by omega)]
      by_cases hx : x ≥ n
      · have : n ≤ x := by omega
        simp [hn0, hn2, this]
      · have hw : wrap64 x = x := w64 (by omega) (by omega)
        have : ¬ n ≤ x := by omega
        simp [hn0, hn2, hw, this]
end Go.Proofs.Ytbbffnlefmogbaa.Read
/- Signed numbers that are read, plain law. -/
namespace Go.Proofs.Ytbbffnlefmogbaa.Read
open Go Go.RowKit Go.Proofs.Ytbbffnlefmogbaa.X Go.Proofs.Ytbbffnlefmogbaa.Dec Go.Proofs.Ytbbffnlefmogbaa.Enc Go.Proofs.Ytbbffnlefmogbaa.Round Go.Proofs.YtbbffnlefmogbaaW.PrintWords Go.Proofs.YtbbffnlefmogbaaW.PrintLast Go.Proofs.YtbbffnlefmogbaaW.PrintMore
set_option linter.unusedVariables false
def gInt (l : List Int) (bad : Bool) : Int × List Int × Bool := (zag (gNum l bad).1.toNat, (gNum l bad).2.1, (gNum l bad).2.2)
theorem int_g {l : List Int} {b : Bool} (h : GoodS l b) : vint_Source_Int.f l b = some (gInt l b) := by
  unfold vint_Source_Int.f
  rw [num_g h, Option.bind_some]
  obtain ⟨h0, h1⟩ := gNum_range h
  have e := int_val (gNum l b).1.toNat (by omega)
  rw [Int.toNat_of_nonneg h0] at e
  rw [e]
  rfl
theorem rint_val (n : Int) (h0 : 0 ≤ n) (h1 : n < 18446744073709551616) :
    (if Int.tmod n 2 = 1 then wrap64 ((wrap64 (-(wrap64 (IntKind.u64.wrap (Int.tdiv n 2))))) - 1) else wrap64 (IntKind.u64.wrap (Int.tdiv n 2))) = zag n.toNat := by
  rw [Int.tmod_eq_emod_of_nonneg h0, Int.tdiv_eq_ediv_of_nonneg h0, IntKind.wrap_u64]
  unfold zag wrap64
  split <;> split <;> omega
theorem rint_g {l : List Int} {b : Bool} (h : GoodS l b) : firkinref01_S_Int.f l b = some (gInt l b) := by
  unfold firkinref01_S_Int.f
  rw [rnum_g h, Option.bind_some]
  obtain ⟨h0, h1⟩ := gNum_range h
  have e := rint_val _ h0 h1
  unfold gInt
  rw [← e]
  by_cases hc : Int.tmod (gNum l b).1 2 = 1
  · rw [if_pos hc, if_pos hc]
  · rw [if_neg hc, if_neg hc]
end Go.Proofs.Ytbbffnlefmogbaa.Read
/- The contract of (*firkinref01.S).Take: the first bytes, in memory of their own; or it failed. -/
namespace Go.Proofs.Ytbbffnlefmogbaa.X
open Go.RowKit Go.Proofs.YtbbffnlefmogbaaW.PrintWords Go.Proofs.YtbbffnlefmogbaaW.PrintLast Go.Proofs.YtbbffnlefmogbaaW.PrintMore
set_option linter.unusedVariables false
set_option linter.unusedSimpArgs false
def rtakeS (l : List Int) (bad : Bool) (n : Int) : List Int × List Int × Bool :=
  if bad = true ∨ n < 0 ∨ (l.length : Int) < n then ([], [], true) else (l.take n.toNat, l.drop n.toNat, false)
def firkinref01_S_Take.f (l : List Int) (bad : Bool) (n : Int) : Option (List Int × List Int × Bool) := if l.length < 1000000000000 then some (rtakeS l bad n) else none
set_option maxHeartbeats 8000000 in
set_option maxRecDepth 100000 in
theorem firkinref01_S_Take.calls (g : Nat) (s0_0 : List Int) (s0_1 : Bool) (a1 : Int) (r1 : List Int) (r2 : List Int) (r3 : Bool) (w0 w : World) (hI : IsS39 w0 w g s0_0 s0_1) (hB : Below w0.heap.size w0 w) (h : firkinref01_S_Take.f s0_0 s0_1 a1 = some (r1, r2, r3)) :
    Calls Try.prog 53 #[.pointer (some ⟨g, 0, none⟩), .int .i64 a1] w fun e w' => ∃ v0_ : Value, e = .returned v0_ ∧ Kd.R (Kd.int .u8) 5 w' w.heap.size (fun _ => True) v0_ r1 ∧ IsS39 w0 w' g r2 r3 ∧ Below w0.heap.size w0 w' ∧ KeepBut w w' g none := by
  unfold firkinref01_S_Take.f at h
  by_cases hf : s0_0.length < 1000000000000
  case neg => rw [if_neg hf] at h; cases h
  rw [if_pos hf] at h
  have h := Option.some.inj h
  unfold rtakeS at h
  have HF := Aside0.mk hf
  have HI := Aside0.mk hI
  obtain ⟨A1, c1, hb1, hg1, hr1, hc1⟩ := hI
  have h0 : w.cell? ⟨g, 0, none⟩ = some (.slice A1 s0_0.length c1) := (blk_cell hb1 0).trans rfl
  have h1 : w.cell? ⟨g, 1, none⟩ = some (.bool s0_1) := (blk_cell hb1 1).trans rfl
  have HB1 := Aside0.mk hb1
  clear hf hb1
  have hu := Try.underlying39
  by_cases ht : s0_1 = true ∨ a1 < 0 ∨ (s0_0.length : Int) < a1
  · rw [if_pos ht] at h
    simp only [Prod.mk.injEq] at h
    obtain ⟨rfl, rfl, rfl⟩ := h
    obtain ⟨bn, hbn⟩ : ∃ b_ : Bool, decide (a1 < 0) = b_ := ⟨_, rfl⟩
    obtain ⟨bl, hbl⟩ : ∃ b_ : Bool, decide ((s0_0.length : Int) < a1) = b_ := ⟨_, rfl⟩
    have hx : (s0_1 || bn || bl) = true := by rw [← hbn, ← hbl]; simp only [Bool.or_eq_true, decide_eq_true_eq]; exact (or_assoc).mpr ht
    clear ht
    cases s0_1 <;> cases bn <;> cases bl <;> first
      | (exact absurd hx (by decide))
      | (clear hx
         go_enter Try.func53, Try.ntmps53
         go_wp2_with fail
         refine (firkinref01_S_Fail.calls g s0_0 _ [] true w0 _ HI.out hB rfl).mono ?_
         rintro e w2 ⟨rfl, hI2, hB2, hK2⟩
         go_wp2_with fail
         go_ret
         exact ⟨_, rfl, Kd.R_nil _ _ _ _ _, hI2, hB2, hK2⟩)
  · rw [if_neg ht] at h
    simp only [Prod.mk.injEq] at h
    obtain ⟨rfl, rfl, rfl⟩ := h
    have hbad : s0_1 = false := by cases s0_1 <;> simp_all
    subst hbad
    obtain ⟨m, rfl⟩ : ∃ m : Nat, a1 = (m : Int) := ⟨a1.toNat, by omega⟩
    rw [Int.toNat_natCast]
    have hm : m ≤ s0_0.length := by omega
    have hbn : decide ((m : Int) < 0) = false := decide_eq_false (by omega)
    have hbl : decide ((s0_0.length : Int) < (m : Int)) = false := decide_eq_false (by omega)
    have hbl2 : decide (s0_0.length < m) = false := decide_eq_false (by omega)
    have hlm : (s0_0.take m).length = m := by rw [List.length_take]; omega
    have HCT : Aside0 (Kd.C (Kd.int .u8) w A1 m (s0_0.take m)) := ⟨by have := Kd.C_take (Kd.C_below hr1 hB) hm; rwa [hlm] at this⟩
    have HLM := Aside0.mk hlm
    clear ht hlm
    obtain ⟨i5, hi5, hsz5⟩ : ∃ i, Try.prog.info? 5 = some i ∧ i.size = (Kd.int .u8).sz := by
      obtain ⟨i, hi, hz⟩ := Option.map_eq_some_iff.1 info5
      simp only [Prod.mk.injEq] at hz
      exact ⟨i, hi, hz.2.1⟩
    obtain ⟨A', hcut, hCd, hld, hcd⟩ := Mem.cut_from' (P := Try.prog) (d := Kd.int .u8) 24 5 .i64 Try.underlying24 hi5 hsz5 (m := m) hr1 hm hc1
    have HD := Aside0.mk hCd
    have HLD := Aside0.mk hld
    clear hCd hld hi5
    go_enter Try.func53, Try.ntmps53
    go_wp2_with (first | ((with_reducible refine gate_dst (N := 25) rfl ?_); refine Kd.R_lit (Kd.int .u8) _ 5 ?hg (N := 25) ?hd (xs := ([] : List Int)) (inner := []) (ok := fun _ => True) (okp := fun _ => True) ?hr ?hp (fun _ hk => hk) trivial (Below.refl _ _) (Nat.le_refl _) (by simp) ?_; (case hd => rfl); (case hg => rfl); (case hr => first | (go_simp; done) | (go_simp; rfl)); (case hp => exact (Reps.none _ _)); intro v205 w2 ho3 hb hg_ hnew_; clear hg_ hnew_; have HO := Aside0.mk ho3; have HB := Aside0.mk hb; have h0b : w2.cell? ⟨g, 0, none⟩ = some (.slice A1 s0_0.length c1) := (blk_cell (blk_below HB1.out hb) 0).trans rfl; clear ho3 hb) | ((with_reducible refine gate_builtin (b := .append) (xs := #[.tmp 25, .tmp 31]) rfl ?_); at_builtin; refine Kd.R_append_rows (Kd.int .u8) (w0 := w) w.heap.size rfl (.tmp 25) (.tmp 31) 24 5 (.int .u8 0) 1 rfl Try.underlying24 info5 rfl (by decide) (by omega) v205 [] (s0_0.take m) _ _ _ (fun _ => True) (fun _ => False) rfl rfl HO.out (Kd.C_below HCT.out HB.out) (fun _ _ h => h) (fun _ h => h.elim) (fun _ _ => trivial) HB.out (below_size HB.out) (by have := HF.out; rw [List.length_nil]; omega) ?_; intro v4 w4 ho hb hg hat; have HO4 := Aside0.mk ho; have HB4 := Aside0.mk hb; have h0c : w4.cell? ⟨g, 0, none⟩ = some (.slice A1 s0_0.length c1) := (blk_cell (blk_below HB1.out hb) 0).trans rfl; have f0c := blk_frozen (blk_below HB1.out hb) 0; clear HO HB ho hb hg hat))
    go_ret
    have h2 := blk_set (blk_below HB1.out HB4.out) 0 (.slice A' (s0_0.length - m) (c1 - m))
    have HG : Aside0 (g < w.heap.size) := ⟨blk_lt HB1.out⟩
    refine ⟨_, rfl, ?_, ⟨A', c1 - m, ?_, hg1, ?_, ?_⟩, below_set (below_step hB HB4.out) hg1, KeepBut.set_ (KeepBut.of_below HB4.out g none) 0 _⟩
    · have h5 := Kd.R_far (p := ⟨g, 0, none⟩) (Kd.R_bound HO4.out) (fun k hk => by have := HG.out; have := hk.2.1; show k ≠ g; omega) (.slice A' (s0_0.length - m) (c1 - m))
      rw [List.nil_append] at h5
      exact Kd.R_mono h5 (fun _ _ => trivial)
    · rw [HLD.out]; simpa using h2
    · rw [HLD.out]; exact HD.out
    · rw [HLD.out]; exact hcd
end Go.Proofs.Ytbbffnlefmogbaa.X
/- What is read of a source, plain law: bytes; the code's source and the document's read the same. -/
namespace Go.Proofs.Ytbbffnlefmogbaa.Read
open Go Go.RowKit Go.Proofs.Ytbbffnlefmogbaa.X Go.Proofs.Ytbbffnlefmogbaa.Dec Go.Proofs.Ytbbffnlefmogbaa.Enc Go.Proofs.Ytbbffnlefmogbaa.Round Go.Proofs.YtbbffnlefmogbaaW.PrintWords Go.Proofs.YtbbffnlefmogbaaW.PrintLast Go.Proofs.YtbbffnlefmogbaaW.PrintMore
set_option linter.unusedVariables false
def gTake (l : List Int) (bad : Bool) (n : Int) : List Int × List Int × Bool :=
  if bad = true ∨ n < 0 ∨ (l.length : Int) < n then ([], [], true) else (l.take n.toNat, l.drop n.toNat, false)
theorem gTake_good {l : List Int} {b : Bool} (h : GoodS l b) (n : Int) : GoodS (gTake l b n).2.1 (gTake l b n).2.2 := by
  unfold gTake; split
  · exact GoodS.nil _
  · exact GoodS.of (h.1.drop _)
theorem gTake_len (l : List Int) (b : Bool) (n : Int) : (gTake l b n).2.1.length ≤ l.length := by unfold gTake; split <;> simp
theorem gTake_bytes {l : List Int} {b : Bool} (h : GoodS l b) (n : Int) : IsBytes (gTake l b n).1 := by
  unfold gTake; split
  · intro x hx; simp at hx
  · exact h.1.1.take _
theorem take_g {l : List Int} {b : Bool} (h : GoodS l b) (n : Int) : vint_Source_Take.f l b n = some (gTake l b n) := by
  unfold vint_Source_Take.f; rw [if_pos h.1.2]; rfl
theorem rtake_g {l : List Int} {b : Bool} (h : GoodS l b) (n : Int) : firkinref01_S_Take.f l b n = some (gTake l b n) := by
  unfold firkinref01_S_Take.f; rw [if_pos h.1.2]; rfl
end Go.Proofs.Ytbbffnlefmogbaa.Read
/- tight, plain law: Put and Get always answer; what they answer is of so many numbers, and is put again. -/
namespace Go.Proofs.Ytbbffnlefmogbaa.Tight
open Go Go.RowKit Go.Proofs.Ytbbffnlefmogbaa.X Go.Proofs.Ytbbffnlefmogbaa.Dec Go.Proofs.Ytbbffnlefmogbaa.Enc Go.Proofs.Ytbbffnlefmogbaa.Round Go.Proofs.Ytbbffnlefmogbaa.Read Go.Proofs.YtbbffnlefmogbaaW.PrintWords Go.Proofs.YtbbffnlefmogbaaW.PrintLast Go.Proofs.YtbbffnlefmogbaaW.PrintMore
set_option linter.unusedVariables false
set_option linter.unusedSimpArgs false
def I64 (x : Int) : Prop := -9223372036854775808 ≤ x ∧ x < 9223372036854775808
theorem min_loop (l : List Int) (hl : l.length ≤ 4096) : ∀ (d k i : Nat) (m : Int), i + d = l.length → d < k → slices_Min_int64_int64.l0 k l m (i : Int) = some ((l.drop i).foldl mn m) := by
  intro d
  induction d with
  | zero =>
    intro k i m h hk
    obtain ⟨k, rfl⟩ : ∃ q, k = q + 1 := ⟨k - 1, by omega⟩
    rw [slices_Min_int64_int64.l0, if_neg (by omega), List.drop_eq_nil_of_le (by omega)]; rfl
  | succ d ih =>
    intro k i m h hk
    obtain ⟨k, rfl⟩ : ∃ q, k = q + 1 := ⟨k - 1, by omega⟩
    have hi : i < l.length := by omega
    have e : rd l (i : Int) = l[i] := by unfold rd; simp [hi]
    rw [slices_Min_int64_int64.l0, if_pos (by omega), if_pos (by omega), e, show wrap64 ((i : Int) + 1) = ((i + 1 : Nat) : Int) by unfold wrap64; omega, ih k (i + 1) _ (by omega) (by omega), List.drop_eq_getElem_cons hi, List.foldl_cons]
theorem max_loop (l : List Int) (hl : l.length ≤ 4096) : ∀ (d k i : Nat) (m : Int), i + d = l.length → d < k → slices_Max_int64_int64.l0 k l m (i : Int) = some ((l.drop i).foldl mx m) := by
  intro d
  induction d with
  | zero =>
    intro k i m h hk
    obtain ⟨k, rfl⟩ : ∃ q, k = q + 1 := ⟨k - 1, by omega⟩
    rw [slices_Max_int64_int64.l0, if_neg (by omega), List.drop_eq_nil_of_le (by omega)]; rfl
  | succ d ih =>
    intro k i m h hk
    obtain ⟨k, rfl⟩ : ∃ q, k = q + 1 := ⟨k - 1, by omega⟩
    have hi : i < l.length := by omega
    have e : rd l (i : Int) = l[i] := by unfold rd; simp [hi]
    rw [slices_Max_int64_int64.l0, if_pos (by omega), if_pos (by omega), e, show wrap64 ((i : Int) + 1) = ((i + 1 : Nat) : Int) by unfold wrap64; omega, ih k (i + 1) _ (by omega) (by omega), List.drop_eq_getElem_cons hi, List.foldl_cons]
def lowOf (l : List Int) : Int := (l.drop 1).foldl mn (rd l 0)
def highOf (l : List Int) : Int := (l.drop 1).foldl mx (rd l 0)
theorem min_is (l : List Int) (hl : l.length ≤ 4096) (h0 : l ≠ []) (k : Nat) (hk : 4096 < k) : slices_Min_int64_int64.f k l = some (lowOf l) := by
  have hp := List.length_pos_iff.mpr h0
  unfold slices_Min_int64_int64.f
  rw [if_neg (by omega), if_pos (by omega)]
  exact min_loop l hl (l.length - 1) k 1 _ (by omega) (by omega)
theorem max_is (l : List Int) (hl : l.length ≤ 4096) (h0 : l ≠ []) (k : Nat) (hk : 4096 < k) : slices_Max_int64_int64.f k l = some (highOf l) := by
  have hp := List.length_pos_iff.mpr h0
  unfold slices_Max_int64_int64.f
  rw [if_neg (by omega), if_pos (by omega)]
  exact max_loop l hl (l.length - 1) k 1 _ (by omega) (by omega)
theorem fold_mn : ∀ (l : List Int) (m : Int), I64 m → (∀ x ∈ l, I64 x) → I64 (l.foldl mn m) ∧ l.foldl mn m ≤ m ∧ ∀ x ∈ l, l.foldl mn m ≤ x
  | [], m, h, _ => ⟨h, Int.le_refl _, fun _ h => by cases h⟩
  | x :: l, m, h, hl => by
    rw [List.foldl_cons]
    have hx := hl x List.mem_cons_self
    have hm : I64 (mn m x) ∧ mn m x ≤ m ∧ mn m x ≤ x := by unfold mn; split <;> (refine ⟨?_, ?_, ?_⟩ <;> first | assumption | omega)
    obtain ⟨h1, h2, h3⟩ := fold_mn l (mn m x) hm.1 (fun y hy => hl y (List.mem_cons_of_mem _ hy))
    refine ⟨h1, by omega, ?_⟩
    intro y hy
    rcases List.mem_cons.mp hy with rfl | hy
    · omega
    · exact h3 y hy
theorem fold_mx : ∀ (l : List Int) (m : Int), I64 m → (∀ x ∈ l, I64 x) → I64 (l.foldl mx m) ∧ m ≤ l.foldl mx m ∧ ∀ x ∈ l, x ≤ l.foldl mx m
  | [], m, h, _ => ⟨h, Int.le_refl _, fun _ h => by cases h⟩
  | x :: l, m, h, hl => by
    rw [List.foldl_cons]
    have hx := hl x List.mem_cons_self
    have hm : I64 (mx m x) ∧ m ≤ mx m x ∧ x ≤ mx m x := by unfold mx; split <;> (refine ⟨?_, ?_, ?_⟩ <;> first | assumption | omega)
    obtain ⟨h1, h2, h3⟩ := fold_mx l (mx m x) hm.1 (fun y hy => hl y (List.mem_cons_of_mem _ hy))
    refine ⟨h1, by omega, ?_⟩
    intro y hy
    rcases List.mem_cons.mp hy with rfl | hy
    · omega
    · exact h3 y hy
theorem low_high (l : List Int) (h0 : l ≠ []) (hl : ∀ x ∈ l, I64 x) : I64 (lowOf l) ∧ I64 (highOf l) ∧ ∀ x ∈ l, lowOf l ≤ x ∧ x ≤ highOf l := by
  obtain ⟨a, t, rfl⟩ : ∃ a t, l = a :: t := by cases l with | nil => exact absurd rfl h0 | cons a t => exact ⟨a, t, rfl⟩
  have ea : rd (a :: t) 0 = a := rfl
  have ha := hl a List.mem_cons_self
  have ht : ∀ x ∈ t, I64 x := fun x hx => hl x (List.mem_cons_of_mem _ hx)
  obtain ⟨p1, p2, p3⟩ := fold_mn t a ha ht
  obtain ⟨q1, q2, q3⟩ := fold_mx t a ha ht
  unfold lowOf highOf
  rw [ea, List.drop_one, List.tail_cons]
  refine ⟨p1, q1, ?_⟩
  intro x hx
  rcases List.mem_cons.mp hx with rfl | hx
  · exact ⟨p2, q2⟩
  · exact ⟨p3 x hx, q3 x hx⟩
theorem bitLenAux_le : ∀ f x, Lib.bitLenAux f x ≤ f
  | 0, _ => Nat.le_refl _
  | f + 1, x => by rw [Lib.bitLenAux]; split; omega; have := bitLenAux_le f (x / 2); omega
theorem above_range (x low : Int) : 0 ≤ above x low ∧ above x low < 18446744073709551616 := by unfold above; rw [IntKind.wrap_u64]; omega
/-- How wide the numbers are. -/
def wideOf (l : List Int) : Nat := Lib.bitLen (above (highOf l) (lowOf l)).toNat
theorem wide_le (l : List Int) : wideOf l ≤ 64 := bitLenAux_le 64 _
theorem putGo_len (lo : Int) (n : Nat) : ∀ (l b : List Int) (a : Nat), b.length = (a + 7) / 8 → (putGo lo n l b a).length = (a + l.length * n + 7) / 8
  | [], b, a, h => by rw [putGo, h]; simp
  | x :: l, b, a, h => by rw [putGo, putGo_len lo n l _ _ (bitsGo_len _ _ _ _ _ h), List.length_cons, Nat.succ_mul, show a + n + l.length * n = a + (l.length * n + n) by omega]
theorem enc_le (n : Nat) (h : n < 18446744073709551616) : (enc n).length ≤ 10 := by
  have : (enc n).length = grp n := encL_length _ _
  rw [this]; exact grp_le h
def putL (l : List Int) : List Int := if l = [] then [] else enc (zig (lowOf l)) ++ ((wideOf l : Nat) : Int) :: putGo (lowOf l) (wideOf l) l [] 0
theorem put_is (l : List Int) (hl : l.length ≤ 4096) (hz : ∀ x ∈ l, I64 x) (k : Nat) (hk : 4096 < k) : tight_Put.f k l = some (putL l) := by
  unfold tight_Put.f putL
  by_cases h0 : l = []
  · rw [if_pos h0, if_pos h0]
  · obtain ⟨h1, h2, h3⟩ := low_high l h0 hz
    have ha := above_range (highOf l) (lowOf l)
    have hw := wide_le l
    have hlen := putGo_len (lowOf l) (wideOf l) l [] 0 rfl
    have hm : l.length * wideOf l ≤ 4096 * 64 := Nat.mul_le_mul hl hw
    have he := enc_le (zig (lowOf l)) (zig_lt h1.1 h1.2)
    rw [if_neg h0, if_neg h0, min_is l hl h0 k hk, Option.bind_some, max_is l hl h0 k hk, Option.bind_some]
    unfold bits_Len64.f
    rw [if_pos (by omega), Option.bind_some, int_is _ h1.1 h1.2 k (by omega), Option.bind_some]
    show (if l.length < 1000000 ∧ 0 ≤ ((wideOf l : Nat) : Int) ∧ ((wideOf l : Nat) : Int) ≤ 64 then slices_Concat_byte.f [enc (zig (lowOf l)), [IntKind.u8.wrap ((wideOf l : Nat) : Int)], putGo (lowOf l) ((wideOf l : Nat) : Int).toNat l [] 0] else none) = _
    rw [if_pos (by omega), Int.toNat_natCast, show IntKind.u8.wrap ((wideOf l : Nat) : Int) = ((wideOf l : Nat) : Int) by rw [IntKind.wrap_u8]; omega]
    unfold slices_Concat_byte.f
    have hf : [enc (zig (lowOf l)), [((wideOf l : Nat) : Int)], putGo (lowOf l) (wideOf l) l [] 0].flatten = enc (zig (lowOf l)) ++ ((wideOf l : Nat) : Int) :: putGo (lowOf l) (wideOf l) l [] 0 := by simp
    rw [hf, if_pos (by rw [List.length_append, List.length_cons, hlen]; omega)]
theorem nextOf_i64 (lo u : Int) : I64 (nextOf lo u) := by unfold nextOf I64; rw [IntKind.wrap_i64]; omega
theorem getGo_i64 (lo : Int) (m : Nat) (b : List Int) : ∀ d a, ∀ x ∈ getGo lo m b d a, I64 x
  | 0, _, x, h => by cases h
  | d + 1, a, x, h => by
    rw [getGo] at h
    rcases List.mem_cons.mp h with rfl | h
    · exact nextOf_i64 _ _
    · exact getGo_i64 lo m b d _ x h
theorem fits_mul {n y L : Nat} (h : fits n y L = true) : n * y ≤ 8 * L := by
  unfold fits at h
  by_cases hy : y = 0
  · rw [hy, Nat.mul_zero]; omega
  · rw [if_neg hy] at h
    simp only [Bool.and_eq_true, decide_eq_true_eq] at h
    have h1 := h.1.1
    have := (Nat.le_div_iff_mul_le (by omega)).mp h1
    exact this
/-- What bytes are opened as. -/
def openL (l : List Int) (n : Nat) : Option (Int × Int × List Int × Bool) :=
  let a := gInt l false
  let t := gTake a.2.1 a.2.2 1
  if t.2.2 = true then none else if rd t.1 0 > 64 then none else some (a.1, rd t.1 0, t.2.1, fits n (rd t.1 0).toNat t.2.1.length)
theorem open_is (l : List Int) (hb : IsBytes l) (hl : l.length ≤ 400) (n : Nat) (h1 : 1 ≤ n) (h2 : n ≤ 4096) : tight_open.f l n = some (openL l n) := by
  have hg : GoodS l false := GoodS.of ⟨hb, by omega⟩
  have hg1 : GoodS (gInt l false).2.1 (gInt l false).2.2 := gNum_good hg
  have hn1 : (gInt l false).2.1.length ≤ l.length := gNum_len l false
  have hg2 := gTake_good hg1 1
  have hn2 := gTake_len (gInt l false).2.1 (gInt l false).2.2 1
  have hby := gTake_bytes hg1 1
  unfold tight_open.f openL
  rw [if_pos ⟨by omega, h1, h2⟩, int_g hg, Option.bind_some, take_g hg1, Option.bind_some]
  simp only
  generalize gTake (gInt l false).2.1 (gInt l false).2.2 1 = t at *
  obtain ⟨t1, l2, b2⟩ := t
  simp only at *
  cases b2 with
  | true => rw [if_pos rfl, if_pos rfl]
  | false =>
    simp only [Bool.false_eq_true, if_false]
    by_cases h64 : rd t1 0 > 64
    · rw [if_pos h64, if_pos h64]
    · have h0 : 0 ≤ rd t1 0 := by
        cases t1 with
        | nil => exact Int.le_refl _
        | cons a r => exact (hby a List.mem_cons_self).1
      rw [if_neg h64, if_neg h64, if_pos h0]
      have e1 : vint_Source_Left.f l2 false = some ((l2.length : Int), l2, false) := rfl
      rw [e1, Option.bind_some]
      simp only
      have e2 : vint_Source_Take.f l2 false (l2.length : Int) = some (l2, [], false) := by
        unfold vint_Source_Take.f takeS
        rw [if_pos (by omega), if_neg (by simp), Int.toNat_natCast, List.take_of_length_le (Nat.le_refl _), List.drop_eq_nil_of_le (Nat.le_refl _)]
      rw [e2, Option.bind_some]
      simp only
      rw [if_pos (by omega)]
/-- Get always answers; what it says are numbers: so many, and put again. -/
theorem get_is (b : List Int) (hb : IsBytes b) (hl : b.length ≤ 400) (n : Int) (hn : n ≤ 400) (k : Nat) (hk : 4096 < k) :
    ∃ x t, tight_Get.f k b n = some (x, t) ∧ (t = false → x = []) ∧ (t = true → (x.length : Int) = n ∧ (∀ z ∈ x, I64 z) ∧ tight_Put.f k x = some (putL x) ∧ ((strOfNums (putL x)).toList == (strOfNums b).toList) = true) := by
  unfold tight_Get.f
  by_cases h0 : n ≤ 0 ∨ n > 4096
  · refine ⟨[], _, if_pos h0, fun _ => rfl, fun ht => ?_⟩
    simp only [Bool.and_eq_true, decide_eq_true_eq, beq_iff_eq] at ht
    obtain ⟨rfl, hz⟩ := ht
    obtain rfl : b = [] := List.eq_nil_of_length_eq_zero hz
    exact ⟨rfl, by simp, rfl, by simp [putL]⟩
  · rw [if_neg h0, open_is b hb hl n.toNat (by omega) (by omega), Option.bind_some]
    cases ho : openL b n.toNat with
    | none => exact ⟨[], false, rfl, fun _ => rfl, nofun⟩
    | some q =>
      obtain ⟨lo, y, u, t⟩ := q
      simp only
      cases t with
      | false => exact ⟨[], false, by rw [if_pos rfl], fun _ => rfl, nofun⟩
      | true =>
        rw [if_neg (by decide)]
        have hq : 0 ≤ y ∧ y ≤ 64 ∧ n.toNat * y.toNat ≤ 8 * u.length ∧ u.length < 1000000000 := by
          have hg : GoodS b false := GoodS.of ⟨hb, by omega⟩
          have hg1 : GoodS (gInt b false).2.1 (gInt b false).2.2 := gNum_good hg
          have hn1 : (gInt b false).2.1.length ≤ b.length := gNum_len b false
          have hn2 := gTake_len (gInt b false).2.1 (gInt b false).2.2 1
          have hby := gTake_bytes hg1 1
          unfold openL at ho
          simp only at ho
          generalize gTake (gInt b false).2.1 (gInt b false).2.2 1 = t at *
          obtain ⟨t1, l2, b2⟩ := t
          simp only at *
          split at ho
          · cases ho
          split at ho
          · cases ho
          rename_i h64
          simp only [Option.some.injEq, Prod.mk.injEq] at ho
          obtain ⟨_, rfl, rfl, hf⟩ := ho
          refine ⟨?_, by omega, fits_mul hf, by omega⟩
          cases t1 with
          | nil => exact Int.le_refl _
          | cons a r => exact (hby a List.mem_cons_self).1
        rw [if_pos hq, put_is _ (by rw [getGo_len]; omega) (getGo_i64 _ _ _ _ _) k hk, Option.bind_some]
        unfold bytes_Equal.f
        rw [Option.bind_some]
        by_cases he : ((strOfNums (putL (getGo lo y.toNat u n.toNat 0))).toList == (strOfNums b).toList) = true
        · rw [if_pos he]
          exact ⟨_, _, rfl, nofun, fun _ => ⟨by rw [getGo_len]; omega, getGo_i64 _ _ _ _ _, put_is _ (by rw [getGo_len]; omega) (getGo_i64 _ _ _ _ _) k hk, he⟩⟩
        · rw [if_neg he]
          exact ⟨_, _, rfl, fun _ => rfl, nofun⟩
theorem live_is : firkinlaw07_live.f 5000 = some true := by
  unfold firkinlaw07_live.f
  rw [put_is [5, 6, 8] (by decide) (by unfold I64; decide) 5000 (by decide), Option.bind_some]
  decide +kernel
theorem live_at (k : Nat) (h : 5000 ≤ k) : firkinlaw07_live.f k = some true := by
  obtain ⟨d, rfl⟩ : ∃ d, k = 5000 + d := ⟨k - 5000, by omega⟩
  clear h
  induction d with
  | zero => exact live_is
  | succ d ih => exact firkinlaw07_live.mono _ _ ih
end Go.Proofs.Ytbbffnlefmogbaa.Tight
/- TightOne: bytes that are numbers, so many or so many others, are just their own. No condition. -/
namespace Go.Proofs.Ytbbffnlefmogbaa.True_
open Go Go.RowKit Go.Proofs.Ytbbffnlefmogbaa.X Go.Proofs.Ytbbffnlefmogbaa.Dec Go.Proofs.Ytbbffnlefmogbaa.Tight Go.Proofs.YtbbffnlefmogbaaW.PrintWords Go.Proofs.YtbbffnlefmogbaaW.PrintLast Go.Proofs.YtbbffnlefmogbaaW.PrintMore
set_option linter.unusedVariables false
set_option linter.unusedSimpArgs false
theorem TightOne : ∀ (x0 : List Int) (x1 : Int) (x2 : Int), (x0.length ≤ maxLen ∧ ∀ z ∈ x0, (Lit.int .u8 z).wf = true) → (Lit.int .i64 x1).wf = true → (Lit.int .i64 x2).wf = true → ∃ k, firkinlaw07_TightOne.f k x0 x1 x2 = some true := by
  intro b n m h0 h1 h2
  have hb : IsBytes b := fun x hx => byte_bounds (h0.2 x hx)
  have lv : ∀ k, 5000 ≤ k → ((firkinlaw07_live.f k).bind fun t => some t) = some true := fun k hk => by rw [live_at k hk]; rfl
  refine ⟨9000, ?_⟩
  have ht : ∀ t, t = true → firkinlaw07_TightOne.j0 9000 b n m t = some true := by
    rintro t rfl
    rw [firkinlaw07_TightOne.j0, if_pos rfl]; exact lv _ (by decide)
  unfold firkinlaw07_TightOne.f
  by_cases hl : (b.length : Int) > 400
  · rw [if_pos hl]; exact ht _ rfl
  rw [if_neg hl]
  by_cases hn : n > 400
  · rw [if_pos hn]; exact ht _ rfl
  rw [if_neg hn]
  by_cases hm : m > 400
  · exact ht _ (decide_eq_true hm)
  rw [decide_eq_false hm, firkinlaw07_TightOne.j0, if_neg (by decide)]
  obtain ⟨x, t, e1, f1, t1⟩ := get_is b hb (by omega) n (by omega) 8999 (by decide)
  obtain ⟨y, s, e2, f2, t2⟩ := get_is b hb (by omega) m (by omega) 8999 (by decide)
  rw [e1, Option.bind_some]
  simp only
  cases t with
  | false => rw [if_neg (by decide), f1 rfl, if_pos (by decide)]; exact lv _ (by decide)
  | true =>
    obtain ⟨a1, a2, a3, a4⟩ := t1 rfl
    have hj : ∀ q, q = false → firkinlaw07_TightOne.j1 8999 b n x q = some true := by
      rintro q rfl
      obtain ⟨x', t', e1', f1', t1'⟩ := get_is b hb (by omega) n (by omega) 8998 (by decide)
      rw [firkinlaw07_TightOne.j1, if_neg (by decide), if_pos a1, put_is x (by omega) a2 8998 (by decide), Option.bind_some]
      unfold firkinref01_Same.f
      rw [Option.bind_some, if_pos a4]; exact lv _ (by decide)
    rw [if_pos rfl, e2, Option.bind_some]
    simp only
    cases s with
    | false => rw [if_neg (by decide)]; exact hj _ rfl
    | true =>
      obtain ⟨b1, b2, b3, b4⟩ := t2 rfl
      rw [if_pos rfl, if_pos b1, b3, Option.bind_some]
      unfold firkinref01_Same.f
      rw [Option.bind_some]
      exact hj _ (by rw [b4]; rfl)
end Go.Proofs.Ytbbffnlefmogbaa.True_
/- TightOne: for every input the call returns true, and each argument reads behind the call as it read before it. No condition. -/
namespace Go.Proofs.Ytbbffnlefmogbaa.tightOne
open Go.ChangeShapes Go.WideShapes Go.ChangeAt Go.RowKit Go.Proofs.Ytbbffnlefmogbaa.Opens Go.Proofs.Ytbbffnlefmogbaa.X Go.Proofs.YtbbffnlefmogbaaW.PrintWords Go.Proofs.YtbbffnlefmogbaaW.PrintLast Go.Proofs.YtbbffnlefmogbaaW.PrintMore
open Go.ChangeMaps (open_string shut_string)
set_option linter.unusedVariables false
set_option linter.unusedSimpArgs false
theorem own : ownKnob Try.prog.godebug = none := by kernel_rfl
theorem laidOut : laidOutB Try.prog = true := by kernel_rfl
set_option maxRecDepth 100000 in
theorem lifted (os : Os) (started : os.Started) (H : Type) (enc : TypeId × Value → H) :
    ReturnsInHanded {} Try.checked os 5 .any (Rows.tightOneSpec.pre6 enc Try.prog Try.f5 Rows.tightOneRow.domain false) (Rows.tightOneSpec.post enc Try.prog Try.f5 false true false false) := by
  refine returnsInHanded_of_change_sized (C := Try.checked) own started (by kernel_rfl) Try.func5
    (ChangeSpec.witness6 (enc := enc) (C := Try.checked) false ⟨#[], #[.slice none 0 0, .int .i64 0, .int .i64 0], []⟩ 8 (by kernel_rfl) (by kernel_rfl) (by kernel_rfl) (by kernel_rfl)) ?_
  intro W base args ds gs before hval0 hW hcnd hsz0 _
  have hval : ∀ (j : Nat) t v, Try.f5.params[j]? = some t → args[j]? = some v → Value.okWide Try.prog W .any base t v := hval0
  have hW' := hW
  obtain ⟨p, q, hA0, hV, rfl, hfz, hnd⟩ := hW
  have hA : DataW.TrodAll enc Try.prog W 0 (fun _ => true) true Try.f5.params.toList args.toList ds p := hA0
  rw [Try.params5] at hA hval
  obtain ⟨v0, vs0, d0, ds0, p0, q0, hargs, rfl, rfl, h0, r0⟩ := trodAll_cons hA
  obtain ⟨v1, vs1, d1, ds1, p1, q1, rfl, rfl, rfl, h1, r1⟩ := trodAll_cons r0
  obtain ⟨v2, vs2, d2, ds2, p2, q2, rfl, rfl, rfl, h2, r2⟩ := trodAll_cons r1
  obtain ⟨rfl, rfl, rfl⟩ := trodAll_nil r2
  obtain rfl : args = #[v0, v1, v2] := by cases args; simp_all
  obtain ⟨rfl, rfl⟩ := trodVars_none hV
  have k0 := h0
  have lt0 : ∀ x ∈ p0, x.block < W.heap.size := by obtain ⟨m, hm⟩ := k0; exact DataW.trod_lt m _ _ _ hm
  obtain ⟨x0, hk0, ok0⟩ := Opens.arg (Opens.slice Try.underlying24 (by kernel_rfl) (Opens.int Try.underlying5 (by kernel_rfl))) h0
  obtain ⟨a0, len0, cap0, rfl⟩ := okWide_slice Try.underlying24 (hval 0 24 v0 rfl rfl)
  obtain ⟨A0, c0, hcs0, hc0, hr0⟩ := hk0
  simp only [Value.cells] at hcs0
  injection hcs0 with hcs0 _
  injection hcs0 with e1_0 e2_0 e3_0
  subst e1_0 e2_0 e3_0
  have k1 := h1
  have lt1 : ∀ x ∈ p1, x.block < W.heap.size := by obtain ⟨m, hm⟩ := k1; exact DataW.trod_lt m _ _ _ hm
  obtain ⟨x1, hk1, ok1⟩ := Opens.arg (Opens.int Try.underlying3 (by kernel_rfl)) h1
  obtain ⟨y1, rfl⟩ := okWide_int Try.underlying3 (hval 1 3 v1 rfl rfl)
  injection (show _ = [_] from hk1) with e1 _
  injection e1 with e1a e1
  subst e1
  have k2 := h2
  have lt2 : ∀ x ∈ p2, x.block < W.heap.size := by obtain ⟨m, hm⟩ := k2; exact DataW.trod_lt m _ _ _ hm
  obtain ⟨x2, hk2, ok2⟩ := Opens.arg (Opens.int Try.underlying3 (by kernel_rfl)) h2
  obtain ⟨y2, rfl⟩ := okWide_int Try.underlying3 (hval 2 3 v2 rfl rfl)
  injection (show _ = [_] from hk2) with e2 _
  injection e2 with e2a e2
  subst e2
  clear hA0 hval0 hsz0
  obtain ⟨k, h⟩ := True_.TightOne x0 y1 y2 ok0 ok1 ok2
  refine (firkinlaw07_TightOne.calls k _ _ x0 y1 y2 true W hr0 hc0 h).mono fun e W' ⟨he, bel0⟩ => ?_
  have bel : Below W.heap.size W W' := bel0
  subst he
  exact ⟨_, rfl, _, _, _, [], _, [], hW', trodAll_mk1 (shut_bool Try.underlying4 _), (trodAll_cons_mk (Below.trod laidOut (by kernel_rfl) (of_decide_eq_true (by kernel_rfl)) k0 bel lt0) (trodAll_cons_mk (Below.trod laidOut (by kernel_rfl) (of_decide_eq_true (by kernel_rfl)) k1 bel lt1) (trodAll_cons_mk (Below.trod laidOut (by kernel_rfl) (of_decide_eq_true (by kernel_rfl)) k2 bel lt2) trodAll_mk0))), rfl, bel.frame _, fun h => by cases h⟩
theorem over : Rows.tightOneRow.holds Try.pinned (OpenSpec.ofChange Rows.tightOneSpec) :=
  OpenClaim.holds_of_wide 5 Try.f5 rfl rfl rfl rfl rfl rfl rfl ⟨rfl, rfl, rfl, rfl, rfl⟩ rfl rfl rfl rfl rfl (by kernel_rfl) Try.func5 (by kernel_rfl)
    (of_decide_eq_true (by kernel_rfl)) (by unfold Func.isWrapper; first | (rw [if_pos (by decide +kernel)]; kernel_rfl) | (rw [if_neg (by decide +kernel)]; exact ⟨rfl, rfl⟩))
    (fun os started H enc _ => lifted os started H enc)
theorem proved : Rows.TightOneSaid := over
end Go.Proofs.Ytbbffnlefmogbaa.tightOne
namespace Go.Proofs.Ytbbffnlefmogbaa
/-- The row, under a short name, for the claim. -/
theorem tightOne_holds : Rows.TightOneSaid := tightOne.proved
end Go.Proofs.Ytbbffnlefmogbaa
