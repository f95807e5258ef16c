/- FrameAll: for every input the call returns true, and each argument reads behind the call as it read before it. No condition. (Part 1 of 3: this session's texts, laid together by wip/merge.py.) -/
import Derived.Test.YthcmokglgepgjaaX0
import Derived.Test.YthcmokglgepgjaaLen64c
import Derived.Laws.BitsAllLaws
import Derived.Test.YthcmokglgepgjaaMem
import Derived.Test.YthcmokglgepgjaaDec
import Derived.Lib.Hide
import Derived.Lib.SliceRun
import Derived.Test.YthcmokglgepgjaaMem2
import Derived.Deep.RegionWith
import Derived.Deep.RegionHeld3
import Derived.Test.YthcmokglgepgjaaRangeT
import Derived.RangeFuncBox
import Derived.RangeFuncLeaves
import Derived.RangeFuncCalls
import Derived.Shelf.Abstract
import Derived.WalkKit
import Derived.OwnWalkIn
import Derived.TacticsInMore
import Derived.LoopNIn
import Derived.LoopIn
import Derived.Sort.LoopGhostIn
import Derived.Maps.AppendAt
import Derived.Maps.OwnIn
import Derived.Lib.SlBytesConst
/- The contract of math/bits.Len64 for this program, after the shelf's template, in the form that printed callers ask for. -/
namespace Go.Proofs.Ythcmokglgepgjaa.X
open Go.RowKit Go.Proofs.YthcmokglgepgjaaW.PrintWords Go.Proofs.YthcmokglgepgjaaW.PrintLast Go.Proofs.YthcmokglgepgjaaW.PrintMore
set_option linter.unusedVariables false
set_option linter.unusedSimpArgs false
def bits_Len64.f (a0 : Int) : Option Int := if 0 ≤ a0 ∧ a0 ≤ 18446744073709551615 then some ((Lib.bitLen a0.toNat : Nat) : Int) else none
theorem bits_Len64.calls (a0 : Int) (r : Int) (w : World) (h : bits_Len64.f a0 = some r) :
    Calls Try.prog 66 #[.int .u64 a0] w fun e w' => e = .returned (.int .i64 r) ∧ Drawn0 w w' := by
  unfold bits_Len64.f at h
  by_cases hb : 0 ≤ a0 ∧ a0 ≤ 18446744073709551615
  · rw [if_pos hb] at h
    obtain rfl := Option.some.inj h
    exact (Len64c.core a0 w hb.1 hb.2).mono fun e w' ⟨he, hw⟩ => ⟨he, by subst hw; exact Drawn0.refl _⟩
  · rw [if_neg hb] at h
    cases h
end Go.Proofs.Ythcmokglgepgjaa.X
-- Printed for this claim by a program of this session (wip/xprint.py) over the kit's printer; Lean checks it.
namespace Go.Proofs.Ythcmokglgepgjaa.X
open Go.RowKit Go.Proofs.YthcmokglgepgjaaW.PrintWords Go.Proofs.YthcmokglgepgjaaW.PrintLast Go.Proofs.YthcmokglgepgjaaW.PrintMore
attribute [local go_sem] max2_int min2_int max_two min_two max_three min_three max_four min_four   -- for this text's walks alone
set_option linter.unusedVariables false
set_option linter.unusedSimpArgs false

/-! ### vint_Num: function 41 -/
def vint_Num.l0 : Nat → Int → Int → List Int → Int → Int → Option (List Int)
  | 0, _, _, _, _, _ => none
  | k + 1, x0, x3, x4, x15, x16 => if x16 < x15 then (if 0 ≤ (wrap64 (7 * x16)) then (if 0 ≤ x16 then (if x16 < (x4.length : Int) then (vint_Num.l0 k x0 x3 (x4.set (x16 : Int).toNat (Go.bits .or .u8 (Go.bits .andNot .u8 ((shr .u64 x0 (wrap64 (7 * x16))) % 256) 128) 128)) x15 (wrap64 (x16 + 1))) else (none)) else (none)) else (none)) else (if 0 ≤ (wrap64 (x3 - 1)) then (if (wrap64 (x3 - 1)) < (x4.length : Int) then (some (x4.set ((wrap64 (x3 - 1)) : Int).toNat (Go.bits .andNot .u8 (rd x4 (wrap64 (x3 - 1))) 128))) else (none)) else (none))
def vint_Num.f (k : Nat) (a0 : Int) : Option (List Int) := (bits_Len64.f a0).bind fun t101 => (if 0 ≤ (mx 1 (wrap64 (Int.tdiv (wrap64 ((wrap64 (t101 + 7)) - 1)) 7))) then (if (mx 1 (wrap64 (Int.tdiv (wrap64 ((wrap64 (t101 + 7)) - 1)) 7)) : Int).toNat ≤ 281474976710656 then ((some (List.replicate (mx 1 (wrap64 (Int.tdiv (wrap64 ((wrap64 (t101 + 7)) - 1)) 7)) : Int).toNat 0 : List Int)).bind fun y102 => (vint_Num.l0 k a0 (mx 1 (wrap64 (Int.tdiv (wrap64 ((wrap64 (t101 + 7)) - 1)) 7))) y102 (y102.length : Int) 0)) else (none)) else (none))
theorem vint_Num.mono_l : ∀ k, (∀ y0 y1 y2 y3 y4, LeO (vint_Num.l0 k y0 y1 y2 y3 y4) (vint_Num.l0 (k + 1) y0 y1 y2 y3 y4))
  | 0 => fun _ _ _ _ _ r h => by simp [vint_Num.l0] at h
  | k + 1 => by
    have ih0 := vint_Num.mono_l k
    · intro y0 y1 y2 y3 y4
      unfold vint_Num.l0
      repeat' first
      | (with_reducible exact ih0 _ _ _ _ _)
      | (with_reducible exact LeO.refl _)
      | (with_reducible exact LeO.none _)
      | (with_reducible refine LeO.ite ?_ ?_)
      | (with_reducible refine LeO.bind ?_ (fun _ => ?_))
      | exact ih0 _ _ _ _ _
      | exact LeO.none _
      | refine LeO.ite ?_ ?_
      | refine LeO.bind ?_ (fun _ => ?_)
theorem vint_Num.mono : ∀ a0 k, LeO (vint_Num.f k a0) (vint_Num.f (k + 1) a0) := by
  intro a0 k
  have ih0 := vint_Num.mono_l k
  unfold vint_Num.f
  repeat' first
      | (with_reducible exact ih0 _ _ _ _ _)
      | (with_reducible exact LeO.refl _)
      | (with_reducible exact LeO.none _)
      | (with_reducible refine LeO.ite ?_ ?_)
      | (with_reducible refine LeO.bind ?_ (fun _ => ?_))
      | exact ih0 _ _ _ _ _
      | exact LeO.none _
      | refine LeO.ite ?_ ?_
      | refine LeO.bind ?_ (fun _ => ?_)
set_option maxHeartbeats 8000000 in
set_option maxRecDepth 100000 in
theorem vint_Num.calls (k : Nat) (a0 : Int) (r : List Int) (w : World) (h : vint_Num.f k a0 = some r) :
    Calls Try.prog 41 #[.int .u64 a0] w fun e w' => ∃ v0_ : Value, e = .returned (v0_) ∧ Kd.R (Kd.int .u8) 5 w' w.heap.size (fun _ => True) v0_ r ∧ Below w.heap.size w w' := by
  have HB := Aside0.mk (Below.refl w.heap.size w)
  have H : ((bits_Len64.f a0).bind fun t101 => (if 0 ≤ (mx 1 (wrap64 (Int.tdiv (wrap64 ((wrap64 (t101 + 7)) - 1)) 7))) then (if (mx 1 (wrap64 (Int.tdiv (wrap64 ((wrap64 (t101 + 7)) - 1)) 7)) : Int).toNat ≤ 281474976710656 then ((some (List.replicate (mx 1 (wrap64 (Int.tdiv (wrap64 ((wrap64 (t101 + 7)) - 1)) 7)) : Int).toNat 0 : List Int)).bind fun y102 => (vint_Num.l0 k a0 (mx 1 (wrap64 (Int.tdiv (wrap64 ((wrap64 (t101 + 7)) - 1)) 7))) y102 (y102.length : Int) 0)) else (none)) else (none))) = some r := h
  clear h
  replace H := Option.bind_eq_some_iff.mp H
  obtain ⟨t101, A20, H⟩ := H
  replace H : (if 0 ≤ (mx 1 (wrap64 (Int.tdiv (wrap64 ((wrap64 (t101 + 7)) - 1)) 7))) then (if (mx 1 (wrap64 (Int.tdiv (wrap64 ((wrap64 (t101 + 7)) - 1)) 7)) : Int).toNat ≤ 281474976710656 then ((some (List.replicate (mx 1 (wrap64 (Int.tdiv (wrap64 ((wrap64 (t101 + 7)) - 1)) 7)) : Int).toNat 0 : List Int)).bind fun y102 => (vint_Num.l0 k a0 (mx 1 (wrap64 (Int.tdiv (wrap64 ((wrap64 (t101 + 7)) - 1)) 7))) y102 (y102.length : Int) 0)) else (none)) else (none)) = some r := H
  have A2 := Aside0.mk A20
  clear A20
  obtain ⟨ji3, hji3⟩ : ∃ j_ : Int, (mx 1 (wrap64 (Int.tdiv (wrap64 ((wrap64 (t101 + 7)) - 1)) 7))) = j_ := ⟨_, rfl⟩
  replace H : (if 0 ≤ (ji3) then (if (ji3 : Int).toNat ≤ 281474976710656 then ((some (List.replicate (ji3 : Int).toNat 0 : List Int)).bind fun y102 => (vint_Num.l0 k a0 ji3 y102 (y102.length : Int) 0)) else (none)) else (none)) = some r := by first | (rw [hji3] at H; exact H) | (simp only [hji3] at H ⊢; exact H)
  (try rw [hji3] at A2)
  (try (have hji3l : 1 ≤ ji3 := by (rw [← hji3]; unfold mx; (repeat' split) <;> omega)))
  (try (have hji3m : 0 ≤ ji3 := by omega))
  have hji3_ : (if 1 < (wrap64 (Int.tdiv (wrap64 ((wrap64 (t101 + 7)) - 1)) 7)) then (wrap64 (Int.tdiv (wrap64 ((wrap64 (t101 + 7)) - 1)) 7)) else 1) = ji3 := hji3
  by_cases c4 : 0 ≤ (ji3)
  · rw [if_pos c4] at H
    have c4b0 := eq_true c4
    have c4b1 : decide (0 ≤ (ji3)) = true := decide_eq_true c4
    clear c4
    by_cases c5 : (ji3 : Int).toNat ≤ 281474976710656
    · rw [if_pos c5] at H
      have c5b0 := eq_true c5
      have c5b1 : decide ((ji3 : Int).toNat ≤ 281474976710656) = true := decide_eq_true c5
      clear c5
      obtain ⟨y102, hy102⟩ : ∃ y_ : List Int, y_ = (List.replicate (ji3 : Int).toNat 0) := ⟨_, rfl⟩
      replace H : (vint_Num.l0 k a0 ji3 y102 (y102.length : Int) 0) = some r := by first | (rw [hy102]; with_reducible exact H) | (have H2_ := (Option.bind_some _ _).symm.trans H; rw [hy102]; with_reducible exact H2_) | (have H2_ := (Option.bind_some _ _).symm.trans H; with_reducible exact H2_) | with_reducible exact H | (rw [hy102]; exact H) | exact H
      have Ny102 := Aside0.mk hy102
      clear hy102
      have H' := Aside0.mk H
      clear H
      go_enter Try.func41, Try.ntmps41
      go_wp2_with (first | ((with_reducible refine gate_callee (f := 66) rfl ?_); refine goesL_ (some 7) rfl rfl Try.func66 (by kernel_rfl) rfl #[.int .u64 a0] rfl (by (try simp only [List.map_toArray, List.map_cons, List.map_nil]); first | done | rfl | (simp only [List.length_drop, List.length_take]; rfl)) ?_; (with_reducible refine (bits_Len64.calls a0 t101 _ A2.out).mono ?_); rintro e w' ⟨rfl, ⟨nd, rfl⟩⟩; refine ⟨_, rfl, ?_⟩) | ((with_reducible refine gate_dst (N := 13) rfl ?_); refine Kd.R_make (Kd.int .u8) _ 5 rfl (N := 13) rfl 22 _ _ rfl ji3 rfl rfl Try.underlying22 (.int .u8 0) 1 info5 rfl (by decide) (by omega) 0 (ok := fun _ => True) (okp := fun _ => True) rfl (fun _ hk => hk) trivial (of_decide_eq_true (by first | (with_reducible assumption) | assumption)) (Nat.le_trans (Nat.mul_le_mul_right _ (of_decide_eq_true (by first | (with_reducible assumption) | assumption) : ji3.toNat ≤ 281474976710656)) (by omega)) (Below.refl _ _) (Nat.le_refl _) ?_; intro v103 w6 ho7 hb hg_ hnew_; clear hg_ hnew_; (first | rw [← Ny102.out] at ho7 | (simp only [Int.reduceToNat] at ho7; rw [← Ny102.out] at ho7)); have n0_ := Aside0.mk (Kd.R_lower ho7 (below_size (by repeat (first | (with_reducible first | exact HB.out | apply below_alloc | apply pw_below_drewN | apply below_drew1) | exact HB.out)))); have n1_ := Aside0.mk (below_step (by repeat (first | (with_reducible first | exact HB.out | apply below_alloc | apply pw_below_drewN | apply below_drew1) | exact HB.out)) hb); clear HB; have HO104 := n0_; have HB := n1_; clear n0_ n1_; clear hb ho7; obtain ⟨Ao8, co8, eo8⟩ := Kd.R_slice HO104.out; subst eo8))
      go_loopg [16] k (fun kq v16 w' => ∃ (x4_1 : List Int) (x16_1 : Int), v16 = .int .i64 x16_1 ∧ Aside0 (vint_Num.l0 kq a0 ji3 x4_1 (y102.length : Int) x16_1 = some r) ∧ Aside0 (kq ≤ k) ∧ Aside0 (Kd.R (Kd.int .u8) 5 w' w.heap.size (fun _ => True) (.slice Ao8 y102.length co8) x4_1) ∧ Aside0 (Below w.heap.size w w'))
      case atStart => exact ⟨(y102), (0), (by first | rfl | (simp; done) | (simp [*]; done)), H', ⟨Nat.le_refl _⟩, ⟨by (with_reducible repeat (first | apply Kd.R_alloc | apply Kd.R_drewN | apply Kd.R_drew)); exact HO104.out⟩, ⟨by repeat (first | (with_reducible first | exact HB.out | apply below_alloc | apply pw_below_drewN | apply below_drew1) | exact HB.out)⟩⟩
      case round =>
        clear H'
        try clear p2
        try clear c4
        try clear c4b0
        try clear c4b1
        try clear c5
        try clear c5b0
        try clear c5b1
        try clear c6
        try clear p6
        obtain ⟨x4_1, x16_1, rfl, HA, HK1, HO_4, HB⟩ := hrel
        have hl4_1 := (Kd.R_reads' HO_4.out).1
        rw [hl4_1] at HO_4
        (try simp only [hl4_1])
        cases gk with
        | zero => exact absurd HA.out (by simp [vint_Num.l0])
        | succ k1 =>
          have H := HA.out
          clear HA
          simp only [vint_Num.l0] at H
          by_cases c9 : x16_1 < (y102.length : Int)
          · rw [if_pos c9] at H
            have c9b0 : decide (x16_1 < (y102.length : Int)) = true := decide_eq_true c9
            have c9b0l := c9b0
            (try simp only [hl4_1] at c9b0l)
            clear c9
            obtain ⟨ji10, hji10⟩ : ∃ j_ : Int, (wrap64 (7 * x16_1)) = j_ := ⟨_, rfl⟩
            replace H : (if 0 ≤ (ji10) then (if 0 ≤ x16_1 then (if x16_1 < (x4_1.length : Int) then (vint_Num.l0 k1 a0 ji3 (x4_1.set (x16_1 : Int).toNat (Go.bits .or .u8 (Go.bits .andNot .u8 ((shr .u64 a0 (ji10)) % 256) 128) 128)) (y102.length : Int) (wrap64 (x16_1 + 1))) else (none)) else (none)) else (none)) = some r := by first | (rw [hji10] at H; exact H) | (simp only [hji10] at H ⊢; exact H)
            have hji10w : (IntKind.i64.wrap (7 * x16_1)) = ji10 := (i64_w _).trans hji10
            by_cases c11 : 0 ≤ (ji10)
            · rw [if_pos c11] at H
              have c11b0 := eq_true c11
              have c11b1 : decide (0 ≤ (ji10)) = true := decide_eq_true c11
              clear c11
              obtain ⟨ji12, hji12⟩ : ∃ j_ : Int, (shr .u64 a0 (ji10)) = j_ := ⟨_, rfl⟩
              replace H : (if 0 ≤ x16_1 then (if x16_1 < (x4_1.length : Int) then (vint_Num.l0 k1 a0 ji3 (x4_1.set (x16_1 : Int).toNat (Go.bits .or .u8 (Go.bits .andNot .u8 ((ji12) % 256) 128) 128)) (y102.length : Int) (wrap64 (x16_1 + 1))) else (none)) else (none)) = some r := by first | (rw [hji12] at H; exact H) | (simp only [hji12] at H ⊢; exact H)
              have hji12_ : (a0 / 2 ^ min (ji10).toNat 64) = ji12 := hji12
              have hji12z : (ji10) ≤ 64 → (a0 / 2 ^ (ji10).toNat) = ji12 := shr_small hji12
              by_cases c13 : 0 ≤ x16_1
              · rw [if_pos c13] at H
                have c13b0 : decide (0 ≤ x16_1) = true := decide_eq_true c13
                clear c13
                by_cases c14 : x16_1 < (x4_1.length : Int)
                · rw [if_pos c14] at H
                  have c14b0 : decide (x16_1 < (x4_1.length : Int)) = true := decide_eq_true c14
                  have c14b0l := c14b0
                  (try simp only [hl4_1] at c14b0l)
                  clear c14
                  obtain ⟨y105, hy105⟩ : ∃ y_ : List Int, y_ = (x4_1.set (x16_1 : Int).toNat (Go.bits .or .u8 (Go.bits .andNot .u8 ((ji12) % 256) 128) 128)) := ⟨_, rfl⟩
                  replace H : (vint_Num.l0 k1 a0 ji3 y105 (y102.length : Int) (wrap64 (x16_1 + 1))) = some r := by first | (rw [hy105]; with_reducible exact H) | (have H2_ := (Option.bind_some _ _).symm.trans H; rw [hy105]; with_reducible exact H2_) | (have H2_ := (Option.bind_some _ _).symm.trans H; with_reducible exact H2_) | with_reducible exact H | (rw [hy105]; exact H) | exact H
                  have Ny105 := Aside0.mk hy105
                  clear hy105
                  have H' := Aside0.mk H
                  clear H
                  have p15 : 0 ≤ (x16_1 : Int) := of_decide_eq_true (by first | (with_reducible assumption) | assumption)
                  have q15 : (x16_1 : Int) < ((x4_1.length : Int) : Int) := of_decide_eq_true (by first | (with_reducible assumption) | assumption)
                  obtain ⟨go15, co15, eo15, gb15, gl15, cl15, HG15⟩ := Kd.R_form HO_4.out (by omega)
                  (first | cases eo15 | (injection eo15 with ea_ en_ ec_; (first | subst ea_ | (injection ea_ with ea_; subst ea_)); subst ec_; clear en_))
                  have GB15 := Aside0.mk gb15
                  have GG15 := Aside0.mk HG15
                  clear gb15 gl15 HG15
                  obtain ⟨hx15_0, hf15_0⟩ := Kd.R_celln 0 HO_4.out (x16_1 : Int) p15 q15
                  replace p15 := eq_true p15
                  replace q15 := eq_true q15
                  have HP16 := Kd.R_putg HO_4.out (x16_1 : Int) (Go.bits .or .u8 (Go.bits .andNot .u8 ((ji12) % 256) 128) 128)
                  go_wp2_with (first | ((with_reducible refine gate_store (t := 5) (p := 28) rfl ?_); refine store_event (t := 5) (p := 28) (v := ?vo_w17) (w1 := (wr.setCell ⟨go15, (x16_1 : Int).toNat, none⟩ (.int .u8 (Go.bits .or .u8 (Go.bits .andNot .u8 ((ji12) % 256) 128) 128)))) ?hg ?ho ?hn ?hr ?_; (case ho => rfl); (case hg => rfl); (case hn => rfl); (case hr => first | (go_simp; done) | (go_simp; rfl)); intro w17 hw; have hg : wr.grownBy w17 (some go15) := (by rw [hw]; exact HP16.2); have hp_ : Kd.R (Kd.int .u8) 5 w17 w.heap.size (fun _ => True) (.slice (some ⟨go15, 0, none⟩) x4_1.length co8) y105 := (by rw [hw, Ny105.out]; exact HP16.1); clear HP16; have n0_ := Aside0.mk (hp_); have n1_ := Aside0.mk ((by rw [hw]; exact below_set (HB.out) GB15.out : Below w.heap.size w w17)); clear HO_4; clear HB; have HO_4 := n0_; have HB := n1_; clear n0_ n1_; clear hg hw hp_))
                  (try simp only [← hl4_1])
                  go_roundg k1
                  case measure => have := HK1.out; omega
                  case rel => exact ⟨(y105), (wrap64 (x16_1 + 1)), (by first | rfl | (simp; done) | (simp [*]; done)), H', ⟨by have := HK1.out; omega⟩, ⟨by (try simp only [hl4_1]); (with_reducible repeat (first | apply Kd.R_alloc | apply Kd.R_drewN | apply Kd.R_drew)); exact HO_4.out⟩, ⟨by repeat (first | (with_reducible first | exact HB.out | apply below_alloc | apply pw_below_drewN | apply below_drew1) | exact HB.out)⟩⟩
                · rw [if_neg c14] at H
                  exact absurd H (by simp)
              · rw [if_neg c13] at H
                exact absurd H (by simp)
            · rw [if_neg c11] at H
              exact absurd H (by simp)
          · rw [if_neg c9] at H
            have c9b0 : decide (x16_1 < (y102.length : Int)) = false := decide_eq_false c9
            have c9b0l := c9b0
            (try simp only [hl4_1] at c9b0l)
            clear c9
            obtain ⟨ji18, hji18⟩ : ∃ j_ : Int, (wrap64 (ji3 - 1)) = j_ := ⟨_, rfl⟩
            replace H : (if 0 ≤ (ji18) then (if (ji18) < (x4_1.length : Int) then (some (x4_1.set ((ji18) : Int).toNat (Go.bits .andNot .u8 (rd x4_1 (ji18)) 128))) else (none)) else (none)) = some r := by first | (rw [hji18] at H; exact H) | (simp only [hji18] at H ⊢; exact H)
            have hji18w : (IntKind.i64.wrap (ji3 - 1)) = ji18 := (i64_w _).trans hji18
            by_cases c19 : 0 ≤ (ji18)
            · rw [if_pos c19] at H
              have c19b0 : decide (0 ≤ (ji18)) = true := decide_eq_true c19
              clear c19
              by_cases c20 : (ji18) < (x4_1.length : Int)
              · rw [if_pos c20] at H
                have c20b0 : decide ((ji18) < (x4_1.length : Int)) = true := decide_eq_true c20
                have c20b0l := c20b0
                (try simp only [hl4_1] at c20b0l)
                clear c20
                obtain ⟨y107, hy107⟩ : ∃ y_ : List Int, y_ = (x4_1.set ((ji18) : Int).toNat (Go.bits .andNot .u8 (rd x4_1 (ji18)) 128)) := ⟨_, rfl⟩
                replace H : (some y107) = some r := by first | (rw [hy107]; with_reducible exact H) | (have H2_ := (Option.bind_some _ _).symm.trans H; rw [hy107]; with_reducible exact H2_) | (have H2_ := (Option.bind_some _ _).symm.trans H; with_reducible exact H2_) | with_reducible exact H | (rw [hy107]; exact H) | exact H
                have Ny107 := Aside0.mk hy107
                clear hy107
                obtain rfl := Option.some.inj H
                have p106 : 0 ≤ ((ji18) : Int) := of_decide_eq_true (by first | (with_reducible assumption) | assumption)
                have q106 : (ji18) < (x4_1.length : Int) := of_decide_eq_true (by first | (with_reducible assumption) | assumption)
                obtain ⟨ad106, e106, hx106_0⟩ := Kd.at_int (Kd.R_reads' HO_4.out).2.2 (ji18) p106 q106
                cases e106
                replace p106 := eq_true p106
                replace q106 := eq_true q106
                have p21 : 0 ≤ ((ji18) : Int) := of_decide_eq_true (by first | (with_reducible assumption) | assumption)
                have q21 : ((ji18) : Int) < ((x4_1.length : Int) : Int) := of_decide_eq_true (by first | (with_reducible assumption) | assumption)
                obtain ⟨go21, co21, eo21, gb21, gl21, cl21, HG21⟩ := Kd.R_form HO_4.out (by omega)
                (first | cases eo21 | (injection eo21 with ea_ en_ ec_; (first | subst ea_ | (injection ea_ with ea_; subst ea_)); subst ec_; clear en_))
                have GB21 := Aside0.mk gb21
                have GG21 := Aside0.mk HG21
                clear gb21 gl21 HG21
                (first | simp only [add_plain] at hx106_0 | skip)
                obtain ⟨hx21_0, hf21_0⟩ := Kd.R_celln 0 HO_4.out ((ji18) : Int) p21 q21
                replace p21 := eq_true p21
                replace q21 := eq_true q21
                have HP22 := Kd.R_putg HO_4.out ((ji18) : Int) (Go.bits .andNot .u8 (rd x4_1 (ji18)) 128)
                go_wp2_with (first | ((with_reducible refine gate_store (t := 5) (p := 36) rfl ?_); refine store_event (t := 5) (p := 36) (v := ?vo_w23) (w1 := (wr.setCell ⟨go21, ((ji18) : Int).toNat, none⟩ (.int .u8 (Go.bits .andNot .u8 (rd x4_1 (ji18)) 128)))) ?hg ?ho ?hn ?hr ?_; (case ho => rfl); (case hg => rfl); (case hn => rfl); (case hr => first | (go_simp; done) | (go_simp; rfl)); intro w23 hw; have hg : wr.grownBy w23 (some go21) := (by rw [hw]; exact HP22.2); have hp_ : Kd.R (Kd.int .u8) 5 w23 w.heap.size (fun _ => True) (.slice (some ⟨go21, 0, none⟩) x4_1.length co8) y107 := (by rw [hw, Ny107.out]; exact HP22.1); clear HP22; have n0_ := Aside0.mk (hp_); have n1_ := Aside0.mk ((by rw [hw]; exact below_set (HB.out) GB21.out : Below w.heap.size w w23)); clear HO_4; clear HB; have HO_4 := n0_; have HB := n1_; clear n0_ n1_; clear hg hw hp_))
                go_ret
                exact ⟨_, by first | rfl | (simp [errW_none, errW_some] <;> rfl) | (simp only [← hji3, ← hji18]; first | rfl | (simp [errW_none, errW_some] <;> rfl)) | (simp [*, errW_none, errW_some] <;> rfl), by (with_reducible repeat (first | apply Kd.R_alloc | apply Kd.R_drewN | apply Kd.R_drew)); exact HO_4.out, by repeat (first | (with_reducible first | exact HB.out | apply below_alloc | apply pw_below_drewN | apply below_drew1) | exact HB.out)⟩
              · rw [if_neg c20] at H
                exact absurd H (by simp)
            · rw [if_neg c19] at H
              exact absurd H (by simp)
    · rw [if_neg c5] at H
      exact absurd H (by simp)
  · rw [if_neg c4] at H
    exact absurd H (by simp)

end Go.Proofs.Ythcmokglgepgjaa.X
/- The contract of crc.half: the table's entry, taken by the lowest four bits, turned into the sum without them; for every number of its kind. -/
namespace Go.Proofs.Ythcmokglgepgjaa.X
open Go.RowKit Go.Proofs.YthcmokglgepgjaaW.PrintWords Go.Proofs.YthcmokglgepgjaaW.PrintLast Go.Proofs.YthcmokglgepgjaaW.PrintMore
set_option linter.unusedVariables false
def halfTab : List Int := [0, 274646895, 549293790, 820201905, 1098587580, 1361435347, 1640403810, 1905808397, 2197175160, 2460548119, 2722870694, 2987750089, 3280807620, 3553878443, 3811616794, 4084100981]
def crc_half.f (a0 : Int) : Option (Int) := if 0 ≤ a0 ∧ a0 < 4294967296 then some (Go.bits .xor .u32 (a0 / 16) (halfTab.getD (a0 % 16).toNat 0)) else none
theorem half_and15 (x : Int) (h0 : 0 ≤ x) (h1 : x < 4294967296) : Go.bits .and .u32 x 15 = x % 16 :=
  Go.bits_mask .u32 32 (by decide) (fun n a b => by rw [IntKind.wrap_u32]; omega) 4 (by decide) x h0 h1
theorem half_index0 (w : World) : ∀ n : Nat, n < 16 → (Instr.index 104 (.agg #[.int .u32 0, .int .u32 274646895, .int .u32 549293790, .int .u32 820201905, .int .u32 1098587580, .int .u32 1361435347, .int .u32 1640403810, .int .u32 1905808397, .int .u32 2197175160, .int .u32 2460548119, .int .u32 2722870694, .int .u32 2987750089, .int .u32 3280807620, .int .u32 3553878443, .int .u32 3811616794, .int .u32 4084100981]) (.int .u32 (n : Int))).run Try.prog w = .ok (.int .u32 (halfTab.getD n 0)) w
  | 0, _ => by kernel_rfl
  | 1, _ => by kernel_rfl
  | 2, _ => by kernel_rfl
  | 3, _ => by kernel_rfl
  | 4, _ => by kernel_rfl
  | 5, _ => by kernel_rfl
  | 6, _ => by kernel_rfl
  | 7, _ => by kernel_rfl
  | 8, _ => by kernel_rfl
  | 9, _ => by kernel_rfl
  | 10, _ => by kernel_rfl
  | 11, _ => by kernel_rfl
  | 12, _ => by kernel_rfl
  | 13, _ => by kernel_rfl
  | 14, _ => by kernel_rfl
  | 15, _ => by kernel_rfl
  | n + 16, h => absurd h (by omega)
theorem half_index (j : Int) (h0 : 0 ≤ j) (h1 : j < 16) (w : World) : (Instr.index 104 (.agg #[.int .u32 0, .int .u32 274646895, .int .u32 549293790, .int .u32 820201905, .int .u32 1098587580, .int .u32 1361435347, .int .u32 1640403810, .int .u32 1905808397, .int .u32 2197175160, .int .u32 2460548119, .int .u32 2722870694, .int .u32 2987750089, .int .u32 3280807620, .int .u32 3553878443, .int .u32 3811616794, .int .u32 4084100981]) (.int .u32 j)).run Try.prog w = .ok (.int .u32 (halfTab.getD j.toNat 0)) w := by
  obtain ⟨n, rfl⟩ := Int.eq_ofNat_of_zero_le h0
  exact half_index0 w n (by omega)
set_option maxHeartbeats 8000000 in
set_option maxRecDepth 100000 in
theorem crc_half.calls (a0 : Int) (r : Int) (w : World) (h : crc_half.f a0 = some r) :
    Calls Try.prog 81 #[.int .u32 a0] w fun e w' => e = .returned (.int .u32 r) ∧ Drawn0 w w' := by
  unfold crc_half.f at h
  by_cases hb : 0 ≤ a0 ∧ a0 < 4294967296
  · rw [if_pos hb] at h
    obtain rfl := Option.some.inj h
    obtain ⟨h0, h1⟩ := hb
    clear h
    have hi := half_index (a0 % 16) (by omega) (by omega)
    have ha := half_and15 a0 h0 h1
    generalize halfTab.getD (a0 % 16).toNat 0 = y at *
    go_enter Try.func81, Try.ntmps81
    go_wp2
    go_ret
    exact ⟨by first | rfl | (simp; done) | (simp [*]; done), by repeat (first | exact Drawn0.refl _ | apply Drawn0.step)⟩
  · rw [if_neg hb] at h
    cases h
end Go.Proofs.Ythcmokglgepgjaa.X
-- Printed for this claim by a program of this session (wip/xprint.py) over the kit's printer; Lean checks it.
namespace Go.Proofs.Ythcmokglgepgjaa.X
open Go.RowKit Go.Proofs.YthcmokglgepgjaaW.PrintWords Go.Proofs.YthcmokglgepgjaaW.PrintLast Go.Proofs.YthcmokglgepgjaaW.PrintMore
attribute [local go_sem] max2_int min2_int max_two min_two max_three min_three max_four min_four   -- for this text's walks alone
set_option linter.unusedVariables false
set_option linter.unusedSimpArgs false

/-! ### crc_More: function 77 -/
def crc_More.l0 : Nat → Int → List Int → Int → Int → Option (Int)
  | 0, _, _, _, _ => none
  | k + 1, x5, x10, x11, x12 => if x12 < x11 then (if 0 ≤ x12 then (if x12 < (x10.length : Int) then ((crc_half.f (Go.bits .xor .u32 x5 ((rd x10 x12) % 4294967296))).bind fun t109 => ((crc_half.f t109).bind fun t110 => (crc_More.l0 k t110 x10 x11 (wrap64 (x12 + 1))))) else (none)) else (none)) else (some (Go.bits .xor .u32 4294967295 x5))
def crc_More.f (k : Nat) (a0 : Int) (l1 : List Int) : Option (Int) := crc_More.l0 k (Go.bits .xor .u32 4294967295 a0) l1 (l1.length : Int) 0
theorem crc_More.mono_l : ∀ k, (∀ y0 y1 y2 y3, LeO (crc_More.l0 k y0 y1 y2 y3) (crc_More.l0 (k + 1) y0 y1 y2 y3))
  | 0 => fun _ _ _ _ r h => by simp [crc_More.l0] at h
  | k + 1 => by
    have ih0 := crc_More.mono_l k
    · intro y0 y1 y2 y3
      unfold crc_More.l0
      repeat' first
      | (with_reducible exact ih0 _ _ _ _)
      | (with_reducible exact LeO.refl _)
      | (with_reducible exact LeO.none _)
      | (with_reducible refine LeO.ite ?_ ?_)
      | (with_reducible refine LeO.bind ?_ (fun _ => ?_))
      | exact ih0 _ _ _ _
      | exact LeO.none _
      | refine LeO.ite ?_ ?_
      | refine LeO.bind ?_ (fun _ => ?_)
theorem crc_More.mono : ∀ a0 a1 k, LeO (crc_More.f k a0 a1) (crc_More.f (k + 1) a0 a1) := by
  intro a0 a1 k
  have ih0 := crc_More.mono_l k
  unfold crc_More.f
  repeat' first
      | (with_reducible exact ih0 _ _ _ _)
      | (with_reducible exact LeO.refl _)
      | (with_reducible exact LeO.none _)
      | (with_reducible refine LeO.ite ?_ ?_)
      | (with_reducible refine LeO.bind ?_ (fun _ => ?_))
      | exact ih0 _ _ _ _
      | exact LeO.none _
      | refine LeO.ite ?_ ?_
      | refine LeO.bind ?_ (fun _ => ?_)
set_option maxHeartbeats 8000000 in
set_option maxRecDepth 100000 in
theorem crc_More.calls (k : Nat) (a0 : Int) (A1 : Option Addr) (c1 : Nat) (l1 : List Int) (r : Int) (w : World) (hr1 : Kd.C (Kd.int .u8) w A1 l1.length l1) (hc1 : l1.length ≤ c1) (h : crc_More.f k a0 l1 = some r) :
    Calls Try.prog 77 #[.int .u32 a0, .slice A1 l1.length c1] w fun e w' => e = .returned (.int .u32 r) ∧ Drawn0 w w' := by
  have HR1 := Aside0.mk hr1
  have HC1 := Aside0.mk hc1
  clear hr1 hc1
  have H : (crc_More.l0 k (Go.bits .xor .u32 4294967295 a0) l1 (l1.length : Int) 0) = some r := h
  clear h
  have H' := Aside0.mk H
  clear H
  go_enter Try.func77, Try.ntmps77
  go_wp2
  go_loopg [5, 12] k (fun kq v5 v12 w' => ∃ (x5_1 : Int) (x12_1 : Int), v5 = .int .u32 x5_1 ∧ v12 = .int .i64 x12_1 ∧ Aside0 (crc_More.l0 kq x5_1 l1 (l1.length : Int) x12_1 = some r) ∧ Aside0 (kq ≤ k) ∧ Drawn0 w w')
  case atStart => exact ⟨(Go.bits .xor .u32 4294967295 a0), (0), (by first | rfl | (simp; done) | (simp [*]; done)), (by first | rfl | (simp; done) | (simp [*]; done)), H', ⟨Nat.le_refl _⟩, by repeat (first | exact Drawn0.refl _ | apply Drawn0.step)⟩
  case round =>
    clear H'
    try clear c1
    try clear p2
    obtain ⟨x5_1, x12_1, rfl, rfl, HA, HK1, ⟨m1, rfl⟩⟩ := hrel
    cases gk with
    | zero => exact absurd HA.out (by simp [crc_More.l0])
    | succ k1 =>
      have H := HA.out
      clear HA
      simp only [crc_More.l0] at H
      by_cases c3 : x12_1 < (l1.length : Int)
      · rw [if_pos c3] at H
        have c3b0 : decide (x12_1 < (l1.length : Int)) = true := decide_eq_true c3
        clear c3
        by_cases c4 : 0 ≤ x12_1
        · rw [if_pos c4] at H
          have c4b0 : decide (0 ≤ x12_1) = true := decide_eq_true c4
          clear c4
          by_cases c5 : x12_1 < (l1.length : Int)
          · rw [if_pos c5] at H
            have c5b0 : decide (x12_1 < (l1.length : Int)) = true := decide_eq_true c5
            clear c5
            replace H := Option.bind_eq_some_iff.mp H
            obtain ⟨t109, A60, H⟩ := H
            replace H : ((crc_half.f t109).bind fun t110 => (crc_More.l0 k1 t110 l1 (l1.length : Int) (wrap64 (x12_1 + 1)))) = some r := H
            have A6 := Aside0.mk A60
            clear A60
            replace H := Option.bind_eq_some_iff.mp H
            obtain ⟨t110, A70, H⟩ := H
            replace H : (crc_More.l0 k1 t110 l1 (l1.length : Int) (wrap64 (x12_1 + 1))) = some r := H
            have A7 := Aside0.mk A70
            clear A70
            have H' := Aside0.mk H
            clear H
            have p108 : 0 ≤ (x12_1 : Int) := of_decide_eq_true (by first | (with_reducible assumption) | assumption)
            have q108 : x12_1 < (l1.length : Int) := of_decide_eq_true (by first | (with_reducible assumption) | assumption)
            obtain ⟨ad108, e108, hx108_0⟩ := Kd.at_int HR1.out x12_1 p108 q108
            cases e108
            replace p108 := eq_true p108
            replace q108 := eq_true q108
            go_wp2_with (first | ((with_reducible refine gate_callee (f := 81) rfl ?_); refine goesL_ (some 20) rfl rfl Try.func81 (by kernel_rfl) rfl #[.int .u32 (Go.bits .xor .u32 x5_1 ((rd l1 x12_1) % 4294967296))] rfl (by (try simp only [List.map_toArray, List.map_cons, List.map_nil]); first | done | rfl | (simp only [List.length_drop, List.length_take]; rfl)) ?_; (with_reducible refine (crc_half.calls (Go.bits .xor .u32 x5_1 ((rd l1 x12_1) % 4294967296)) t109 _ A6.out).mono ?_); rintro e w' ⟨rfl, ⟨nd, rfl⟩⟩; refine ⟨_, rfl, ?_⟩) | ((with_reducible refine gate_callee (f := 81) rfl ?_); refine goesL_ (some 21) rfl rfl Try.func81 (by kernel_rfl) rfl #[.int .u32 t109] rfl (by (try simp only [List.map_toArray, List.map_cons, List.map_nil]); first | done | rfl | (simp only [List.length_drop, List.length_take]; rfl)) ?_; (with_reducible refine (crc_half.calls t109 t110 _ A7.out).mono ?_); rintro e w' ⟨rfl, ⟨nd, rfl⟩⟩; refine ⟨_, rfl, ?_⟩))
            go_roundg k1
            case measure => have := HK1.out; omega
            case rel => exact ⟨(t110), (wrap64 (x12_1 + 1)), (by first | rfl | (simp; done) | (simp [*]; done)), (by first | rfl | (simp; done) | (simp [*]; done)), H', ⟨by have := HK1.out; omega⟩, by repeat (first | exact Drawn0.refl _ | apply Drawn0.step)⟩
          · rw [if_neg c5] at H
            exact absurd H (by simp)
        · rw [if_neg c4] at H
          exact absurd H (by simp)
      · rw [if_neg c3] at H
        have c3b0 : decide (x12_1 < (l1.length : Int)) = false := decide_eq_false c3
        clear c3
        obtain rfl := Option.some.inj H
        go_wp2
        go_ret
        exact ⟨by first | rfl | (simp; done) | (simp [*]; done), by repeat (first | exact Drawn0.refl _ | apply Drawn0.step)⟩

/-! ### crc_Of: function 67 -/
def crc_Of.l0 : Nat → Int → List (List Int) → Int → Int → Option (Int)
  | 0, _, _, _, _ => none
  | k + 1, x3, x6, x7, x8 => if x8 < x7 then (if 0 ≤ x8 then (if x8 < (x6.length : Int) then ((crc_More.f k x3 (rd_L4 x6 x8)).bind fun t112 => (crc_Of.l0 k t112 x6 x7 (wrap64 (x8 + 1)))) else (none)) else (none)) else (some x3)
def crc_Of.f (k : Nat) (l0 : List (List Int)) : Option (Int) := crc_Of.l0 k 0 l0 (l0.length : Int) 0
theorem crc_Of.mono_l : ∀ k, (∀ y0 y1 y2 y3, LeO (crc_Of.l0 k y0 y1 y2 y3) (crc_Of.l0 (k + 1) y0 y1 y2 y3))
  | 0 => fun _ _ _ _ r h => by simp [crc_Of.l0] at h
  | k + 1 => by
    have ih0 := crc_Of.mono_l k
    · intro y0 y1 y2 y3
      unfold crc_Of.l0
      repeat' first
      | (with_reducible exact ih0 _ _ _ _)
      | (with_reducible exact crc_More.mono _ _ _)
      | (with_reducible exact LeO.refl _)
      | (with_reducible exact LeO.none _)
      | (with_reducible refine LeO.ite ?_ ?_)
      | (with_reducible refine LeO.bind ?_ (fun _ => ?_))
      | exact ih0 _ _ _ _
      | exact crc_More.mono _ _ _
      | exact LeO.none _
      | refine LeO.ite ?_ ?_
      | refine LeO.bind ?_ (fun _ => ?_)
theorem crc_Of.mono : ∀ a0 k, LeO (crc_Of.f k a0) (crc_Of.f (k + 1) a0) := by
  intro a0 k
  have ih0 := crc_Of.mono_l k
  unfold crc_Of.f
  repeat' first
      | (with_reducible exact ih0 _ _ _ _)
      | (with_reducible exact crc_More.mono _ _ _)
      | (with_reducible exact LeO.refl _)
      | (with_reducible exact LeO.none _)
      | (with_reducible refine LeO.ite ?_ ?_)
      | (with_reducible refine LeO.bind ?_ (fun _ => ?_))
      | exact ih0 _ _ _ _
      | exact crc_More.mono _ _ _
      | exact LeO.none _
      | refine LeO.ite ?_ ?_
      | refine LeO.bind ?_ (fun _ => ?_)
set_option maxHeartbeats 8000000 in
set_option maxRecDepth 100000 in
theorem crc_Of.calls (k : Nat) (A0 : Option Addr) (c0 : Nat) (l0 : List (List Int)) (r : Int) (w : World) (hr0 : Kd.C (Kd.slice 5 (Kd.int .u8)) w A0 l0.length l0) (hc0 : l0.length ≤ c0) (h : crc_Of.f k l0 = some r) :
    Calls Try.prog 67 #[.slice A0 l0.length c0] w fun e w' => e = .returned (.int .u32 r) ∧ Drawn0 w w' := by
  have HR0 := Aside0.mk hr0
  have HC0 := Aside0.mk hc0
  clear hr0 hc0
  have H : (crc_Of.l0 k 0 l0 (l0.length : Int) 0) = some r := h
  clear h
  have H' := Aside0.mk H
  clear H
  go_enter Try.func67, Try.ntmps67
  go_wp2
  go_loopg [3, 8] k (fun kq v3 v8 w' => ∃ (x3_1 : Int) (x8_1 : Int), v3 = .int .u32 x3_1 ∧ v8 = .int .i64 x8_1 ∧ Aside0 (crc_Of.l0 kq x3_1 l0 (l0.length : Int) x8_1 = some r) ∧ Aside0 (kq ≤ k) ∧ Drawn0 w w')
  case atStart => exact ⟨(0), (0), (by first | rfl | (simp; done) | (simp [*]; done)), (by first | rfl | (simp; done) | (simp [*]; done)), H', ⟨Nat.le_refl _⟩, by repeat (first | exact Drawn0.refl _ | apply Drawn0.step)⟩
  case round =>
    clear H'
    obtain ⟨x3_1, x8_1, rfl, rfl, HA, HK1, ⟨m1, rfl⟩⟩ := hrel
    cases gk with
    | zero => exact absurd HA.out (by simp [crc_Of.l0])
    | succ k1 =>
      have H := HA.out
      clear HA
      simp only [crc_Of.l0] at H
      by_cases c2 : x8_1 < (l0.length : Int)
      · rw [if_pos c2] at H
        have c2b0 : decide (x8_1 < (l0.length : Int)) = true := decide_eq_true c2
        clear c2
        by_cases c3 : 0 ≤ x8_1
        · rw [if_pos c3] at H
          have c3b0 : decide (0 ≤ x8_1) = true := decide_eq_true c3
          clear c3
          by_cases c4 : x8_1 < (l0.length : Int)
          · rw [if_pos c4] at H
            have c4b0 : decide (x8_1 < (l0.length : Int)) = true := decide_eq_true c4
            clear c4
            replace H := Option.bind_eq_some_iff.mp H
            obtain ⟨t112, A50, H⟩ := H
            replace H : (crc_Of.l0 k1 t112 l0 (l0.length : Int) (wrap64 (x8_1 + 1))) = some r := H
            have A5 := Aside0.mk A50
            clear A50
            have H' := Aside0.mk H
            clear H
            have p111 : 0 ≤ (x8_1 : Int) := of_decide_eq_true (by first | (with_reducible assumption) | assumption)
            have q111 : x8_1 < (l0.length : Int) := of_decide_eq_true (by first | (with_reducible assumption) | assumption)
            obtain ⟨ad111, A111_0, c111_0, e111, hx111_0, hl111_0, hi111_0⟩ := at_L4 HR0.out x8_1 p111 q111
            cases e111
            have HR111_0 := Aside0.mk hi111_0
            have HC111_0 := Aside0.mk hl111_0
            clear hi111_0 hl111_0
            replace p111 := eq_true p111
            replace q111 := eq_true q111
            go_wp2_with (first | ((with_reducible refine gate_callee (f := 77) rfl ?_); refine goesL_ (some 14) rfl rfl Try.func77 (by kernel_rfl) rfl #[.int .u32 x3_1, .slice A111_0 (rd_L4 l0 x8_1).length c111_0] rfl (by (try simp only [List.map_toArray, List.map_cons, List.map_nil]); first | done | rfl | (simp only [List.length_drop, List.length_take]; rfl)) ?_; (with_reducible refine (crc_More.calls k1 x3_1 _ _ (rd_L4 l0 x8_1) t112 _ ?side1 ?side2 A5.out).mono ?_); (case side1 => repeat (first | exact HR111_0.out | (with_reducible refine Kd.C_alloc ?_ _) | (with_reducible refine Kd.C_drewN ?_ _) | (with_reducible refine Kd.C_drew ?_))); (case side2 => exact HC111_0.out); rintro e w' ⟨rfl, ⟨nd, rfl⟩⟩; refine ⟨_, rfl, ?_⟩))
            go_roundg k1
            case measure => have := HK1.out; omega
            case rel => exact ⟨(t112), (wrap64 (x8_1 + 1)), (by first | rfl | (simp; done) | (simp [*]; done)), (by first | rfl | (simp; done) | (simp [*]; done)), H', ⟨by have := HK1.out; omega⟩, by repeat (first | exact Drawn0.refl _ | apply Drawn0.step)⟩
          · rw [if_neg c4] at H
            exact absurd H (by simp)
        · rw [if_neg c3] at H
          exact absurd H (by simp)
      · rw [if_neg c2] at H
        have c2b0 : decide (x8_1 < (l0.length : Int)) = false := decide_eq_false c2
        clear c2
        obtain rfl := Option.some.inj H
        go_wp2
        go_ret
        exact ⟨by first | rfl | (simp; done) | (simp [*]; done), by repeat (first | exact Drawn0.refl _ | apply Drawn0.step)⟩

/-! ### frame_sumOf: function 42 -/
def frame_sumOf.f (k : Nat) (l0 : List Int) : Option (List Int) := (crc_Of.f k (([l0] : List (List Int)))).bind fun t116 => (some (([(t116) % 256, (t116 / 256) % 256, (t116 / 65536) % 256, (t116 / 16777216) % 256] : List Int)))
theorem frame_sumOf.mono : ∀ a0 k, LeO (frame_sumOf.f k a0) (frame_sumOf.f (k + 1) a0) := by
  intro a0 k
  unfold frame_sumOf.f
  repeat' first
      | (with_reducible exact crc_Of.mono _ _)
      | (with_reducible exact LeO.refl _)
      | (with_reducible exact LeO.none _)
      | (with_reducible refine LeO.ite ?_ ?_)
      | (with_reducible refine LeO.bind ?_ (fun _ => ?_))
      | exact crc_Of.mono _ _
      | exact LeO.none _
      | refine LeO.ite ?_ ?_
      | refine LeO.bind ?_ (fun _ => ?_)
set_option maxHeartbeats 8000000 in
set_option maxRecDepth 100000 in
theorem frame_sumOf.calls (k : Nat) (P0_ : Nat → Prop) (A0 : Option Addr) (c0 : Nat) (l0 : List Int) (r : List Int) (w : World) (hs0 : Kd.V (Kd.int .u8) 5 w w.heap.size (fun k_ => P0_ k_) (.slice A0 l0.length c0) l0) (h : frame_sumOf.f k l0 = some r) :
    Calls Try.prog 42 #[.slice A0 l0.length c0] w fun e w' => ∃ v0_ : Value, e = .returned (v0_) ∧ Kd.R (Kd.int .u8) 5 w' w.heap.size (fun k_ => (w.heap.size ≤ k_)) v0_ r ∧ Below w.heap.size w w' := by
  have HO0 := Aside0.mk (show Kd.V (Kd.int .u8) 5 w w.heap.size (fun k_ => (P0_ k_ ∨ w.heap.size ≤ k_)) (.slice A0 l0.length c0) l0 from Kd.V_mono hs0 (fun k_ hk => .inl hk))
  have HB := Aside0.mk (Below.refl w.heap.size w)
  have H : ((crc_Of.f k (([l0] : List (List Int)))).bind fun t116 => (some (([(t116) % 256, (t116 / 256) % 256, (t116 / 65536) % 256, (t116 / 16777216) % 256] : List Int)))) = some r := h
  clear h
  obtain ⟨y113, hy113⟩ : ∃ y_ : List (List Int), y_ = (([l0] : List (List Int))) := ⟨_, rfl⟩
  replace H : ((crc_Of.f k y113).bind fun t116 => (some (([(t116) % 256, (t116 / 256) % 256, (t116 / 65536) % 256, (t116 / 16777216) % 256] : List Int)))) = some r := by first | (rw [hy113]; with_reducible exact H) | (have H2_ := (Option.bind_some _ _).symm.trans H; rw [hy113]; with_reducible exact H2_) | (have H2_ := (Option.bind_some _ _).symm.trans H; with_reducible exact H2_) | with_reducible exact H | (rw [hy113]; exact H) | exact H
  have Ny113 := Aside0.mk hy113
  clear hy113
  replace H := Option.bind_eq_some_iff.mp H
  obtain ⟨t116, A20, H⟩ := H
  replace H : (some (([(t116) % 256, (t116 / 256) % 256, (t116 / 65536) % 256, (t116 / 16777216) % 256] : List Int))) = some r := H
  have A2 := Aside0.mk A20
  clear A20
  obtain ⟨y117, hy117⟩ : ∃ y_ : List Int, y_ = (([(t116) % 256, (t116 / 256) % 256, (t116 / 65536) % 256, (t116 / 16777216) % 256] : List Int)) := ⟨_, rfl⟩
  replace H : (some y117) = some r := by first | (rw [hy117]; with_reducible exact H) | (have H2_ := (Option.bind_some _ _).symm.trans H; rw [hy117]; with_reducible exact H2_) | (have H2_ := (Option.bind_some _ _).symm.trans H; with_reducible exact H2_) | with_reducible exact H | (rw [hy117]; exact H) | exact H
  have Ny117 := Aside0.mk hy117
  clear hy117
  obtain rfl := Option.some.inj H
  go_enter Try.func42, Try.ntmps42
  go_wp2_with (first | ((with_reducible refine gate_dst (N := 5) rfl ?_); refine Kd.N_lit (Kd.slice 5 (Kd.int .u8)) _ 22 ?hg (N' := 5) ?hd (xs := ([l0] : List (List Int))) (inner := [.slice A0 l0.length c0]) (ok := (fun k_ => (P0_ k_ ∨ w.heap.size ≤ k_))) (okp := (fun k_ => (P0_ k_ ∨ w.heap.size ≤ k_))) ?hr ?hp (fun _ hk => hk) ((show ∀ k_, w.heap.size ≤ k_ → (fun k_ => (P0_ k_ ∨ w.heap.size ≤ k_)) k_ from fun k_ hk => (.inr (Nat.le_trans (below_size (by repeat (first | (with_reducible first | exact HB.out | apply below_alloc | apply pw_below_drewN | apply below_drew1) | exact HB.out))) hk))) _ (Nat.le_refl _)) (Below.refl _ _) (Nat.le_refl _) (by simp) ?_; (case hd => rfl); (case hg => rfl); (case hr => first | (go_simp; done) | (go_simp; rfl)); (case hp => exact (Reps.one (show Kd.FK (Kd.slice 5 (Kd.int .u8)) _ _ l0 [.slice A0 l0.length c0] from (Kd.FK_slice_mk (Kd.V_reads' (Kd.V_mono (ok' := (fun k_ => (P0_ k_ ∨ w.heap.size ≤ k_))) (HO0.out) (fun k_ hk => hk))).2.1 (Kd.V_F (Kd.V_mono (ok' := (fun k_ => (P0_ k_ ∨ w.heap.size ≤ k_))) (HO0.out) (fun k_ hk => hk))))) (Reps.none _ _))); intro v114 w3 ho4 hb hg_ hnew_; clear hg_ hnew_; (first | rw [← Ny113.out] at ho4 | (simp only [Int.reduceToNat] at ho4; rw [← Ny113.out] at ho4)); have n0_ := Aside0.mk (Kd.V_elder' (by (with_reducible repeat (first | apply Kd.V_alloc | apply Kd.V_drewN | apply Kd.V_drew)); exact HO0.out) (Kd.N_base ho4) hb); have n1_ := Aside0.mk (Kd.N_lower ho4 (below_size (by repeat (first | (with_reducible first | exact HB.out | apply below_alloc | apply pw_below_drewN | apply below_drew1) | exact HB.out)))); have n2_ := Aside0.mk (below_step (by repeat (first | (with_reducible first | exact HB.out | apply below_alloc | apply pw_below_drewN | apply below_drew1) | exact HB.out)) hb); clear HO0; clear HB; have HO0 := n0_; have HO115 := n1_; have HB := n2_; clear n0_ n1_ n2_; clear hb ho4; obtain ⟨Ao5, co5, eo5⟩ := Kd.N_slice HO115.out; subst eo5) | ((with_reducible refine gate_callee (f := 67) rfl ?_); refine goesL_ (some 6) rfl rfl Try.func67 (by kernel_rfl) rfl #[.slice Ao5 y113.length co5] rfl (by (try simp only [List.map_toArray, List.map_cons, List.map_nil]); first | done | rfl | (simp only [List.length_drop, List.length_take]; rfl)) ?_; (with_reducible refine (crc_Of.calls k _ _ y113 t116 _ ?side1 ?side2 A2.out).mono ?_); (case side1 => repeat (first | exact (Kd.N_reads' HO115.out).2.2 | (with_reducible refine Kd.C_alloc ?_ _) | (with_reducible refine Kd.C_drewN ?_ _) | (with_reducible refine Kd.C_drew ?_))); (case side2 => exact (Kd.N_reads' HO115.out).2.1); rintro e w' ⟨rfl, ⟨nd, rfl⟩⟩; refine ⟨_, rfl, ?_⟩) | ((with_reducible refine gate_dst (N := 18) rfl ?_); refine Kd.R_lit (Kd.int .u8) _ 5 ?hg (N := 18) ?hd (xs := ([(t116) % 256, (t116 / 256) % 256, (t116 / 65536) % 256, (t116 / 16777216) % 256] : List Int)) (inner := [.int .u8 ((t116) % 256), .int .u8 ((t116 / 256) % 256), .int .u8 ((t116 / 65536) % 256), .int .u8 ((t116 / 16777216) % 256)]) (ok := fun _ => True) (okp := fun _ => True) ?hr ?hp (fun _ hk => hk) trivial (Below.refl _ _) (Nat.le_refl _) (by simp) ?_; (case hd => rfl); (case hg => rfl); (case hr => first | (go_simp; done) | (go_simp; rfl)); (case hp => exact (Reps.one (show Kd.M (Kd.int .u8) _ _ _ ((t116) % 256) [.int .u8 ((t116) % 256)] from rfl) (Reps.one (show Kd.M (Kd.int .u8) _ _ _ ((t116 / 256) % 256) [.int .u8 ((t116 / 256) % 256)] from rfl) (Reps.one (show Kd.M (Kd.int .u8) _ _ _ ((t116 / 65536) % 256) [.int .u8 ((t116 / 65536) % 256)] from rfl) (Reps.one (show Kd.M (Kd.int .u8) _ _ _ ((t116 / 16777216) % 256) [.int .u8 ((t116 / 16777216) % 256)] from rfl) (Reps.none _ _)))))); intro v118 w6 ho7 hb hg_ hnew_; clear hg_ hnew_; (first | rw [← Ny117.out] at ho7 | (simp only [Int.reduceToNat] at ho7; rw [← Ny117.out] at ho7)); have n0_ := Aside0.mk (Kd.V_elder' (by (with_reducible repeat (first | apply Kd.V_alloc | apply Kd.V_drewN | apply Kd.V_drew)); exact HO0.out) (Kd.R_base ho7) hb); have n1_ := Aside0.mk (Kd.N_elder' (by (with_reducible repeat (first | apply Kd.N_alloc | apply Kd.N_drewN | apply Kd.N_drew)); exact HO115.out) (Kd.R_base ho7) hb); have n2_ := Aside0.mk (Kd.R_lower (Kd.R_newM (M := fun k_ => (w.heap.size ≤ k_)) ho7 (below_size (by repeat (first | (with_reducible first | exact HB.out | apply below_alloc | apply pw_below_drewN | apply below_drew1) | exact HB.out))) (fun k_ h_ => h_)) (below_size (by repeat (first | (with_reducible first | exact HB.out | apply below_alloc | apply pw_below_drewN | apply below_drew1) | exact HB.out)))); have n3_ := Aside0.mk (below_step (by repeat (first | (with_reducible first | exact HB.out | apply below_alloc | apply pw_below_drewN | apply below_drew1) | exact HB.out)) hb); clear HO0; clear HO115; clear HB; have HO0 := n0_; have HO115 := n1_; have HO119 := n2_; have HB := n3_; clear n0_ n1_ n2_ n3_; clear hb ho7))
  go_ret
  exact ⟨_, by first | rfl | (simp [errW_none, errW_some] <;> rfl) | (simp [*, errW_none, errW_some] <;> rfl), by (with_reducible repeat (first | apply Kd.R_alloc | apply Kd.R_drewN | apply Kd.R_drew)); exact Kd.R_mono HO119.out (fun _ hk => hk.1), by repeat (first | (with_reducible first | exact HB.out | apply below_alloc | apply pw_below_drewN | apply below_drew1) | exact HB.out)⟩

/-! ### frame_Put: function 14 -/
def frame_Put.f (k : Nat) (l0 : List Int) : Option (List Int) := (vint_Num.f k (IntKind.u64.wrap ((l0.length : Int)))).bind fun t120 => ((frame_sumOf.f k l0).bind fun t123 => (if t120.length + t123.length < 140737488355328 then ((some (t120 ++ t123 : List Int)).bind fun y126 => (if y126.length + l0.length < 140737488355328 then (some (y126 ++ l0)) else (none))) else (none)))
theorem frame_Put.mono : ∀ a0 k, LeO (frame_Put.f k a0) (frame_Put.f (k + 1) a0) := by
  intro a0 k
  unfold frame_Put.f
  repeat' first
      | (with_reducible exact frame_sumOf.mono _ _)
      | (with_reducible exact vint_Num.mono _ _)
      | (with_reducible exact LeO.refl _)
      | (with_reducible exact LeO.none _)
      | (with_reducible refine LeO.ite ?_ ?_)
      | (with_reducible refine LeO.bind ?_ (fun _ => ?_))
      | exact frame_sumOf.mono _ _
      | exact vint_Num.mono _ _
      | exact LeO.none _
      | refine LeO.ite ?_ ?_
      | refine LeO.bind ?_ (fun _ => ?_)
set_option maxHeartbeats 8000000 in
set_option maxRecDepth 100000 in
theorem frame_Put.calls (k : Nat) (A0 : Option Addr) (c0 : Nat) (l0 : List Int) (r : List Int) (w : World) (hr0 : Kd.C (Kd.int .u8) w A0 l0.length l0) (hc0 : l0.length ≤ c0) (h : frame_Put.f k l0 = some r) :
    Calls Try.prog 14 #[.slice A0 l0.length c0] w fun e w' => ∃ v0_ : Value, e = .returned (v0_) ∧ Kd.R (Kd.int .u8) 5 w' w.heap.size (fun _ => True) v0_ r ∧ Below w.heap.size w w' := by
  have HR0 := Aside0.mk hr0
  have HC0 := Aside0.mk hc0
  clear hr0 hc0
  have HB := Aside0.mk (Below.refl w.heap.size w)
  have H : ((vint_Num.f k (IntKind.u64.wrap ((l0.length : Int)))).bind fun t120 => ((frame_sumOf.f k l0).bind fun t123 => (if t120.length + t123.length < 140737488355328 then ((some (t120 ++ t123 : List Int)).bind fun y126 => (if y126.length + l0.length < 140737488355328 then (some (y126 ++ l0)) else (none))) else (none)))) = some r := h
  clear h
  replace H := Option.bind_eq_some_iff.mp H
  obtain ⟨t120, A20, H⟩ := H
  replace H : ((frame_sumOf.f k l0).bind fun t123 => (if t120.length + t123.length < 140737488355328 then ((some (t120 ++ t123 : List Int)).bind fun y126 => (if y126.length + l0.length < 140737488355328 then (some (y126 ++ l0)) else (none))) else (none))) = some r := H
  have A2 := Aside0.mk A20
  clear A20
  replace H := Option.bind_eq_some_iff.mp H
  obtain ⟨t123, A30, H⟩ := H
  replace H : (if t120.length + t123.length < 140737488355328 then ((some (t120 ++ t123 : List Int)).bind fun y126 => (if y126.length + l0.length < 140737488355328 then (some (y126 ++ l0)) else (none))) else (none)) = some r := H
  have A3 := Aside0.mk A30
  clear A30
  by_cases c4 : t120.length + t123.length < 140737488355328
  · rw [if_pos c4] at H
    have LMc4 := Aside0.mk c4
    clear c4
    obtain ⟨y126, hy126⟩ : ∃ y_ : List Int, y_ = (t120 ++ t123) := ⟨_, rfl⟩
    replace H : (if y126.length + l0.length < 140737488355328 then (some (y126 ++ l0)) else (none)) = some r := by first | (rw [hy126]; with_reducible exact H) | (have H2_ := (Option.bind_some _ _).symm.trans H; rw [hy126]; with_reducible exact H2_) | (have H2_ := (Option.bind_some _ _).symm.trans H; with_reducible exact H2_) | with_reducible exact H | (rw [hy126]; exact H) | exact H
    have Ny126 := Aside0.mk hy126
    clear hy126
    by_cases c5 : y126.length + l0.length < 140737488355328
    · rw [if_pos c5] at H
      have LMc5 := Aside0.mk c5
      clear c5
      obtain ⟨y129, hy129⟩ : ∃ y_ : List Int, y_ = (y126 ++ l0) := ⟨_, rfl⟩
      replace H : (some y129) = some r := by first | (rw [hy129]; with_reducible exact H) | (have H2_ := (Option.bind_some _ _).symm.trans H; rw [hy129]; with_reducible exact H2_) | (have H2_ := (Option.bind_some _ _).symm.trans H; with_reducible exact H2_) | with_reducible exact H | (rw [hy129]; exact H) | exact H
      have Ny129 := Aside0.mk hy129
      clear hy129
      obtain rfl := Option.some.inj H
      go_enter Try.func14, Try.ntmps14
      go_wp2_with (first | ((with_reducible refine gate_callee (f := 41) rfl ?_); refine goesL_ (some 7) rfl rfl Try.func41 (by kernel_rfl) rfl #[.int .u64 (IntKind.u64.wrap ((l0.length : Int)))] rfl (by (try simp only [List.map_toArray, List.map_cons, List.map_nil]); first | done | rfl | (simp only [List.length_drop, List.length_take]; rfl)) ?_; (with_reducible refine (vint_Num.calls k (IntKind.u64.wrap ((l0.length : Int))) t120 _ A2.out).mono ?_); rintro e w6 ⟨v121, rfl, ho0, hb⟩; refine ⟨_, rfl, ?_⟩; have n0_ := Aside0.mk (Kd.R_lower ho0 (below_size (by repeat (first | (with_reducible first | exact HB.out | apply below_alloc | apply pw_below_drewN | apply below_drew1) | exact HB.out)))); have n1_ := Aside0.mk (below_step (by repeat (first | (with_reducible first | exact HB.out | apply below_alloc | apply pw_below_drewN | apply below_drew1) | exact HB.out)) hb); clear HB; have HO122 := n0_; have HB := n1_; clear n0_ n1_; (try clear hb); (try clear hb2); (try clear hk); (try clear hi); (try clear ho0)) | ((with_reducible refine gate_callee (f := 42) rfl ?_); refine goesL_ (some 10) rfl rfl Try.func42 (by kernel_rfl) rfl #[.slice A0 l0.length c0] rfl (by (try simp only [List.map_toArray, List.map_cons, List.map_nil]); first | done | rfl | (simp only [List.length_drop, List.length_take]; rfl)) ?_; (with_reducible refine (frame_sumOf.calls k (fun k_ => k_ < w.heap.size) _ _ l0 t123 _ ?side1 A3.out).mono ?_); (case side1 => exact Kd.V_mk HC0.out (Kd.F_below (Kd.C_F (Kd.heap_int .u8) HR0.out) (by repeat (first | (with_reducible first | exact HB.out | apply below_alloc | apply pw_below_drewN | apply below_drew1) | exact HB.out)))); rintro e w7 ⟨v124, rfl, ho0, hb⟩; refine ⟨_, rfl, ?_⟩; have n0_ := Aside0.mk (Kd.R_elder' (by (with_reducible repeat (first | apply Kd.R_alloc | apply Kd.R_drewN | apply Kd.R_drew)); exact HO122.out) (Kd.R_base ho0) hb); have n1_ := Aside0.mk (Kd.R_lower (Kd.R_new' (Kd.R_mono (ok' := fun k_ => True) ho0 (fun _ hk_ => trivial)) (Kd.R_lt (by (with_reducible repeat (first | apply Kd.R_alloc | apply Kd.R_drewN | apply Kd.R_drew)); exact HO122.out))) (below_size (by repeat (first | (with_reducible first | exact HB.out | apply below_alloc | apply pw_below_drewN | apply below_drew1) | exact HB.out)))); have n2_ := Aside0.mk (below_step (by repeat (first | (with_reducible first | exact HB.out | apply below_alloc | apply pw_below_drewN | apply below_drew1) | exact HB.out)) hb); clear HO122; clear HB; have HO122 := n0_; have HO125 := n1_; have HB := n2_; clear n0_ n1_ n2_; (try clear hb); (try clear hb2); (try clear hk); (try clear hi); (try clear ho0); obtain ⟨Ao9, co9, eo9⟩ := Kd.R_slice HO125.out; subst eo9) | ((with_reducible refine gate_builtin (b := .append) (xs := #[.tmp 8, .tmp 10]) rfl ?_); at_builtin; refine Kd.R_append_rows (Kd.int .u8) (w0 := w) w.heap.size rfl (.tmp 8) (.tmp 10) 22 5 (.int .u8 0) 1 rfl Try.underlying22 info5 rfl (by decide) (by omega) v121 t120 t123 _ _ _ (fun k_ => some k_ ≠ (.slice Ao9 t123.length co9 : Value).ownBlock) (fun _ => False) rfl rfl ?aO ?aR (fun _ _ h => h) (fun _ h => h.elim) ?aF ?aB ?aS ?aL ?_; (case aR => repeat (first | exact (Kd.R_reads' HO125.out).2.2 | (with_reducible refine Kd.C_alloc ?_ _) | (with_reducible refine Kd.C_drewN ?_ _) | (with_reducible refine Kd.C_drew ?_))); (case aB => exact (by repeat (first | (with_reducible first | exact HB.out | apply below_alloc | apply pw_below_drewN | apply below_drew1) | exact HB.out))); (case aF => exact (fun k_ hk => Kd.fresh' (Kd.R_lt (by (with_reducible repeat (first | apply Kd.R_alloc | apply Kd.R_drewN | apply Kd.R_drew)); exact HO125.out)) k_ hk)); (case aO => exact (by (with_reducible repeat (first | apply Kd.R_alloc | apply Kd.R_drewN | apply Kd.R_drew)); exact Kd.R_mono HO122.out (fun _ hk => hk.2))); (case aS => exact (below_size (by repeat (first | (with_reducible first | exact HB.out | apply below_alloc | apply pw_below_drewN | apply below_drew1) | exact HB.out)))); (case aL => have := LMc4.out; omega); intro v127 w8 ho hb hg hat; rw [← Ny126.out] at ho; have n0_ := Aside0.mk (Kd.R_after (ok := (fun _ => True)) (by (with_reducible repeat (first | apply Kd.R_alloc | apply Kd.R_drewN | apply Kd.R_drew)); exact HO125.out) hg hat); have n1_ := Aside0.mk (hb); have n2_ := Aside0.mk (ho); clear HO125; clear HB; clear HO122; have HO125 := n0_; have HB := n1_; have HO128 := n2_; clear n0_ n1_ n2_; clear ho hb hg hat) | ((with_reducible refine gate_builtin (b := .append) (xs := #[.tmp 12, .tmp 13]) rfl ?_); at_builtin; refine Kd.R_append_rows (Kd.int .u8) (w0 := w) w.heap.size rfl (.tmp 12) (.tmp 13) 22 5 (.int .u8 0) 1 rfl Try.underlying22 info5 rfl (by decide) (by omega) v127 y126 l0 _ _ _ (fun k_ => some k_ ≠ (.slice Ao9 t123.length co9 : Value).ownBlock) (fun _ => False) rfl rfl ?aO ?aR (fun _ _ h => h) (fun _ h => h.elim) ?aF ?aB ?aS ?aL ?_; (case aR => repeat (first | exact (Kd.C_below HR0.out HB.out) | (with_reducible refine Kd.C_alloc ?_ _) | (with_reducible refine Kd.C_drewN ?_ _) | (with_reducible refine Kd.C_drew ?_))); (case aB => exact (by repeat (first | (with_reducible first | exact HB.out | apply below_alloc | apply pw_below_drewN | apply below_drew1) | exact HB.out))); (case aF => exact (fun k_ hk => Kd.fresh' (Kd.R_lt (by (with_reducible repeat (first | apply Kd.R_alloc | apply Kd.R_drewN | apply Kd.R_drew)); exact HO125.out)) k_ hk)); (case aO => exact (by (with_reducible repeat (first | apply Kd.R_alloc | apply Kd.R_drewN | apply Kd.R_drew)); exact HO128.out)); (case aS => exact (below_size (by repeat (first | (with_reducible first | exact HB.out | apply below_alloc | apply pw_below_drewN | apply below_drew1) | exact HB.out)))); (case aL => have := LMc5.out; omega); intro v130 w10 ho hb hg hat; rw [← Ny129.out] at ho; have n0_ := Aside0.mk (Kd.R_after (ok := (fun _ => True)) (by (with_reducible repeat (first | apply Kd.R_alloc | apply Kd.R_drewN | apply Kd.R_drew)); exact HO125.out) hg hat); have n1_ := Aside0.mk (hb); have n2_ := Aside0.mk (ho); clear HO125; clear HB; clear HO128; have HO125 := n0_; have HB := n1_; have HO131 := n2_; clear n0_ n1_ n2_; clear ho hb hg hat))
      go_ret
      exact ⟨_, by first | rfl | (simp [errW_none, errW_some] <;> rfl) | (simp [*, errW_none, errW_some] <;> rfl), by (with_reducible repeat (first | apply Kd.R_alloc | apply Kd.R_drewN | apply Kd.R_drew)); exact Kd.R_mono HO131.out (fun _ hk => trivial), by repeat (first | (with_reducible first | exact HB.out | apply below_alloc | apply pw_below_drewN | apply below_drew1) | exact HB.out)⟩
    · rw [if_neg c5] at H
      exact absurd H (by simp)
  · rw [if_neg c4] at H
    exact absurd H (by simp)

end Go.Proofs.Ythcmokglgepgjaa.X
/- The contract of (*vint.Source).Fail: it failed, and has nothing left. -/
namespace Go.Proofs.Ythcmokglgepgjaa.X
open Go.RowKit Go.Proofs.YthcmokglgepgjaaW.PrintWords Go.Proofs.YthcmokglgepgjaaW.PrintLast Go.Proofs.YthcmokglgepgjaaW.PrintMore
set_option linter.unusedVariables false
set_option linter.unusedSimpArgs false
def vint_Source_Fail.f (l : List Int) (bad : Bool) : Option (List Int × Bool) := some ([], true)
set_option maxHeartbeats 8000000 in
set_option maxRecDepth 100000 in
theorem vint_Source_Fail.calls (g : Nat) (s0_0 : List Int) (s0_1 : Bool) (r1 : List Int) (r2 : Bool) (w0 w : World) (hI : IsS90 w0 w g s0_0 s0_1) (hB : Below w0.heap.size w0 w) (h : vint_Source_Fail.f s0_0 s0_1 = some (r1, r2)) :
    Calls Try.prog 62 #[.pointer (some ⟨g, 0, none⟩)] w fun e w' => e = .returned (.tuple #[]) ∧ IsS90 w0 w' g r1 r2 ∧ Below w0.heap.size w0 w' ∧ KeepBut w w' g none := by
  obtain ⟨rfl, rfl⟩ : [] = r1 ∧ true = r2 := by unfold vint_Source_Fail.f at h; injection h with h; injection h with h1 h2; exact ⟨h1, h2⟩
  clear h
  obtain ⟨A0, c0, hb, hg, hr⟩ := hI
  have hne : ∀ w : World, (binOp .neq 65 (.pointer (some ⟨g, 0, none⟩)) (.pointer none)).run Try.prog w = .ok (.bool true) w := fun w => run_neq_pointer_nil w 65 (some ⟨g, 0, none⟩) (by kernel_rfl)
  have h0 : w.cell? ⟨g, 0, none⟩ = some (.slice A0 s0_0.length c0) := (blk_cell hb 0).trans rfl
  have h1 : w.cell? ⟨g, 1, none⟩ = some (.bool s0_1) := (blk_cell hb 1).trans rfl
  have f0 := blk_frozen hb 0
  have f1 := blk_frozen hb 1
  have hu := Try.underlying90
  have HB := Aside0.mk hb
  clear hb
  go_enter Try.func62, Try.ntmps62
  go_wp2
  go_end0
  have h2 := blk_set (blk_set HB.out 1 (.bool true)) 0 (.slice none 0 0)
  refine ⟨rfl, ⟨none, 0, by simpa using h2, hg, Kd.C_nil _ _, Nat.le_refl _⟩, below_set (below_set hB hg) hg, ?_⟩
  exact KeepBut.set_ (KeepBut.set_ (KeepBut.refl _ _ _) 1 _) 0 _
end Go.Proofs.Ythcmokglgepgjaa.X
-- Printed for this claim by a program of this session (wip/xprint.py) over the kit's printer; Lean checks it.
namespace Go.Proofs.Ythcmokglgepgjaa.X
open Go.RowKit Go.Proofs.YthcmokglgepgjaaW.PrintWords Go.Proofs.YthcmokglgepgjaaW.PrintLast Go.Proofs.YthcmokglgepgjaaW.PrintMore
attribute [local go_sem] max2_int min2_int max_two min_two max_three min_three max_four min_four   -- for this text's walks alone
set_option linter.unusedVariables false
set_option linter.unusedSimpArgs false

/-! ### vint_size: function 78 -/
mutual
def vint_size.l0 : Nat → List Int → Int → Int → Option (Int)
  | 0, _, _, _ => none
  | k + 1, x5, x6, x7 => if x7 < x6 then (if 0 ≤ x7 then (if x7 < (x5.length : Int) then (if x7 = 9 then (vint_size.j1 k x7 (rd x5 x7) x5 x6 x7 (decide ((rd x5 x7) > 1))) else (vint_size.j1 k x7 (rd x5 x7) x5 x6 x7 false)) else (none)) else (none)) else (some 0)
def vint_size.j1 : Nat → Int → Int → List Int → Int → Int → Bool → Option (Int)
  | 0, _, _, _, _, _, _ => none
  | k + 1, x3, x4, x5, x6, x7, x12 => if x12 = true then (vint_size.j2 k x3 x4 x5 x6 x7 x12) else (if x3 > 0 then (vint_size.j2 k x3 x4 x5 x6 x7 (x4 == 0)) else (vint_size.j2 k x3 x4 x5 x6 x7 false))
def vint_size.j2 : Nat → Int → Int → List Int → Int → Int → Bool → Option (Int)
  | 0, _, _, _, _, _, _ => none
  | k + 1, x3, x4, x5, x6, x7, x12 => if x12 = true then (some 0) else (if x4 < 128 then (some (wrap64 (x3 + 1))) else (if x3 = 9 then (some 0) else (vint_size.l0 k x5 x6 (wrap64 (x7 + 1)))))
end
def vint_size.f (k : Nat) (l0 : List Int) : Option (Int) := vint_size.l0 k l0 (l0.length : Int) 0
theorem vint_size.mono_l : ∀ k, (∀ y0 y1 y2, LeO (vint_size.l0 k y0 y1 y2) (vint_size.l0 (k + 1) y0 y1 y2)) ∧ (∀ y0 y1 y2 y3 y4 y5, LeO (vint_size.j1 k y0 y1 y2 y3 y4 y5) (vint_size.j1 (k + 1) y0 y1 y2 y3 y4 y5)) ∧ (∀ y0 y1 y2 y3 y4 y5, LeO (vint_size.j2 k y0 y1 y2 y3 y4 y5) (vint_size.j2 (k + 1) y0 y1 y2 y3 y4 y5))
  | 0 => ⟨fun _ _ _ r h => by simp [vint_size.l0] at h, fun _ _ _ _ _ _ r h => by simp [vint_size.j1] at h, fun _ _ _ _ _ _ r h => by simp [vint_size.j2] at h⟩
  | k + 1 => by
    obtain ⟨ih0, ih1, ih2⟩ := vint_size.mono_l k
    refine ⟨?_, ?_, ?_⟩
    · intro y0 y1 y2
      unfold vint_size.l0
      repeat' first
      | (with_reducible exact ih0 _ _ _)
      | (with_reducible exact ih1 _ _ _ _ _ _)
      | (with_reducible exact ih2 _ _ _ _ _ _)
      | (with_reducible exact LeO.refl _)
      | (with_reducible exact LeO.none _)
      | (with_reducible refine LeO.ite ?_ ?_)
      | (with_reducible refine LeO.bind ?_ (fun _ => ?_))
      | exact ih0 _ _ _
      | exact ih1 _ _ _ _ _ _
      | exact ih2 _ _ _ _ _ _
      | exact LeO.none _
      | refine LeO.ite ?_ ?_
      | refine LeO.bind ?_ (fun _ => ?_)
    · intro y0 y1 y2 y3 y4 y5
      unfold vint_size.j1
      repeat' first
      | (with_reducible exact ih0 _ _ _)
      | (with_reducible exact ih1 _ _ _ _ _ _)
      | (with_reducible exact ih2 _ _ _ _ _ _)
      | (with_reducible exact LeO.refl _)
      | (with_reducible exact LeO.none _)
      | (with_reducible refine LeO.ite ?_ ?_)
      | (with_reducible refine LeO.bind ?_ (fun _ => ?_))
      | exact ih0 _ _ _
      | exact ih1 _ _ _ _ _ _
      | exact ih2 _ _ _ _ _ _
      | exact LeO.none _
      | refine LeO.ite ?_ ?_
      | refine LeO.bind ?_ (fun _ => ?_)
    · intro y0 y1 y2 y3 y4 y5
      unfold vint_size.j2
      repeat' first
      | (with_reducible exact ih0 _ _ _)
      | (with_reducible exact ih1 _ _ _ _ _ _)
      | (with_reducible exact ih2 _ _ _ _ _ _)
      | (with_reducible exact LeO.refl _)
      | (with_reducible exact LeO.none _)
      | (with_reducible refine LeO.ite ?_ ?_)
      | (with_reducible refine LeO.bind ?_ (fun _ => ?_))
      | exact ih0 _ _ _
      | exact ih1 _ _ _ _ _ _
      | exact ih2 _ _ _ _ _ _
      | exact LeO.none _
      | refine LeO.ite ?_ ?_
      | refine LeO.bind ?_ (fun _ => ?_)
theorem vint_size.mono : ∀ a0 k, LeO (vint_size.f k a0) (vint_size.f (k + 1) a0) := by
  intro a0 k
  obtain ⟨ih0, ih1, ih2⟩ := vint_size.mono_l k
  unfold vint_size.f
  repeat' first
      | (with_reducible exact ih0 _ _ _)
      | (with_reducible exact ih1 _ _ _ _ _ _)
      | (with_reducible exact ih2 _ _ _ _ _ _)
      | (with_reducible exact LeO.refl _)
      | (with_reducible exact LeO.none _)
      | (with_reducible refine LeO.ite ?_ ?_)
      | (with_reducible refine LeO.bind ?_ (fun _ => ?_))
      | exact ih0 _ _ _
      | exact ih1 _ _ _ _ _ _
      | exact ih2 _ _ _ _ _ _
      | exact LeO.none _
      | refine LeO.ite ?_ ?_
      | refine LeO.bind ?_ (fun _ => ?_)
set_option maxHeartbeats 8000000 in
set_option maxRecDepth 100000 in
theorem vint_size.calls (k : Nat) (A0 : Option Addr) (c0 : Nat) (l0 : List Int) (r : Int) (w : World) (hr0 : Kd.C (Kd.int .u8) w A0 l0.length l0) (hc0 : l0.length ≤ c0) (h : vint_size.f k l0 = some r) :
    Calls Try.prog 78 #[.slice A0 l0.length c0] w fun e w' => e = .returned (.int .i64 r) ∧ Drawn0 w w' := by
  have HR0 := Aside0.mk hr0
  have HC0 := Aside0.mk hc0
  clear hr0 hc0
  have H : (vint_size.l0 k l0 (l0.length : Int) 0) = some r := h
  clear h
  have H' := Aside0.mk H
  clear H
  go_enter Try.func78, Try.ntmps78
  go_wp2
  go_loopg [7] k (fun kq v7 w' => ∃ (x7_1 : Int), v7 = .int .i64 x7_1 ∧ Aside0 (vint_size.l0 kq l0 (l0.length : Int) x7_1 = some r) ∧ Aside0 (kq ≤ k) ∧ Drawn0 w w')
  case atStart => exact ⟨(0), (by first | rfl | (simp; done) | (simp [*]; done)), H', ⟨Nat.le_refl _⟩, by repeat (first | exact Drawn0.refl _ | apply Drawn0.step)⟩
  case round =>
    clear H'
    obtain ⟨x7_1, rfl, HA, HK1, ⟨m1, rfl⟩⟩ := hrel
    cases gk with
    | zero => exact absurd HA.out (by simp [vint_size.l0])
    | succ k1 =>
      have H := HA.out
      clear HA
      simp only [vint_size.l0] at H
      by_cases c2 : x7_1 < (l0.length : Int)
      · rw [if_pos c2] at H
        have c2b0 : decide (x7_1 < (l0.length : Int)) = true := decide_eq_true c2
        clear c2
        by_cases c3 : 0 ≤ x7_1
        · rw [if_pos c3] at H
          have c3b0 : decide (0 ≤ x7_1) = true := decide_eq_true c3
          clear c3
          by_cases c4 : x7_1 < (l0.length : Int)
          · rw [if_pos c4] at H
            have c4b0 : decide (x7_1 < (l0.length : Int)) = true := decide_eq_true c4
            clear c4
            have HC5 := Aside0.mk H
            clear H
            have p132 : 0 ≤ (x7_1 : Int) := of_decide_eq_true (by first | (with_reducible assumption) | assumption)
            have q132 : x7_1 < (l0.length : Int) := of_decide_eq_true (by first | (with_reducible assumption) | assumption)
            obtain ⟨ad132, e132, hx132_0⟩ := Kd.at_int HR0.out x7_1 p132 q132
            cases e132
            replace p132 := eq_true p132
            replace q132 := eq_true q132
            go_upto_region 4 with (fail)
            go_cut [12] (fun v12 wc => ∃ (kq : Nat) (x12_4 : Bool), v12 = .bool x12_4 ∧ Aside0 (vint_size.j1 kq x7_1 (rd l0 x7_1) l0 (l0.length : Int) x7_1 x12_4 = some r) ∧ Aside0 (kq ≤ k1) ∧ Drawn0 w wc)
            case first =>
              have H := HC5.out
              clear HC5
              by_cases c6 : x7_1 = 9
              · rw [if_pos c6] at H
                have c6b0 : (x7_1 == 9) = true := beq_iff_eq.mpr c6
                have c6b1 : (x7_1 != 9) = false := bne_eq_false_iff_eq.mpr c6
                clear c6
                (first | rw [c6b0] | (simp only [i64_w, i32_w]; rw [c6b0]) | skip)
                have H' := Aside0.mk H
                clear H
                go_wp2
                go_meet
                case rel => exact ⟨_, (decide ((rd l0 x7_1) > 1)), (by first | rfl | (simp; done) | (simp [*]; done)), H', ⟨by have := HK1.out; first | omega | exact Nat.le_refl _⟩, by repeat (first | exact Drawn0.refl _ | apply Drawn0.step)⟩
              · rw [if_neg c6] at H
                have c6b0 : (x7_1 == 9) = false := beq_eq_false_iff_ne.mpr c6
                have c6b1 : (x7_1 != 9) = true := bne_iff_ne.mpr c6
                (first | rw [c6b0] | (simp only [i64_w, i32_w]; rw [c6b0]) | skip)
                have H' := Aside0.mk H
                clear H
                go_wp2
                go_meet
                case rel => exact ⟨_, (false), (by first | rfl | (simp; done) | (simp [*]; done)), H', ⟨by have := HK1.out; first | omega | exact Nat.le_refl _⟩, by repeat (first | exact Drawn0.refl _ | apply Drawn0.step)⟩
            case rest =>
              clear HC5
              try clear p1
              try clear q1
              try clear hx1
              try clear c2
              try clear c2b0
              try clear p2
              try clear c3
              try clear c3b0
              try clear c4
              try clear c4b0
              try clear c6
              try clear c6b0
              try clear c6b1
              try clear hx132_0
              try clear p132
              try clear q132
              obtain ⟨kq, x12_4, rfl, HA, HJ4, ⟨mc4, rfl⟩⟩ := hcut
              cases kq with
              | zero => exact absurd HA.out (by simp [vint_size.j1])
              | succ kj4 =>
                have H := HA.out
                clear HA
                simp only [vint_size.j1] at H
                have HC7 := Aside0.mk H
                clear H
                go_upto_if 12 with (fail)
                go_cut [12] (fun v12 wc => ∃ (kq : Nat) (x12_6 : Bool), v12 = .bool x12_6 ∧ Aside0 (vint_size.j2 kq x7_1 (rd l0 x7_1) l0 (l0.length : Int) x7_1 x12_6 = some r) ∧ Aside0 (kq ≤ kj4) ∧ Drawn0 w wc)
                case first =>
                  have H := HC7.out
                  clear HC7
                  by_cases c8 : x12_4 = true
                  · subst c8
                    have H1 : (vint_size.j2 kj4 x7_1 (rd l0 x7_1) l0 (l0.length : Int) x7_1 true) = some r := by rw [if_pos rfl] at H; exact H
                    clear H
                    have H := H1
                    clear H1
                    have H' := Aside0.mk H
                    clear H
                    go_wp2
                    go_meet
                    case rel => exact ⟨_, (true), (by first | rfl | (simp; done) | (simp [*]; done)), H', ⟨by have := HK1.out; have := HJ4.out; first | omega | exact Nat.le_refl _⟩, by repeat (first | exact Drawn0.refl _ | apply Drawn0.step)⟩
                  · replace c8 := Bool.eq_false_iff.mpr c8
                    subst c8
                    have H1 : (if x7_1 > 0 then (vint_size.j2 kj4 x7_1 (rd l0 x7_1) l0 (l0.length : Int) x7_1 ((rd l0 x7_1) == 0)) else (vint_size.j2 kj4 x7_1 (rd l0 x7_1) l0 (l0.length : Int) x7_1 false)) = some r := by rw [if_neg (show ¬ (false = true) by decide)] at H; exact H
                    clear H
                    have H := H1
                    clear H1
                    by_cases c9 : x7_1 > 0
                    · rw [if_pos c9] at H
                      have c9b0 : decide (0 < x7_1) = true := decide_eq_true c9
                      clear c9
                      (first | rw [c9b0] | (simp only [i64_w, i32_w]; rw [c9b0]) | skip)
                      have H' := Aside0.mk H
                      clear H
                      go_wp2
                      go_meet
                      case rel => exact ⟨_, (((rd l0 x7_1) == 0)), (by first | rfl | (simp; done) | (simp [*]; done)), H', ⟨by have := HK1.out; have := HJ4.out; first | omega | exact Nat.le_refl _⟩, by repeat (first | exact Drawn0.refl _ | apply Drawn0.step)⟩
                    · rw [if_neg c9] at H
                      have c9b0 : decide (0 < x7_1) = false := decide_eq_false c9
                      clear c9
                      (first | rw [c9b0] | (simp only [i64_w, i32_w]; rw [c9b0]) | skip)
                      have H' := Aside0.mk H
                      clear H
                      go_wp2
                      go_meet
                      case rel => exact ⟨_, (false), (by first | rfl | (simp; done) | (simp [*]; done)), H', ⟨by have := HK1.out; have := HJ4.out; first | omega | exact Nat.le_refl _⟩, by repeat (first | exact Drawn0.refl _ | apply Drawn0.step)⟩
                case rest =>
                  clear HC7
                  try clear p1
                  try clear q1
                  try clear hx1
                  try clear c2
                  try clear c2b0
                  try clear p2
                  try clear c3
                  try clear c3b0
                  try clear c4
                  try clear c4b0
                  try clear c6
                  try clear c6b0
                  try clear c6b1
                  try clear c7
                  try clear c8
                  try clear c9
                  try clear c9b0
                  try clear hx132_0
                  try clear p1
                  try clear p132
                  try clear p2
                  try clear q1
                  try clear q132
                  obtain ⟨kq, x12_6, rfl, HA, HJ6, ⟨mc6, rfl⟩⟩ := hcut
                  cases kq with
                  | zero => exact absurd HA.out (by simp [vint_size.j2])
                  | succ kj6 =>
                    have H := HA.out
                    clear HA
                    simp only [vint_size.j2] at H
                    by_cases c10 : x12_6 = true
                    · subst c10
                      have H1 : (some 0) = some r := by rw [if_pos rfl] at H; exact H
                      clear H
                      have H := H1
                      clear H1
                      obtain rfl := Option.some.inj H
                      go_wp2
                      go_ret
                      exact ⟨by first | rfl | (simp; done) | (simp [*]; done), by repeat (first | exact Drawn0.refl _ | apply Drawn0.step)⟩
                    · replace c10 := Bool.eq_false_iff.mpr c10
                      subst c10
                      have H1 : (if (rd l0 x7_1) < 128 then (some (wrap64 (x7_1 + 1))) else (if x7_1 = 9 then (some 0) else (vint_size.l0 kj6 l0 (l0.length : Int) (wrap64 (x7_1 + 1))))) = some r := by rw [if_neg (show ¬ (false = true) by decide)] at H; exact H
                      clear H
                      have H := H1
                      clear H1
                      by_cases c11 : (rd l0 x7_1) < 128
                      · rw [if_pos c11] at H
                        have c11b0 : decide ((rd l0 x7_1) < 128) = true := decide_eq_true c11
                        clear c11
                        obtain rfl := Option.some.inj H
                        go_wp2
                        go_ret
                        exact ⟨by first | rfl | (simp; done) | (simp [*]; done), by repeat (first | exact Drawn0.refl _ | apply Drawn0.step)⟩
                      · rw [if_neg c11] at H
                        have c11b0 : decide ((rd l0 x7_1) < 128) = false := decide_eq_false c11
                        clear c11
                        by_cases c12 : x7_1 = 9
                        · rw [if_pos c12] at H
                          have c12b0 : (x7_1 == 9) = true := beq_iff_eq.mpr c12
                          have c12b1 : (x7_1 != 9) = false := bne_eq_false_iff_eq.mpr c12
                          clear c12
                          obtain rfl := Option.some.inj H
                          go_wp2
                          go_ret
                          exact ⟨by first | rfl | (simp; done) | (simp [*]; done), by repeat (first | exact Drawn0.refl _ | apply Drawn0.step)⟩
                        · rw [if_neg c12] at H
                          have c12b0 : (x7_1 == 9) = false := beq_eq_false_iff_ne.mpr c12
                          have c12b1 : (x7_1 != 9) = true := bne_iff_ne.mpr c12
                          have H' := Aside0.mk H
                          clear H
                          go_wp2
                          go_roundg kj6
                          case measure => have := HK1.out; have := HJ4.out; have := HJ6.out; omega
                          case rel => exact ⟨(wrap64 (x7_1 + 1)), (by first | rfl | (simp; done) | (simp [*]; done)), H', ⟨by have := HK1.out; have := HJ4.out; have := HJ6.out; omega⟩, by repeat (first | exact Drawn0.refl _ | apply Drawn0.step)⟩
          · rw [if_neg c4] at H
            exact absurd H (by simp)
        · rw [if_neg c3] at H
          exact absurd H (by simp)
      · rw [if_neg c2] at H
        have c2b0 : decide (x7_1 < (l0.length : Int)) = false := decide_eq_false c2
        clear c2
        obtain rfl := Option.some.inj H
        go_wp2
        go_ret
        exact ⟨by first | rfl | (simp; done) | (simp [*]; done), by repeat (first | exact Drawn0.refl _ | apply Drawn0.step)⟩

end Go.Proofs.Ythcmokglgepgjaa.X
/- The contract of (*vint.Source).Ok: whether it did not fail; the source stays as it is. -/
namespace Go.Proofs.Ythcmokglgepgjaa.X
open Go.RowKit Go.Proofs.YthcmokglgepgjaaW.PrintWords Go.Proofs.YthcmokglgepgjaaW.PrintLast Go.Proofs.YthcmokglgepgjaaW.PrintMore
set_option linter.unusedVariables false
set_option linter.unusedSimpArgs false
def vint_Source_Ok.f (l : List Int) (bad : Bool) : Option (Bool × List Int × Bool) := some (!bad, l, bad)
set_option maxHeartbeats 8000000 in
set_option maxRecDepth 100000 in
theorem vint_Source_Ok.calls (g : Nat) (s0_0 : List Int) (s0_1 : Bool) (r1 : Bool) (r2 : List Int) (r3 : Bool) (w0 w : World) (hI : IsS90 w0 w g s0_0 s0_1) (hB : Below w0.heap.size w0 w) (h : vint_Source_Ok.f s0_0 s0_1 = some (r1, r2, r3)) :
    Calls Try.prog 46 #[.pointer (some ⟨g, 0, none⟩)] w fun e w' => e = .returned (.bool r1) ∧ IsS90 w0 w' g r2 r3 ∧ Below w0.heap.size w0 w' ∧ KeepBut w w' g none := by
  obtain ⟨rfl, rfl, rfl⟩ : (!s0_1) = r1 ∧ s0_0 = r2 ∧ s0_1 = r3 := by unfold vint_Source_Ok.f at h; injection h with h; injection h with h1 h; injection h with h2 h3; exact ⟨h1, h2, h3⟩
  clear h
  have HI := Aside0.mk hI
  obtain ⟨A0, c0, hb, hg, hr⟩ := hI
  have hne : ∀ w : World, (binOp .neq 65 (.pointer (some ⟨g, 0, none⟩)) (.pointer none)).run Try.prog w = .ok (.bool true) w := fun w => run_neq_pointer_nil w 65 (some ⟨g, 0, none⟩) (by kernel_rfl)
  have h1 : w.cell? ⟨g, 1, none⟩ = some (.bool s0_1) := (blk_cell hb 1).trans rfl
  have hu := Try.underlying90
  clear hb hr hg
  go_enter Try.func46, Try.ntmps46
  go_wp2
  go_ret
  exact ⟨rfl, HI.out, hB, KeepBut.refl _ _ _⟩
end Go.Proofs.Ythcmokglgepgjaa.X
/- The contract of (*vint.Source).Num: the number that the bytes begin with, and what is left behind it; or it failed. -/
namespace Go.Proofs.Ythcmokglgepgjaa.X
open Go.RowKit Go.Proofs.YthcmokglgepgjaaW.PrintWords Go.Proofs.YthcmokglgepgjaaW.PrintLast Go.Proofs.YthcmokglgepgjaaW.PrintMore
set_option linter.unusedVariables false
set_option linter.unusedSimpArgs false
open Go.Proofs.Ythcmokglgepgjaa.Dec
def vint_Source_Num.f (l : List Int) (bad : Bool) : Option (Int × List Int × Bool) := if Fit l then some (numS l bad) else none
theorem size_loop (l : List Int) (hb : IsBytes l) (hl : l.length < 1000000000000) (d : Nat) : ∀ (k i : Nat), i + d = 10 → 1 ≤ d → 3 * d < k →
    vint_size.l0 k l (l.length : Int) (i : Int) = some ((szS i (l.drop i) : Nat) : Int) := by
  induction d with
  | zero => intro k i h1 h2; omega
  | succ d ih =>
    intro k i hd _ hk
    obtain ⟨k, rfl⟩ : ∃ m, k = m + 3 := ⟨k - 3, by omega⟩
    rw [vint_size.l0]
    by_cases hi : i < l.length
    · have hc := hb.get i
      rw [if_pos (by omega), if_pos (by omega), if_pos (by omega), drop_get hi]
      have hrd : rd l (i : Int) = l.getD i 0 := rfl
      rw [hrd]
      generalize l.getD i 0 = c at hc
      have hw : wrap64 ((i : Int) + 1) = ((i + 1 : Nat) : Int) := by rw [w64 (by omega) (by omega)]; omega
      have hs (hn : ¬ ((i = 9 ∧ 1 < c) ∨ (0 < i ∧ c = 0))) : szS i (c :: l.drop (i + 1)) = if c < 128 then i + 1 else if i = 9 then 0 else szS (i + 1) (l.drop (i + 1)) := by rw [szS, if_neg hn]
      have hz (hn : (i = 9 ∧ 1 < c) ∨ (0 < i ∧ c = 0)) : szS i (c :: l.drop (i + 1)) = 0 := by rw [szS, if_pos hn]
      by_cases h9 : i = 9
      · have h9' : (i : Int) = 9 := by omega
        rw [if_pos h9']
        by_cases hc1 : 1 < c
        · rw [decide_eq_true (by omega : c > 1), vint_size.j1, if_pos rfl, vint_size.j2, if_pos rfl, hz (by omega)]
          rfl
        · rw [decide_eq_false (by omega : ¬ c > 1), vint_size.j1, if_neg (by decide), if_pos (by omega)]
          by_cases hc0 : c = 0
          · rw [hz (by omega), hc0, beq_self_eq_true, vint_size.j2, if_pos rfl]; rfl
          · rw [hs (by omega), beq_eq_false_iff_ne.mpr hc0, vint_size.j2, if_neg (by decide), if_pos (by omega : c < 128), if_pos (by omega : c < 128), hw]
      · have h9' : ¬ (i : Int) = 9 := by omega
        rw [if_neg h9', vint_size.j1, if_neg (by decide)]
        by_cases hi0 : i = 0
        · rw [if_neg (by omega), vint_size.j2, if_neg (by decide), hs (by omega)]
          by_cases hc8 : c < 128
          · rw [if_pos hc8, if_pos hc8, hw]
          · rw [if_neg hc8, if_neg hc8, if_neg h9', if_neg h9, hw, ih k (i + 1) (by omega) (by omega) (by omega)]
        · rw [if_pos (by omega)]
          by_cases hc0 : c = 0
          · rw [hz (by omega), hc0, beq_self_eq_true, vint_size.j2, if_pos rfl]; rfl
          · rw [hs (by omega), beq_eq_false_iff_ne.mpr hc0, vint_size.j2, if_neg (by decide)]
            by_cases hc8 : c < 128
            · rw [if_pos hc8, if_pos hc8, hw]
            · rw [if_neg hc8, if_neg hc8, if_neg h9', if_neg h9, hw, ih k (i + 1) (by omega) (by omega) (by omega)]
    · rw [if_neg (by omega), List.drop_eq_nil_of_le (by omega)]; rfl
theorem size_is (l : List Int) (h : Fit l) : vint_size.f 40 l = some ((szS 0 l : Nat) : Int) := by
  unfold vint_size.f
  have := size_loop l h.1 h.2 10 40 0 (by omega) (by omega) (by omega)
  rw [List.drop_zero] at this
  exact this
theorem low_seven (c : Int) (h0 : 0 ≤ c) (h1 : c < 256) : Go.bits .andNot .u8 c 128 = ((c.toNat % 128 : Nat) : Int) := by
  rw [u8_andNot _ _ h0 h1 (by omega) (by omega), show 255 - (128 : Int).toNat = 2 ^ 7 - 1 by decide, Nat.and_two_pow_sub_one_eq_mod]
theorem or_step {l : List Int} (hb : IsBytes l) {j : Nat} (hj : j < szS 0 l) :
    Go.bits .or .u64 ((valS 0 (l.take j) : Nat) : Int) (IntKind.u64.wrap (IntKind.u64.wrap (Go.bits .andNot .u8 (l[j]?.getD 0) 128) * 2 ^ (7 * j))) = ((valS 0 (l.take (j + 1)) : Nat) : Int) := by
  have hle := szS_le l 0 (by decide)
  have hc := hb.get j
  have hp := part_lt hb hj
  have hv := val_lt hb (Nat.le_of_lt hj)
  have hlt := valS_lt (l.take j) 0
  rw [List.length_take, Nat.min_eq_left (by omega), Nat.zero_add] at hlt
  rw [valS_take (by omega)]
  rw [show l[j]?.getD 0 = l.getD j 0 from rfl, low_seven _ hc.1 hc.2]
  generalize (l.getD j 0).toNat % 128 = m at hp ⊢
  generalize valS 0 (l.take j) = v at hv hlt ⊢
  have hm : m < 18446744073709551616 := Nat.lt_of_le_of_lt (Nat.le_mul_of_pos_right _ (Nat.two_pow_pos _)) hp
  have hw1 : IntKind.u64.wrap (m : Int) = m := by rw [IntKind.wrap_u64, Int.emod_eq_of_lt (by omega) (by omega)]
  have hcast : (m : Int) * 2 ^ (7 * j) = ((m * 2 ^ (7 * j) : Nat) : Int) := by simp
  rw [hw1, hcast, IntKind.wrap_u64]
  have hor := Nat.two_pow_add_eq_or_of_lt hlt m
  rw [Nat.mul_comm] at hor
  generalize m * 2 ^ (7 * j) = x at hp hor ⊢
  rw [Int.emod_eq_of_lt (by omega) (by omega), u64_or _ _ (by omega) (by omega) (by omega) (by omega), Int.toNat_natCast, Int.toNat_natCast, Nat.or_comm, ← hor, Nat.add_comm]
set_option maxHeartbeats 8000000 in
set_option maxRecDepth 100000 in
theorem vint_Source_Num.calls (g : Nat) (s0_0 : List Int) (s0_1 : Bool) (r1 : Int) (r2 : List Int) (r3 : Bool) (w0 w : World) (hI : IsS90 w0 w g s0_0 s0_1) (hB : Below w0.heap.size w0 w) (h : vint_Source_Num.f s0_0 s0_1 = some (r1, r2, r3)) :
    Calls Try.prog 68 #[.pointer (some ⟨g, 0, none⟩)] w fun e w' => e = .returned (.int .u64 r1) ∧ IsS90 w0 w' g r2 r3 ∧ Below w0.heap.size w0 w' ∧ KeepBut w w' g none := by
  unfold vint_Source_Num.f at h
  by_cases hf : Fit s0_0
  case neg => rw [if_neg hf] at h; cases h
  rw [if_pos hf] at h
  have h := Option.some.inj h
  unfold numS at h
  have hu := Try.underlying90
  cases s0_1 with
  | true =>
    rw [if_pos rfl] at h
    simp only [Prod.mk.injEq] at h
    obtain ⟨rfl, rfl, rfl⟩ := h
    go_enter Try.func68, Try.ntmps68
    go_wp2_with fail
    refine (vint_Source_Ok.calls g s0_0 true false s0_0 true w0 _ hI hB rfl).mono ?_
    rintro e w1 ⟨rfl, hI1, hB1, hK1⟩
    go_wp2_with fail
    go_ret
    exact ⟨rfl, hI1, hB1, hK1⟩
  | false =>
    rw [if_neg (by decide)] at h
    have hle := szS_le s0_0 0 (by decide)
    have hsz := size_is s0_0 hf
    have hstep := fun j => or_step hf.1 (j := j)
    have hfin := val_lt hf.1 (Nat.le_refl (szS 0 s0_0))
    generalize szS 0 s0_0 = k at h hle hsz hstep hfin
    have HSTEP := Lib.hid hstep
    clear hstep
    have hlen := hf.2
    go_enter Try.func68, Try.ntmps68
    go_wp2_with fail
    refine (vint_Source_Ok.calls g s0_0 false true s0_0 false w0 _ hI hB rfl).mono ?_
    rintro e w1 ⟨rfl, hI1, hB1, hK1⟩
    have HI1 := Aside0.mk hI1
    have HH := Aside0.mk h
    clear hI h
    obtain ⟨A1, c1, hb1, hg1, hr1, hc1⟩ := hI1
    have h0 : w1.cell? ⟨g, 0, none⟩ = some (.slice A1 s0_0.length c1) := (blk_cell hb1 0).trans rfl
    have HB1 := Aside0.mk hb1
    clear hb1
    go_wp2_with fail
    refine (vint_size.calls 40 A1 c1 s0_0 (k : Int) _ (Kd.C_below hr1 hB1) hc1 hsz).mono ?_
    rintro e w2 ⟨rfl, ⟨nd, rfl⟩⟩
    by_cases hk0 : k = 0
    · subst hk0
      go_wp2_with fail
      refine (vint_Source_Fail.calls g s0_0 false [] true w0 _ (IsS90.drewN HI1.out nd) (pw_below_drewN hB1 nd) rfl).mono ?_
      rintro e w2 ⟨rfl, hI2, hB2, hK2⟩
      have h := HH.out
      simp only [if_true, Prod.mk.injEq] at h
      obtain ⟨rfl, rfl, rfl⟩ := h
      go_wp2_with fail
      go_ret
      exact ⟨rfl, hI2, hB2, (keep_drewN hK1 nd).trans hK2 (.inl rfl)⟩
    · have hkb : ((k : Int) == 0) = false := by rw [beq_eq_false_iff_ne]; omega
      have hrw := Kd.C_below hr1 hB1
      obtain ⟨ad, rfl, _⟩ := Kd.at_int hrw 0 (by omega) (by omega)
      have hcells : ∀ j : Nat, j < s0_0.length → w1.cell? (ad.add j) = some (.int .u8 (s0_0.getD j 0)) := fun j hj => by
        obtain ⟨ad', he, hcell⟩ := Kd.at_int hrw (j : Int) (by omega) (by omega)
        obtain rfl := Option.some.inj he
        exact hcell
      go_wp2_with fail
      go_loop [4, 26] (fun n i => ∃ j : Nat, j ≤ k ∧ i = .int .i64 (j : Int) ∧ n = .int .u64 ((valS 0 (s0_0.take j) : Nat) : Int)) (fun _ i => k - (intOf i).toNat)
      case atStart => exact ⟨0, Nat.zero_le _, rfl, rfl⟩
      case round =>
        obtain ⟨j, hjk, rfl, rfl⟩ := hrel
        by_cases hlt : j < k
        · have hcell := hcells j (by omega)
          have hcb := hf.1.get j
          clear hcells
          go_wp2_with fail
          go_round
          case rel => exact ⟨j + 1, by omega, by go_num, by rw [HSTEP.out j hlt]⟩
          case measure => simp [intOf]; omega
        · have hjk2 : j = k := by omega
          have hlt' : decide (j < k) = false := decide_eq_false hlt
          subst hjk2
          clear hcells
          have f0 := blk_frozen HB1.out 0
          have HD := Lib.hid (Kd.C_drop (m := j) hr1 (by omega) hc1)
          have HL := Lib.hid (show (s0_0.drop j).length = s0_0.length - j from List.length_drop)
          have h := HH.out
          rw [if_neg hk0] at h
          simp only [Prod.mk.injEq] at h
          obtain ⟨rfl, rfl, rfl⟩ := h
          clear hrw hr1 HH
          by_cases hcj : c1 = j
          · subst hcj
            go_wp2_with fail
            go_ret
            have hl0 : s0_0.length - c1 = 0 := by omega
            refine ⟨rfl, ⟨some ad, 0, ?_, hg1, ?_, ?_⟩, below_set (pw_below_drewN hB1 nd) hg1, KeepBut.set_ (keep_drewN hK1 nd) 0 _⟩
            · have h2 := blk_set (blk_drewN HB1.out nd) 0 (.slice (some ad) 0 0)
              have e : (s0_0.drop c1).length = 0 := by rw [HL.out]; exact hl0
              rw [e]
              simpa [hl0] using h2
            · have := HD.out
              simp only [if_true] at this
              exact this
            · rw [HL.out]; omega
          · go_wp2_with fail
            go_ret
            refine ⟨rfl, ⟨some (ad.add j), c1 - j, ?_, hg1, ?_, ?_⟩, below_set (pw_below_drewN hB1 nd) hg1, KeepBut.set_ (keep_drewN hK1 nd) 0 _⟩
            · have h2 := blk_set (blk_drewN HB1.out nd) 0 (.slice (some (ad.add j)) (s0_0.length - j) (c1 - j))
              rw [← HL.out] at h2
              simpa using h2
            · have := HD.out
              rw [if_neg hcj] at this
              have e : (Kd.int .u8).sz = 1 := rfl
              rw [e, Nat.mul_one] at this
              exact this
            · rw [HL.out]; omega
end Go.Proofs.Ythcmokglgepgjaa.X
-- Printed for this claim by a program of this session (wip/xprint.py) over the kit's printer; Lean checks it.
namespace Go.Proofs.Ythcmokglgepgjaa.X
open Go.RowKit Go.Proofs.YthcmokglgepgjaaW.PrintWords Go.Proofs.YthcmokglgepgjaaW.PrintLast Go.Proofs.YthcmokglgepgjaaW.PrintMore
attribute [local go_sem] max2_int min2_int max_two min_two max_three min_three max_four min_four   -- for this text's walks alone
set_option linter.unusedVariables false
set_option linter.unusedSimpArgs false

/-! ### vint_Source_Below: function 44 -/
def vint_Source_Below.f (s0_0 : List Int) (s0_1 : Bool) (a1 : Int) : Option (Int × List Int × Bool) := (vint_Source_Num.f s0_0 s0_1).bind fun bt133 => ((vint_Source_Ok.f bt133.2.1 bt133.2.2).bind fun bt136 => (if bt136.1 = true then (if a1 > 0 then (if bt133.1 < (IntKind.u64.wrap (a1)) then (some (wrap64 (bt133.1), bt136.2.1, bt136.2.2)) else ((vint_Source_Fail.f bt136.2.1 bt136.2.2).bind fun bt139 => (some (0, bt139.1, bt139.2)))) else ((vint_Source_Fail.f bt136.2.1 bt136.2.2).bind fun bt141 => (some (0, bt141.1, bt141.2)))) else ((vint_Source_Fail.f bt136.2.1 bt136.2.2).bind fun bt143 => (some (0, bt143.1, bt143.2)))))
set_option maxHeartbeats 8000000 in
set_option maxRecDepth 100000 in
theorem vint_Source_Below.calls (g : Nat) (s0_0 : List Int) (s0_1 : Bool) (a1 : Int) (r1 : Int) (r2 : List Int) (r3 : Bool) (w0 w : World) (hI : IsS90 w0 w g s0_0 s0_1) (hB : Below w0.heap.size w0 w) (h : vint_Source_Below.f s0_0 s0_1 a1 = some (r1, r2, r3)) :
    Calls Try.prog 44 #[.pointer (some ⟨g, 0, none⟩), .int .i64 a1] w fun e w' => e = .returned (.int .i64 r1) ∧ IsS90 w0 w' g r2 r3 ∧ Below w0.heap.size w0 w' ∧ KeepBut w w' g none := by
  have HI0 := Aside0.mk hI
  have HK := Aside0.mk (KeepBut.refl w g none)
  have HL := Aside0.mk hB.size
  clear hI
  have HW0 := Aside0.mk hB.size
  have HB := Aside0.mk hB
  clear hB
  have H : ((vint_Source_Num.f s0_0 s0_1).bind fun bt133 => ((vint_Source_Ok.f bt133.2.1 bt133.2.2).bind fun bt136 => (if bt136.1 = true then (if a1 > 0 then (if bt133.1 < (IntKind.u64.wrap (a1)) then (some (wrap64 (bt133.1), bt136.2.1, bt136.2.2)) else ((vint_Source_Fail.f bt136.2.1 bt136.2.2).bind fun bt139 => (some (0, bt139.1, bt139.2)))) else ((vint_Source_Fail.f bt136.2.1 bt136.2.2).bind fun bt141 => (some (0, bt141.1, bt141.2)))) else ((vint_Source_Fail.f bt136.2.1 bt136.2.2).bind fun bt143 => (some (0, bt143.1, bt143.2)))))) = some (r1, r2, r3) := h
  clear h
  replace H := Option.bind_eq_some_iff.mp H
  obtain ⟨⟨t133, t134, t135⟩, A30, H⟩ := H
  replace H : ((vint_Source_Ok.f t134 t135).bind fun bt136 => (if bt136.1 = true then (if a1 > 0 then (if t133 < (IntKind.u64.wrap (a1)) then (some (wrap64 (t133), bt136.2.1, bt136.2.2)) else ((vint_Source_Fail.f bt136.2.1 bt136.2.2).bind fun bt139 => (some (0, bt139.1, bt139.2)))) else ((vint_Source_Fail.f bt136.2.1 bt136.2.2).bind fun bt141 => (some (0, bt141.1, bt141.2)))) else ((vint_Source_Fail.f bt136.2.1 bt136.2.2).bind fun bt143 => (some (0, bt143.1, bt143.2))))) = some (r1, r2, r3) := H
  have A3 := Aside0.mk A30
  clear A30
  replace H := Option.bind_eq_some_iff.mp H
  obtain ⟨⟨t136, t137, t138⟩, A40, H⟩ := H
  replace H : (if t136 = true then (if a1 > 0 then (if t133 < (IntKind.u64.wrap (a1)) then (some (wrap64 (t133), t137, t138)) else ((vint_Source_Fail.f t137 t138).bind fun bt139 => (some (0, bt139.1, bt139.2)))) else ((vint_Source_Fail.f t137 t138).bind fun bt141 => (some (0, bt141.1, bt141.2)))) else ((vint_Source_Fail.f t137 t138).bind fun bt143 => (some (0, bt143.1, bt143.2)))) = some (r1, r2, r3) := H
  have A4 := Aside0.mk A40
  clear A40
  by_cases c5 : t136 = true
  · subst c5
    have H1 : (if a1 > 0 then (if t133 < (IntKind.u64.wrap (a1)) then (some (wrap64 (t133), t137, t138)) else ((vint_Source_Fail.f t137 t138).bind fun bt139 => (some (0, bt139.1, bt139.2)))) else ((vint_Source_Fail.f t137 t138).bind fun bt141 => (some (0, bt141.1, bt141.2)))) = some (r1, r2, r3) := by rw [if_pos rfl] at H; exact H
    clear H
    have H := H1
    clear H1
    by_cases c6 : a1 > 0
    · rw [if_pos c6] at H
      have c6b0 : decide (0 < a1) = true := decide_eq_true c6
      clear c6
      by_cases c7 : t133 < (IntKind.u64.wrap (a1))
      · rw [if_pos c7] at H
        have c7b0 : decide (t133 < (IntKind.u64.wrap (a1))) = true := decide_eq_true c7
        clear c7
        simp only [Option.some.injEq, Prod.mk.injEq] at H
        obtain ⟨rfl, rfl, rfl⟩ := H
        go_enter Try.func44, Try.ntmps44
        go_wp2_with (first | ((with_reducible refine gate_callee (f := 68) rfl ?_); refine goesL_ (some 7) rfl rfl Try.func68 (by kernel_rfl) rfl #[.pointer (some ⟨g, 0, none⟩)] rfl (by (try simp only [List.map_toArray, List.map_cons, List.map_nil]); first | done | rfl | (simp only [List.length_drop, List.length_take]; rfl)) ?_; (with_reducible refine (vint_Source_Num.calls g s0_0 s0_1 t133 t134 t135 w0 _ ?side1 ?side2 A3.out).mono ?_); (case side1 => repeat (first | (with_reducible first | exact HI0.out | apply IsS90.alloc | apply IsS90.drewN | apply IsS90.drew | apply IsS90.set_0 | apply IsS90.set_1) | exact HI0.out)); (case side2 => repeat (first | (with_reducible first | exact HB.out | apply below_alloc | apply pw_below_drewN | apply below_drew1 | refine below_set ?_ (IsS90.ge HI0.out)) | exact HB.out)); rintro e w8 ⟨rfl, hi, hb, hk⟩; refine ⟨_, rfl, ?_⟩; have n0_ := Aside0.mk (KeepBut.trans (by repeat (first | (with_reducible first | exact HK.out | apply KeepBut.set_ | apply keep_drewN | apply keep_drew | apply keep_alloc) | exact HK.out)) hk (.inl rfl)); have n1_ := Aside0.mk (hb); have n2_ := Aside0.mk (hi); clear HK; clear HB; clear HI0; have HK := n0_; have HB := n1_; have HI0 := n2_; clear n0_ n1_ n2_; (try clear hb); (try clear hb2); (try clear hk); (try clear hi)) | ((with_reducible refine gate_callee (f := 46) rfl ?_); refine goesL_ (some 9) rfl rfl Try.func46 (by kernel_rfl) rfl #[.pointer (some ⟨g, 0, none⟩)] rfl (by (try simp only [List.map_toArray, List.map_cons, List.map_nil]); first | done | rfl | (simp only [List.length_drop, List.length_take]; rfl)) ?_; (with_reducible refine (vint_Source_Ok.calls g t134 t135 true t137 t138 w0 _ ?side1 ?side2 A4.out).mono ?_); (case side1 => repeat (first | (with_reducible first | exact HI0.out | apply IsS90.alloc | apply IsS90.drewN | apply IsS90.drew | apply IsS90.set_0 | apply IsS90.set_1) | exact HI0.out)); (case side2 => repeat (first | (with_reducible first | exact HB.out | apply below_alloc | apply pw_below_drewN | apply below_drew1 | refine below_set ?_ (IsS90.ge HI0.out)) | exact HB.out)); rintro e w9 ⟨rfl, hi, hb, hk⟩; refine ⟨_, rfl, ?_⟩; have n0_ := Aside0.mk (KeepBut.trans (by repeat (first | (with_reducible first | exact HK.out | apply KeepBut.set_ | apply keep_drewN | apply keep_drew | apply keep_alloc) | exact HK.out)) hk (.inl rfl)); have n1_ := Aside0.mk (hb); have n2_ := Aside0.mk (hi); clear HK; clear HB; clear HI0; have HK := n0_; have HB := n1_; have HI0 := n2_; clear n0_ n1_ n2_; (try clear hb); (try clear hb2); (try clear hk); (try clear hi)))
        go_ret
        exact ⟨by first | rfl | (simp [errW_none, errW_some] <;> rfl) | (simp [*, errW_none, errW_some] <;> rfl), by repeat (first | (with_reducible first | exact HI0.out | apply IsS90.alloc | apply IsS90.drewN | apply IsS90.drew | apply IsS90.set_0 | apply IsS90.set_1) | exact HI0.out), by repeat (first | (with_reducible first | exact HB.out | apply below_alloc | apply pw_below_drewN | apply below_drew1 | refine below_set ?_ (IsS90.ge HI0.out)) | exact HB.out), by repeat (first | (with_reducible first | exact HK.out | apply KeepBut.set_ | apply keep_drewN | apply keep_drew | apply keep_alloc) | exact HK.out)⟩
      · rw [if_neg c7] at H
        have c7b0 : decide (t133 < (IntKind.u64.wrap (a1))) = false := decide_eq_false c7
        clear c7
        replace H := Option.bind_eq_some_iff.mp H
        obtain ⟨⟨t139, t140⟩, A100, H⟩ := H
        replace H : (some (0, t139, t140)) = some (r1, r2, r3) := H
        have A10 := Aside0.mk A100
        clear A100
        simp only [Option.some.injEq, Prod.mk.injEq] at H
        obtain ⟨rfl, rfl, rfl⟩ := H
        go_enter Try.func44, Try.ntmps44
        go_wp2_with (first | ((with_reducible refine gate_callee (f := 68) rfl ?_); refine goesL_ (some 7) rfl rfl Try.func68 (by kernel_rfl) rfl #[.pointer (some ⟨g, 0, none⟩)] rfl (by (try simp only [List.map_toArray, List.map_cons, List.map_nil]); first | done | rfl | (simp only [List.length_drop, List.length_take]; rfl)) ?_; (with_reducible refine (vint_Source_Num.calls g s0_0 s0_1 t133 t134 t135 w0 _ ?side1 ?side2 A3.out).mono ?_); (case side1 => repeat (first | (with_reducible first | exact HI0.out | apply IsS90.alloc | apply IsS90.drewN | apply IsS90.drew | apply IsS90.set_0 | apply IsS90.set_1) | exact HI0.out)); (case side2 => repeat (first | (with_reducible first | exact HB.out | apply below_alloc | apply pw_below_drewN | apply below_drew1 | refine below_set ?_ (IsS90.ge HI0.out)) | exact HB.out)); rintro e w11 ⟨rfl, hi, hb, hk⟩; refine ⟨_, rfl, ?_⟩; have n0_ := Aside0.mk (KeepBut.trans (by repeat (first | (with_reducible first | exact HK.out | apply KeepBut.set_ | apply keep_drewN | apply keep_drew | apply keep_alloc) | exact HK.out)) hk (.inl rfl)); have n1_ := Aside0.mk (hb); have n2_ := Aside0.mk (hi); clear HK; clear HB; clear HI0; have HK := n0_; have HB := n1_; have HI0 := n2_; clear n0_ n1_ n2_; (try clear hb); (try clear hb2); (try clear hk); (try clear hi)) | ((with_reducible refine gate_callee (f := 46) rfl ?_); refine goesL_ (some 9) rfl rfl Try.func46 (by kernel_rfl) rfl #[.pointer (some ⟨g, 0, none⟩)] rfl (by (try simp only [List.map_toArray, List.map_cons, List.map_nil]); first | done | rfl | (simp only [List.length_drop, List.length_take]; rfl)) ?_; (with_reducible refine (vint_Source_Ok.calls g t134 t135 true t137 t138 w0 _ ?side1 ?side2 A4.out).mono ?_); (case side1 => repeat (first | (with_reducible first | exact HI0.out | apply IsS90.alloc | apply IsS90.drewN | apply IsS90.drew | apply IsS90.set_0 | apply IsS90.set_1) | exact HI0.out)); (case side2 => repeat (first | (with_reducible first | exact HB.out | apply below_alloc | apply pw_below_drewN | apply below_drew1 | refine below_set ?_ (IsS90.ge HI0.out)) | exact HB.out)); rintro e w12 ⟨rfl, hi, hb, hk⟩; refine ⟨_, rfl, ?_⟩; have n0_ := Aside0.mk (KeepBut.trans (by repeat (first | (with_reducible first | exact HK.out | apply KeepBut.set_ | apply keep_drewN | apply keep_drew | apply keep_alloc) | exact HK.out)) hk (.inl rfl)); have n1_ := Aside0.mk (hb); have n2_ := Aside0.mk (hi); clear HK; clear HB; clear HI0; have HK := n0_; have HB := n1_; have HI0 := n2_; clear n0_ n1_ n2_; (try clear hb); (try clear hb2); (try clear hk); (try clear hi)) | ((with_reducible refine gate_callee (f := 62) rfl ?_); refine goesL_ (some 23) rfl rfl Try.func62 (by kernel_rfl) rfl #[.pointer (some ⟨g, 0, none⟩)] rfl (by (try simp only [List.map_toArray, List.map_cons, List.map_nil]); first | done | rfl | (simp only [List.length_drop, List.length_take]; rfl)) ?_; (with_reducible refine (vint_Source_Fail.calls g t137 t138 t139 t140 w0 _ ?side1 ?side2 A10.out).mono ?_); (case side1 => repeat (first | (with_reducible first | exact HI0.out | apply IsS90.alloc | apply IsS90.drewN | apply IsS90.drew | apply IsS90.set_0 | apply IsS90.set_1) | exact HI0.out)); (case side2 => repeat (first | (with_reducible first | exact HB.out | apply below_alloc | apply pw_below_drewN | apply below_drew1 | refine below_set ?_ (IsS90.ge HI0.out)) | exact HB.out)); rintro e w13 ⟨rfl, hi, hb, hk⟩; refine ⟨_, rfl, ?_⟩; have n0_ := Aside0.mk (KeepBut.trans (by repeat (first | (with_reducible first | exact HK.out | apply KeepBut.set_ | apply keep_drewN | apply keep_drew | apply keep_alloc) | exact HK.out)) hk (.inl rfl)); have n1_ := Aside0.mk (hb); have n2_ := Aside0.mk (hi); clear HK; clear HB; clear HI0; have HK := n0_; have HB := n1_; have HI0 := n2_; clear n0_ n1_ n2_; (try clear hb); (try clear hb2); (try clear hk); (try clear hi)))
        go_ret
        exact ⟨by first | rfl | (simp [errW_none, errW_some] <;> rfl) | (simp [*, errW_none, errW_some] <;> rfl), by repeat (first | (with_reducible first | exact HI0.out | apply IsS90.alloc | apply IsS90.drewN | apply IsS90.drew | apply IsS90.set_0 | apply IsS90.set_1) | exact HI0.out), by repeat (first | (with_reducible first | exact HB.out | apply below_alloc | apply pw_below_drewN | apply below_drew1 | refine below_set ?_ (IsS90.ge HI0.out)) | exact HB.out), by repeat (first | (with_reducible first | exact HK.out | apply KeepBut.set_ | apply keep_drewN | apply keep_drew | apply keep_alloc) | exact HK.out)⟩
    · rw [if_neg c6] at H
      have c6b0 : decide (0 < a1) = false := decide_eq_false c6
      clear c6
      replace H := Option.bind_eq_some_iff.mp H
      obtain ⟨⟨t141, t142⟩, A140, H⟩ := H
      replace H : (some (0, t141, t142)) = some (r1, r2, r3) := H
      have A14 := Aside0.mk A140
      clear A140
      simp only [Option.some.injEq, Prod.mk.injEq] at H
      obtain ⟨rfl, rfl, rfl⟩ := H
      go_enter Try.func44, Try.ntmps44
      go_wp2_with (first | ((with_reducible refine gate_callee (f := 68) rfl ?_); refine goesL_ (some 7) rfl rfl Try.func68 (by kernel_rfl) rfl #[.pointer (some ⟨g, 0, none⟩)] rfl (by (try simp only [List.map_toArray, List.map_cons, List.map_nil]); first | done | rfl | (simp only [List.length_drop, List.length_take]; rfl)) ?_; (with_reducible refine (vint_Source_Num.calls g s0_0 s0_1 t133 t134 t135 w0 _ ?side1 ?side2 A3.out).mono ?_); (case side1 => repeat (first | (with_reducible first | exact HI0.out | apply IsS90.alloc | apply IsS90.drewN | apply IsS90.drew | apply IsS90.set_0 | apply IsS90.set_1) | exact HI0.out)); (case side2 => repeat (first | (with_reducible first | exact HB.out | apply below_alloc | apply pw_below_drewN | apply below_drew1 | refine below_set ?_ (IsS90.ge HI0.out)) | exact HB.out)); rintro e w15 ⟨rfl, hi, hb, hk⟩; refine ⟨_, rfl, ?_⟩; have n0_ := Aside0.mk (KeepBut.trans (by repeat (first | (with_reducible first | exact HK.out | apply KeepBut.set_ | apply keep_drewN | apply keep_drew | apply keep_alloc) | exact HK.out)) hk (.inl rfl)); have n1_ := Aside0.mk (hb); have n2_ := Aside0.mk (hi); clear HK; clear HB; clear HI0; have HK := n0_; have HB := n1_; have HI0 := n2_; clear n0_ n1_ n2_; (try clear hb); (try clear hb2); (try clear hk); (try clear hi)) | ((with_reducible refine gate_callee (f := 46) rfl ?_); refine goesL_ (some 9) rfl rfl Try.func46 (by kernel_rfl) rfl #[.pointer (some ⟨g, 0, none⟩)] rfl (by (try simp only [List.map_toArray, List.map_cons, List.map_nil]); first | done | rfl | (simp only [List.length_drop, List.length_take]; rfl)) ?_; (with_reducible refine (vint_Source_Ok.calls g t134 t135 true t137 t138 w0 _ ?side1 ?side2 A4.out).mono ?_); (case side1 => repeat (first | (with_reducible first | exact HI0.out | apply IsS90.alloc | apply IsS90.drewN | apply IsS90.drew | apply IsS90.set_0 | apply IsS90.set_1) | exact HI0.out)); (case side2 => repeat (first | (with_reducible first | exact HB.out | apply below_alloc | apply pw_below_drewN | apply below_drew1 | refine below_set ?_ (IsS90.ge HI0.out)) | exact HB.out)); rintro e w16 ⟨rfl, hi, hb, hk⟩; refine ⟨_, rfl, ?_⟩; have n0_ := Aside0.mk (KeepBut.trans (by repeat (first | (with_reducible first | exact HK.out | apply KeepBut.set_ | apply keep_drewN | apply keep_drew | apply keep_alloc) | exact HK.out)) hk (.inl rfl)); have n1_ := Aside0.mk (hb); have n2_ := Aside0.mk (hi); clear HK; clear HB; clear HI0; have HK := n0_; have HB := n1_; have HI0 := n2_; clear n0_ n1_ n2_; (try clear hb); (try clear hb2); (try clear hk); (try clear hi)) | ((with_reducible refine gate_callee (f := 62) rfl ?_); refine goesL_ (some 23) rfl rfl Try.func62 (by kernel_rfl) rfl #[.pointer (some ⟨g, 0, none⟩)] rfl (by (try simp only [List.map_toArray, List.map_cons, List.map_nil]); first | done | rfl | (simp only [List.length_drop, List.length_take]; rfl)) ?_; (with_reducible refine (vint_Source_Fail.calls g t137 t138 t141 t142 w0 _ ?side1 ?side2 A14.out).mono ?_); (case side1 => repeat (first | (with_reducible first | exact HI0.out | apply IsS90.alloc | apply IsS90.drewN | apply IsS90.drew | apply IsS90.set_0 | apply IsS90.set_1) | exact HI0.out)); (case side2 => repeat (first | (with_reducible first | exact HB.out | apply below_alloc | apply pw_below_drewN | apply below_drew1 | refine below_set ?_ (IsS90.ge HI0.out)) | exact HB.out)); rintro e w17 ⟨rfl, hi, hb, hk⟩; refine ⟨_, rfl, ?_⟩; have n0_ := Aside0.mk (KeepBut.trans (by repeat (first | (with_reducible first | exact HK.out | apply KeepBut.set_ | apply keep_drewN | apply keep_drew | apply keep_alloc) | exact HK.out)) hk (.inl rfl)); have n1_ := Aside0.mk (hb); have n2_ := Aside0.mk (hi); clear HK; clear HB; clear HI0; have HK := n0_; have HB := n1_; have HI0 := n2_; clear n0_ n1_ n2_; (try clear hb); (try clear hb2); (try clear hk); (try clear hi)))
      go_ret
      exact ⟨by first | rfl | (simp [errW_none, errW_some] <;> rfl) | (simp [*, errW_none, errW_some] <;> rfl), by repeat (first | (with_reducible first | exact HI0.out | apply IsS90.alloc | apply IsS90.drewN | apply IsS90.drew | apply IsS90.set_0 | apply IsS90.set_1) | exact HI0.out), by repeat (first | (with_reducible first | exact HB.out | apply below_alloc | apply pw_below_drewN | apply below_drew1 | refine below_set ?_ (IsS90.ge HI0.out)) | exact HB.out), by repeat (first | (with_reducible first | exact HK.out | apply KeepBut.set_ | apply keep_drewN | apply keep_drew | apply keep_alloc) | exact HK.out)⟩
  · replace c5 := Bool.eq_false_iff.mpr c5
    subst c5
    have H1 : ((vint_Source_Fail.f t137 t138).bind fun bt143 => (some (0, bt143.1, bt143.2))) = some (r1, r2, r3) := by rw [if_neg (show ¬ (false = true) by decide)] at H; exact H
    clear H
    have H := H1
    clear H1
    replace H := Option.bind_eq_some_iff.mp H
    obtain ⟨⟨t143, t144⟩, A180, H⟩ := H
    replace H : (some (0, t143, t144)) = some (r1, r2, r3) := H
    have A18 := Aside0.mk A180
    clear A180
    simp only [Option.some.injEq, Prod.mk.injEq] at H
    obtain ⟨rfl, rfl, rfl⟩ := H
    go_enter Try.func44, Try.ntmps44
    go_wp2_with (first | ((with_reducible refine gate_callee (f := 68) rfl ?_); refine goesL_ (some 7) rfl rfl Try.func68 (by kernel_rfl) rfl #[.pointer (some ⟨g, 0, none⟩)] rfl (by (try simp only [List.map_toArray, List.map_cons, List.map_nil]); first | done | rfl | (simp only [List.length_drop, List.length_take]; rfl)) ?_; (with_reducible refine (vint_Source_Num.calls g s0_0 s0_1 t133 t134 t135 w0 _ ?side1 ?side2 A3.out).mono ?_); (case side1 => repeat (first | (with_reducible first | exact HI0.out | apply IsS90.alloc | apply IsS90.drewN | apply IsS90.drew | apply IsS90.set_0 | apply IsS90.set_1) | exact HI0.out)); (case side2 => repeat (first | (with_reducible first | exact HB.out | apply below_alloc | apply pw_below_drewN | apply below_drew1 | refine below_set ?_ (IsS90.ge HI0.out)) | exact HB.out)); rintro e w19 ⟨rfl, hi, hb, hk⟩; refine ⟨_, rfl, ?_⟩; have n0_ := Aside0.mk (KeepBut.trans (by repeat (first | (with_reducible first | exact HK.out | apply KeepBut.set_ | apply keep_drewN | apply keep_drew | apply keep_alloc) | exact HK.out)) hk (.inl rfl)); have n1_ := Aside0.mk (hb); have n2_ := Aside0.mk (hi); clear HK; clear HB; clear HI0; have HK := n0_; have HB := n1_; have HI0 := n2_; clear n0_ n1_ n2_; (try clear hb); (try clear hb2); (try clear hk); (try clear hi)) | ((with_reducible refine gate_callee (f := 46) rfl ?_); refine goesL_ (some 9) rfl rfl Try.func46 (by kernel_rfl) rfl #[.pointer (some ⟨g, 0, none⟩)] rfl (by (try simp only [List.map_toArray, List.map_cons, List.map_nil]); first | done | rfl | (simp only [List.length_drop, List.length_take]; rfl)) ?_; (with_reducible refine (vint_Source_Ok.calls g t134 t135 false t137 t138 w0 _ ?side1 ?side2 A4.out).mono ?_); (case side1 => repeat (first | (with_reducible first | exact HI0.out | apply IsS90.alloc | apply IsS90.drewN | apply IsS90.drew | apply IsS90.set_0 | apply IsS90.set_1) | exact HI0.out)); (case side2 => repeat (first | (with_reducible first | exact HB.out | apply below_alloc | apply pw_below_drewN | apply below_drew1 | refine below_set ?_ (IsS90.ge HI0.out)) | exact HB.out)); rintro e w20 ⟨rfl, hi, hb, hk⟩; refine ⟨_, rfl, ?_⟩; have n0_ := Aside0.mk (KeepBut.trans (by repeat (first | (with_reducible first | exact HK.out | apply KeepBut.set_ | apply keep_drewN | apply keep_drew | apply keep_alloc) | exact HK.out)) hk (.inl rfl)); have n1_ := Aside0.mk (hb); have n2_ := Aside0.mk (hi); clear HK; clear HB; clear HI0; have HK := n0_; have HB := n1_; have HI0 := n2_; clear n0_ n1_ n2_; (try clear hb); (try clear hb2); (try clear hk); (try clear hi)) | ((with_reducible refine gate_callee (f := 62) rfl ?_); refine goesL_ (some 23) rfl rfl Try.func62 (by kernel_rfl) rfl #[.pointer (some ⟨g, 0, none⟩)] rfl (by (try simp only [List.map_toArray, List.map_cons, List.map_nil]); first | done | rfl | (simp only [List.length_drop, List.length_take]; rfl)) ?_; (with_reducible refine (vint_Source_Fail.calls g t137 t138 t143 t144 w0 _ ?side1 ?side2 A18.out).mono ?_); (case side1 => repeat (first | (with_reducible first | exact HI0.out | apply IsS90.alloc | apply IsS90.drewN | apply IsS90.drew | apply IsS90.set_0 | apply IsS90.set_1) | exact HI0.out)); (case side2 => repeat (first | (with_reducible first | exact HB.out | apply below_alloc | apply pw_below_drewN | apply below_drew1 | refine below_set ?_ (IsS90.ge HI0.out)) | exact HB.out)); rintro e w21 ⟨rfl, hi, hb, hk⟩; refine ⟨_, rfl, ?_⟩; have n0_ := Aside0.mk (KeepBut.trans (by repeat (first | (with_reducible first | exact HK.out | apply KeepBut.set_ | apply keep_drewN | apply keep_drew | apply keep_alloc) | exact HK.out)) hk (.inl rfl)); have n1_ := Aside0.mk (hb); have n2_ := Aside0.mk (hi); clear HK; clear HB; clear HI0; have HK := n0_; have HB := n1_; have HI0 := n2_; clear n0_ n1_ n2_; (try clear hb); (try clear hb2); (try clear hk); (try clear hi)))
    go_ret
    exact ⟨by first | rfl | (simp [errW_none, errW_some] <;> rfl) | (simp [*, errW_none, errW_some] <;> rfl), by repeat (first | (with_reducible first | exact HI0.out | apply IsS90.alloc | apply IsS90.drewN | apply IsS90.drew | apply IsS90.set_0 | apply IsS90.set_1) | exact HI0.out), by repeat (first | (with_reducible first | exact HB.out | apply below_alloc | apply pw_below_drewN | apply below_drew1 | refine below_set ?_ (IsS90.ge HI0.out)) | exact HB.out), by repeat (first | (with_reducible first | exact HK.out | apply KeepBut.set_ | apply keep_drewN | apply keep_drew | apply keep_alloc) | exact HK.out)⟩

end Go.Proofs.Ythcmokglgepgjaa.X
-- Printed for this claim by a program of this session (wip/xprint.py) over the kit's printer; Lean checks it.
namespace Go.Proofs.Ythcmokglgepgjaa.X
open Go.RowKit Go.Proofs.YthcmokglgepgjaaW.PrintWords Go.Proofs.YthcmokglgepgjaaW.PrintLast Go.Proofs.YthcmokglgepgjaaW.PrintMore
attribute [local go_sem] max2_int min2_int max_two min_two max_three min_three max_four min_four   -- for this text's walks alone
set_option linter.unusedVariables false
set_option linter.unusedSimpArgs false

/-! ### vint_Source_Left: function 47 -/
def vint_Source_Left.f (s0_0 : List Int) (s0_1 : Bool) : Option (Int × List Int × Bool) := (vint_Source_Ok.f s0_0 s0_1).bind fun bt145 => (if bt145.1 = true then (some ((bt145.2.1.length : Int), bt145.2.1, bt145.2.2)) else (some (0, bt145.2.1, bt145.2.2)))
set_option maxHeartbeats 8000000 in
set_option maxRecDepth 100000 in
theorem vint_Source_Left.calls (g : Nat) (s0_0 : List Int) (s0_1 : Bool) (r1 : Int) (r2 : List Int) (r3 : Bool) (w0 w : World) (hI : IsS90 w0 w g s0_0 s0_1) (hB : Below w0.heap.size w0 w) (h : vint_Source_Left.f s0_0 s0_1 = some (r1, r2, r3)) :
    Calls Try.prog 47 #[.pointer (some ⟨g, 0, none⟩)] w fun e w' => e = .returned (.int .i64 r1) ∧ IsS90 w0 w' g r2 r3 ∧ Below w0.heap.size w0 w' ∧ KeepBut w w' g none := by
  have HI0 := Aside0.mk hI
  have HK := Aside0.mk (KeepBut.refl w g none)
  have HL := Aside0.mk hB.size
  clear hI
  have HW0 := Aside0.mk hB.size
  have HB := Aside0.mk hB
  clear hB
  have H : ((vint_Source_Ok.f s0_0 s0_1).bind fun bt145 => (if bt145.1 = true then (some ((bt145.2.1.length : Int), bt145.2.1, bt145.2.2)) else (some (0, bt145.2.1, bt145.2.2)))) = some (r1, r2, r3) := h
  clear h
  replace H := Option.bind_eq_some_iff.mp H
  obtain ⟨⟨t145, t146, t147⟩, A20, H⟩ := H
  replace H : (if t145 = true then (some ((t146.length : Int), t146, t147)) else (some (0, t146, t147))) = some (r1, r2, r3) := H
  have A2 := Aside0.mk A20
  clear A20
  by_cases c3 : t145 = true
  · subst c3
    have H1 : (some ((t146.length : Int), t146, t147)) = some (r1, r2, r3) := by rw [if_pos rfl] at H; exact H
    clear H
    have H := H1
    clear H1
    simp only [Option.some.injEq, Prod.mk.injEq] at H
    obtain ⟨rfl, rfl, rfl⟩ := H
    go_enter Try.func47, Try.ntmps47
    go_wp2_with (first | ((with_reducible refine gate_callee (f := 46) rfl ?_); refine goesL_ (some 4) rfl rfl Try.func46 (by kernel_rfl) rfl #[.pointer (some ⟨g, 0, none⟩)] rfl (by (try simp only [List.map_toArray, List.map_cons, List.map_nil]); first | done | rfl | (simp only [List.length_drop, List.length_take]; rfl)) ?_; (with_reducible refine (vint_Source_Ok.calls g s0_0 s0_1 true t146 t147 w0 _ ?side1 ?side2 A2.out).mono ?_); (case side1 => repeat (first | (with_reducible first | exact HI0.out | apply IsS90.alloc | apply IsS90.drewN | apply IsS90.drew | apply IsS90.set_0 | apply IsS90.set_1) | exact HI0.out)); (case side2 => repeat (first | (with_reducible first | exact HB.out | apply below_alloc | apply pw_below_drewN | apply below_drew1 | refine below_set ?_ (IsS90.ge HI0.out)) | exact HB.out)); rintro e w4 ⟨rfl, hi, hb, hk⟩; refine ⟨_, rfl, ?_⟩; have n0_ := Aside0.mk (KeepBut.trans (by repeat (first | (with_reducible first | exact HK.out | apply KeepBut.set_ | apply keep_drewN | apply keep_drew | apply keep_alloc) | exact HK.out)) hk (.inl rfl)); have n1_ := Aside0.mk (hb); have n2_ := Aside0.mk (hi); clear HK; clear HB; clear HI0; have HK := n0_; have HB := n1_; have HI0 := n2_; clear n0_ n1_ n2_; (try clear hb); (try clear hb2); (try clear hk); (try clear hi); obtain ⟨ASz5_0, cSz5_0, HGz5, hgz5, ⟨HSz5_0, _⟩⟩ := HI0.out; have hcz5_0 := cellS90_0 HGz5; have hcz5_1 := cellS90_1 HGz5; have hfz5_0 := blk_frozen HGz5 0; have hfz5_1 := blk_frozen HGz5 1; clear HGz5 hgz5))
    go_ret
    exact ⟨by first | rfl | (simp [errW_none, errW_some] <;> rfl) | (simp [*, errW_none, errW_some] <;> rfl), by repeat (first | (with_reducible first | exact HI0.out | apply IsS90.alloc | apply IsS90.drewN | apply IsS90.drew | apply IsS90.set_0 | apply IsS90.set_1) | exact HI0.out), by repeat (first | (with_reducible first | exact HB.out | apply below_alloc | apply pw_below_drewN | apply below_drew1 | refine below_set ?_ (IsS90.ge HI0.out)) | exact HB.out), by repeat (first | (with_reducible first | exact HK.out | apply KeepBut.set_ | apply keep_drewN | apply keep_drew | apply keep_alloc) | exact HK.out)⟩
  · replace c3 := Bool.eq_false_iff.mpr c3
    subst c3
    have H1 : (some (0, t146, t147)) = some (r1, r2, r3) := by rw [if_neg (show ¬ (false = true) by decide)] at H; exact H
    clear H
    have H := H1
    clear H1
    simp only [Option.some.injEq, Prod.mk.injEq] at H
    obtain ⟨rfl, rfl, rfl⟩ := H
    go_enter Try.func47, Try.ntmps47
    go_wp2_with (first | ((with_reducible refine gate_callee (f := 46) rfl ?_); refine goesL_ (some 4) rfl rfl Try.func46 (by kernel_rfl) rfl #[.pointer (some ⟨g, 0, none⟩)] rfl (by (try simp only [List.map_toArray, List.map_cons, List.map_nil]); first | done | rfl | (simp only [List.length_drop, List.length_take]; rfl)) ?_; (with_reducible refine (vint_Source_Ok.calls g s0_0 s0_1 false t146 t147 w0 _ ?side1 ?side2 A2.out).mono ?_); (case side1 => repeat (first | (with_reducible first | exact HI0.out | apply IsS90.alloc | apply IsS90.drewN | apply IsS90.drew | apply IsS90.set_0 | apply IsS90.set_1) | exact HI0.out)); (case side2 => repeat (first | (with_reducible first | exact HB.out | apply below_alloc | apply pw_below_drewN | apply below_drew1 | refine below_set ?_ (IsS90.ge HI0.out)) | exact HB.out)); rintro e w6 ⟨rfl, hi, hb, hk⟩; refine ⟨_, rfl, ?_⟩; have n0_ := Aside0.mk (KeepBut.trans (by repeat (first | (with_reducible first | exact HK.out | apply KeepBut.set_ | apply keep_drewN | apply keep_drew | apply keep_alloc) | exact HK.out)) hk (.inl rfl)); have n1_ := Aside0.mk (hb); have n2_ := Aside0.mk (hi); clear HK; clear HB; clear HI0; have HK := n0_; have HB := n1_; have HI0 := n2_; clear n0_ n1_ n2_; (try clear hb); (try clear hb2); (try clear hk); (try clear hi)))
    go_ret
    exact ⟨by first | rfl | (simp [errW_none, errW_some] <;> rfl) | (simp [*, errW_none, errW_some] <;> rfl), by repeat (first | (with_reducible first | exact HI0.out | apply IsS90.alloc | apply IsS90.drewN | apply IsS90.drew | apply IsS90.set_0 | apply IsS90.set_1) | exact HI0.out), by repeat (first | (with_reducible first | exact HB.out | apply below_alloc | apply pw_below_drewN | apply below_drew1 | refine below_set ?_ (IsS90.ge HI0.out)) | exact HB.out), by repeat (first | (with_reducible first | exact HK.out | apply KeepBut.set_ | apply keep_drewN | apply keep_drew | apply keep_alloc) | exact HK.out)⟩

end Go.Proofs.Ythcmokglgepgjaa.X
/- The contract of bytes.Clone: a copy of the bytes, in memory of its own. -/
namespace Go.Proofs.Ythcmokglgepgjaa.X
open Go.RowKit Go.Proofs.YthcmokglgepgjaaW.PrintWords Go.Proofs.YthcmokglgepgjaaW.PrintLast Go.Proofs.YthcmokglgepgjaaW.PrintMore
set_option linter.unusedVariables false
set_option linter.unusedSimpArgs false
def bytes_Clone.f (l0 : List Int) : Option (List Int) := if l0.length < 140737488355328 then some l0 else none
set_option maxHeartbeats 8000000 in
set_option maxRecDepth 100000 in
theorem bytes_Clone.calls (A0 : Option Addr) (c0 : Nat) (l0 : List Int) (r : List Int) (w : World) (hr0 : Kd.C (Kd.int .u8) w A0 l0.length l0) (hc0 : l0.length ≤ c0) (h : bytes_Clone.f l0 = some r) :
    Calls Try.prog 69 #[.slice A0 l0.length c0] w fun e w' => ∃ v0_ : Value, e = .returned v0_ ∧ Kd.R (Kd.int .u8) 5 w' w.heap.size (fun _ => True) v0_ r ∧ Below w.heap.size w w' := by
  unfold bytes_Clone.f at h
  by_cases hf : l0.length < 140737488355328
  case neg => rw [if_neg hf] at h; cases h
  rw [if_pos hf] at h
  obtain rfl := Option.some.inj h
  clear h
  have HR0 := Aside0.mk hr0
  have HL := Aside0.mk hf
  clear hf
  cases A0 with
  | none =>
    have hl0 : l0 = [] := by
      rcases Nat.eq_zero_or_pos l0.length with h | h
      · exact List.eq_nil_of_length_eq_zero h
      · obtain ⟨ad, hn, _⟩ := hr0.2.2 h; cases hn
    subst hl0
    have hnil : ∀ W, (binOp .eql 22 (.slice none 0 c0) (.slice none 0 0)).run Try.prog W = .ok (.bool true) W := fun W => Lib.run_eql_slice_nil W _ _ _ _ _ _ _ Try.underlying22
    go_enter Try.func69, Try.ntmps69
    go_wp2_with fail
    go_ret
    exact ⟨_, rfl, Kd.R_nil _ _ _ _ _, Below.refl _ _⟩
  | some ad =>
    have hnil : ∀ W, (binOp .eql 22 (.slice (some ad) l0.length c0) (.slice none 0 0)).run Try.prog W = .ok (.bool false) W := fun W => Lib.run_eql_slice_nil W _ _ _ _ _ _ _ Try.underlying22
    go_enter Try.func69, Try.ntmps69
    go_wp2_with (first | ((with_reducible refine gate_dst (N := 5) rfl ?_); refine Kd.R_lit (Kd.int .u8) _ 5 ?hg (N := 5) ?hd (xs := ([] : List Int)) (inner := []) (ok := fun _ => True) (okp := fun _ => True) ?hr ?hp (fun _ hk => hk) trivial (Below.refl _ _) (Nat.le_refl _) (by simp) ?_; (case hd => rfl); (case hg => rfl); (case hr => first | (go_simp; done) | (go_simp; rfl)); (case hp => exact (Reps.none _ _)); intro v205 w2 ho3 hb hg_ hnew_; clear hg_ hnew_; have HO := Aside0.mk ho3; have HB := Aside0.mk hb; clear ho3 hb) | ((with_reducible refine gate_builtin (b := .append) (xs := #[.tmp 5, .tmp 6]) rfl ?_); at_builtin; refine Kd.R_append_rows (Kd.int .u8) (w0 := w) w.heap.size rfl (.tmp 5) (.tmp 6) 22 5 (.int .u8 0) 1 rfl Try.underlying22 info5 rfl (by decide) (by omega) v205 [] l0 _ _ _ (fun _ => True) (fun _ => False) rfl rfl HO.out (Kd.C_below HR0.out HB.out) (fun _ _ h => h) (fun _ h => h.elim) (fun _ _ => trivial) HB.out (below_size HB.out) (by have := HL.out; rw [List.length_nil]; omega) ?_; intro v4 w4 ho hb hg hat; have HO4 := Aside0.mk ho; have HB4 := Aside0.mk hb; clear HO HB ho hb hg hat))
    go_ret
    exact ⟨_, rfl, by have := HO4.out; rwa [List.nil_append] at this, HB4.out⟩
end Go.Proofs.Ythcmokglgepgjaa.X
/- The contract of (*vint.Source).Take: the first bytes, in memory of their own; or it failed. -/
namespace Go.Proofs.Ythcmokglgepgjaa.X
open Go.RowKit Go.Proofs.YthcmokglgepgjaaW.PrintWords Go.Proofs.YthcmokglgepgjaaW.PrintLast Go.Proofs.YthcmokglgepgjaaW.PrintMore
set_option linter.unusedVariables false
set_option linter.unusedSimpArgs false
def takeS (l : List Int) (bad : Bool) (n : Int) : List Int × List Int × Bool :=
  if bad = true ∨ n < 0 ∨ (l.length : Int) < n then ([], [], true) else (l.take n.toNat, l.drop n.toNat, false)
def vint_Source_Take.f (l : List Int) (bad : Bool) (n : Int) : Option (List Int × List Int × Bool) := if l.length < 1000000000000 then some (takeS l bad n) else none
set_option maxHeartbeats 8000000 in
set_option maxRecDepth 100000 in
theorem vint_Source_Take.calls (g : Nat) (s0_0 : List Int) (s0_1 : Bool) (a1 : Int) (r1 : List Int) (r2 : List Int) (r3 : Bool) (w0 w : World) (hI : IsS90 w0 w g s0_0 s0_1) (hB : Below w0.heap.size w0 w) (h : vint_Source_Take.f s0_0 s0_1 a1 = some (r1, r2, r3)) :
    Calls Try.prog 45 #[.pointer (some ⟨g, 0, none⟩), .int .i64 a1] w fun e w' => ∃ v0_ : Value, e = .returned v0_ ∧ Kd.R (Kd.int .u8) 5 w' w.heap.size (fun _ => True) v0_ r1 ∧ IsS90 w0 w' g r2 r3 ∧ Below w0.heap.size w0 w' ∧ KeepBut w w' g none := by
  unfold vint_Source_Take.f at h
  by_cases hf : s0_0.length < 1000000000000
  case neg => rw [if_neg hf] at h; cases h
  rw [if_pos hf] at h
  have h := Option.some.inj h
  unfold takeS at h
  have HF := Aside0.mk hf
  clear hf
  by_cases ht : s0_1 = true ∨ a1 < 0 ∨ (s0_0.length : Int) < a1
  · rw [if_pos ht] at h
    simp only [Prod.mk.injEq] at h
    obtain ⟨rfl, rfl, rfl⟩ := h
    obtain ⟨bn, hbn⟩ : ∃ b_ : Bool, decide (a1 < 0) = b_ := ⟨_, rfl⟩
    obtain ⟨bl, hbl⟩ : ∃ b_ : Bool, decide ((s0_0.length : Int) < a1) = b_ := ⟨_, rfl⟩
    have hx : (s0_1 || bn || bl) = true := by rw [← hbn, ← hbl]; simp only [Bool.or_eq_true, decide_eq_true_eq]; exact (or_assoc).mpr ht
    clear ht
    have hu := Try.underlying90
    cases s0_1 <;> cases bn <;> cases bl <;> first
      | (exact absurd hx (by decide))
      | (clear hx
         go_enter Try.func45, Try.ntmps45
         go_wp2_with fail
         refine (vint_Source_Ok.calls g s0_0 _ _ s0_0 _ w0 _ hI hB rfl).mono ?_
         rintro e w1 ⟨rfl, hI1, hB1, hK1⟩
         have HI1 := Aside0.mk hI1
         obtain ⟨A1, c1, hb1, hg1, hr1, hc1⟩ := hI1
         have h0 : w1.cell? ⟨g, 0, none⟩ = some (.slice A1 s0_0.length c1) := (blk_cell hb1 0).trans rfl
         clear hb1 hr1
         go_wp2_with fail
         refine (vint_Source_Fail.calls g s0_0 _ [] true w0 _ HI1.out hB1 rfl).mono ?_
         rintro e w2 ⟨rfl, hI2, hB2, hK2⟩
         go_wp2_with fail
         go_ret
         exact ⟨_, rfl, Kd.R_nil _ _ _ _ _, hI2, hB2, hK1.trans hK2 (.inl rfl)⟩)
  · rw [if_neg ht] at h
    simp only [Prod.mk.injEq] at h
    obtain ⟨rfl, rfl, rfl⟩ := h
    have hbad : s0_1 = false := by cases s0_1 <;> simp_all
    subst hbad
    obtain ⟨m, rfl⟩ : ∃ m : Nat, a1 = (m : Int) := ⟨a1.toNat, by omega⟩
    rw [Int.toNat_natCast]
    have hm : m ≤ s0_0.length := by omega
    have hbn : decide ((m : Int) < 0) = false := decide_eq_false (by omega)
    have hbl : decide ((s0_0.length : Int) < (m : Int)) = false := decide_eq_false (by omega)
    have hbl2 : decide (s0_0.length < m) = false := decide_eq_false (by omega)
    have hu := Try.underlying90
    clear ht
    go_enter Try.func45, Try.ntmps45
    go_wp2_with fail
    refine (vint_Source_Ok.calls g s0_0 _ _ s0_0 _ w0 _ hI hB rfl).mono ?_
    rintro e w1 ⟨rfl, hI1, hB1, hK1⟩
    have HI1 := Aside0.mk hI1
    obtain ⟨A1, c1, hb1, hg1, hr1, hc1⟩ := hI1
    have h0 : w1.cell? ⟨g, 0, none⟩ = some (.slice A1 s0_0.length c1) := (blk_cell hb1 0).trans rfl
    have HB1 := Aside0.mk hb1
    clear hb1
    go_wp2_with fail
    have hlm : (s0_0.take m).length = m := by rw [List.length_take]; omega
    have HCl := bytes_Clone.calls A1 c1 (s0_0.take m) (s0_0.take m) w1 (Kd.C_take (Kd.C_below hr1 hB1) hm) (by omega) (by unfold bytes_Clone.f; have := HF.out; rw [if_pos (by omega)])
    rw [hlm] at HCl
    refine HCl.mono ?_
    rintro e w2 ⟨v2, rfl, R2, b2⟩
    have HR2 := Aside0.mk R2
    have HG2 := Aside0.mk (blk_below HB1.out b2)
    have B2 := below_step hB1 b2
    have HI2 := Aside0.mk (IsS90.below HI1.out b2)
    have HKB := Aside0.mk hK1
    have K2 := hK1.trans (KeepBut.of_below b2 g none) (.inl rfl)
    have hlt1 : g < w1.heap.size := blk_lt HB1.out
    have HL1 := Aside0.mk hlt1
    have h0 : w2.cell? ⟨g, 0, none⟩ = some (.slice A1 s0_0.length c1) := (blk_cell HG2.out 0).trans rfl
    have f0 := blk_frozen HG2.out 0
    have HD := Lib.hid (Kd.C_drop (m := m) hr1 (by omega) hc1)
    have HL := Lib.hid (show (s0_0.drop m).length = s0_0.length - m from List.length_drop)
    have HR3 : Aside0 (∀ u, Kd.R (Kd.int .u8) 5 (w2.setCell ⟨g, 0, none⟩ u) w.heap.size (fun _ => True) v2 (s0_0.take m)) := ⟨fun u => Kd.R_mono (Kd.R_far (p := ⟨g, 0, none⟩) (Kd.R_lower (Kd.R_bound HR2.out) HKB.out.1) (fun k hk => by have := HL1.out; have := hk.2.1; show k ≠ g; omega) u) (fun _ _ => trivial)⟩
    clear R2 b2 hlt1 hlm HB1 HI1 hB1 hK1 HCl
    by_cases hcj : c1 = m
    · subst hcj
      have hl0 : s0_0.length - c1 = 0 := by omega
      have HL0 := Lib.hid hl0
      clear hl0
      go_wp2_with fail
      go_ret
      refine ⟨_, rfl, HR3.out _, ⟨A1, 0, ?_, hg1, ?_, ?_⟩, below_set B2 hg1, KeepBut.set_ K2 0 _⟩
      · have h2 := blk_set HG2.out 0 (.slice A1 0 0)
        have e : (s0_0.drop c1).length = 0 := by rw [HL.out]; exact HL0.out
        rw [e]
        simpa using h2
      · have := HD.out
        simp only [if_true] at this
        exact this
      · rw [HL.out]; omega
    · go_wp2_with fail
      go_ret
      refine ⟨_, rfl, HR3.out _, ⟨A1.map (·.add m), c1 - m, ?_, hg1, ?_, ?_⟩, below_set B2 hg1, KeepBut.set_ K2 0 _⟩
      · have h2 := blk_set HG2.out 0 (.slice (A1.map (·.add m)) (s0_0.length - m) (c1 - m))
        rw [← HL.out] at h2
        rw [← HL.out]
        simpa using h2
      · have := HD.out
        rw [if_neg hcj] at this
        have e : (Kd.int .u8).sz = 1 := rfl
        rw [e, Nat.mul_one] at this
        exact this
      · rw [HL.out]; omega
end Go.Proofs.Ythcmokglgepgjaa.X
/- The contract of vint.From: a source that reads the bytes, in a block of its own. -/
namespace Go.Proofs.Ythcmokglgepgjaa.X
open Go.RowKit Go.Proofs.YthcmokglgepgjaaW.PrintWords Go.Proofs.YthcmokglgepgjaaW.PrintLast Go.Proofs.YthcmokglgepgjaaW.PrintMore
set_option linter.unusedVariables false
set_option linter.unusedSimpArgs false
def vint_From.f (l0 : List Int) : Option (List Int × Bool) := some (l0, false)
set_option maxHeartbeats 8000000 in
set_option maxRecDepth 100000 in
theorem vint_From.calls2 (A0 : Option Addr) (c0 : Nat) (l0 : List Int) (w0 w : World) (hB : Below w0.heap.size w0 w) (hr0 : Kd.C (Kd.int .u8) w0 A0 l0.length l0) (hc0 : l0.length ≤ c0) :
    Calls Try.prog 43 #[.slice A0 l0.length c0] w fun e w' => ∃ g_ : Nat, e = .returned (.pointer (some ⟨g_, 0, none⟩)) ∧ IsS90 w0 w' g_ l0 false ∧ Below w0.heap.size w0 w' ∧ Below w.heap.size w w' ∧ w.heap.size ≤ g_ := by
  have hu := Try.underlying90
  go_enter Try.func43, Try.ntmps43
  go_wp2
  go_ret
  refine ⟨w.heap.size, rfl, IsS90.new w0 w A0 c0 l0 false hB ⟨hr0, hc0⟩, hB.alloc hB.size _, below_alloc (Below.refl _ _) _, Nat.le_refl _⟩
theorem vint_From.calls (A0 : Option Addr) (c0 : Nat) (l0 : List Int) (r1 : List Int) (r2 : Bool) (w0 w : World) (hB : Below w0.heap.size w0 w) (hr0 : Kd.C (Kd.int .u8) w0 A0 l0.length l0) (hc0 : l0.length ≤ c0) (h : vint_From.f l0 = some (r1, r2)) :
    Calls Try.prog 43 #[.slice A0 l0.length c0] w fun e w' => ∃ g_ : Nat, e = .returned (.pointer (some ⟨g_, 0, none⟩)) ∧ IsS90 w0 w' g_ r1 r2 ∧ Below w0.heap.size w0 w' ∧ Below w.heap.size w w' := by
  unfold vint_From.f at h
  simp only [Option.some.injEq, Prod.mk.injEq] at h
  obtain ⟨rfl, rfl⟩ := h
  exact (vint_From.calls2 A0 c0 l0 w0 w hB hr0 hc0).mono fun e w' ⟨g, h1, h2, h3, h4, _⟩ => ⟨g, h1, h2, h3, h4⟩
end Go.Proofs.Ythcmokglgepgjaa.X
/- What a source tells without being read from: the world stays as it is. -/
namespace Go.Proofs.Ythcmokglgepgjaa.X
open Go.RowKit Go.Proofs.YthcmokglgepgjaaW.PrintWords Go.Proofs.YthcmokglgepgjaaW.PrintLast Go.Proofs.YthcmokglgepgjaaW.PrintMore
set_option linter.unusedVariables false
set_option linter.unusedSimpArgs false
set_option maxHeartbeats 4000000 in
set_option maxRecDepth 100000 in
theorem vint_Source_Ok.same (g : Nat) (l : List Int) (bad : Bool) (w0 w : World) (hI : IsS90 w0 w g l bad) : Calls Try.prog 46 #[.pointer (some ⟨g, 0, none⟩)] w fun e w' => e = .returned (.bool !bad) ∧ w' = w := by
  have HI := Aside0.mk hI
  obtain ⟨A1, c1, hb1, hg1, hr1, hc1⟩ := hI
  have h0 : w.cell? ⟨g, 0, none⟩ = some (.slice A1 l.length c1) := (blk_cell hb1 0).trans rfl
  have h1 : w.cell? ⟨g, 1, none⟩ = some (.bool bad) := (blk_cell hb1 1).trans rfl
  have hu := Try.underlying90
  have hne : ∀ w : World, (binOp .neq 65 (.pointer (some ⟨g, 0, none⟩)) (.pointer none)).run Try.prog w = .ok (.bool true) w := fun w => run_neq_pointer_nil w 65 (some ⟨g, 0, none⟩) (by kernel_rfl)
  clear hb1
  cases bad <;>
    (go_enter Try.func46, Try.ntmps46
     go_wp2_with fail
     go_ret
     exact ⟨rfl, rfl⟩)
set_option maxHeartbeats 4000000 in
set_option maxRecDepth 100000 in
theorem vint_Source_Left.same (g : Nat) (l : List Int) (bad : Bool) (w0 w : World) (hI : IsS90 w0 w g l bad) : Calls Try.prog 47 #[.pointer (some ⟨g, 0, none⟩)] w fun e w' => e = .returned (.int .i64 (if bad = true then 0 else (l.length : Int))) ∧ w' = w := by
  have HI := Aside0.mk hI
  obtain ⟨A1, c1, hb1, hg1, hr1, hc1⟩ := hI
  have h0 : w.cell? ⟨g, 0, none⟩ = some (.slice A1 l.length c1) := (blk_cell hb1 0).trans rfl
  have h1 : w.cell? ⟨g, 1, none⟩ = some (.bool bad) := (blk_cell hb1 1).trans rfl
  have hu := Try.underlying90
  clear hb1
  cases bad <;>
    (go_enter Try.func47, Try.ntmps47
     go_wp2_with (refine (vint_Source_Ok.same g l _ w0 _ HI.out).mono ?_; rintro e w1 ⟨rfl, rfl⟩)
     go_ret
     exact ⟨rfl, rfl⟩)
theorem vint_Source_Left.same2 (g : Nat) (l : List Int) (bad : Bool) (w0 w : World) (hI : IsS90 w0 w g l bad) (hg : bad = true → l = []) : Calls Try.prog 47 #[.pointer (some ⟨g, 0, none⟩)] w fun e w' => e = .returned (.int .i64 (l.length : Int)) ∧ w' = w := by
  have h := vint_Source_Left.same g l bad w0 w hI
  have e : (if bad = true then (0 : Int) else (l.length : Int)) = (l.length : Int) := by
    cases bad
    · rfl
    · rw [hg rfl]; rfl
  rwa [e] at h
end Go.Proofs.Ythcmokglgepgjaa.X
/- The contract of frame.Get: the bytes of the frame that bytes begin with, how many bytes that has, and an error's number. -/
namespace Go.Proofs.Ythcmokglgepgjaa.X
open Go.RowKit Go.Proofs.YthcmokglgepgjaaW.PrintWords Go.Proofs.YthcmokglgepgjaaW.PrintLast Go.Proofs.YthcmokglgepgjaaW.PrintMore
set_option linter.unusedVariables false
set_option linter.unusedSimpArgs false
def frame_Get.f (k : Nat) (l0 : List Int) : Option (List Int × Int × Int) := (vint_From.f l0).bind fun bt148 => ((vint_Source_Below.f bt148.1 bt148.2 1048577).bind fun bt151 => ((vint_Source_Take.f bt151.2.1 bt151.2.2 4).bind fun bt154 => ((vint_Source_Take.f bt154.2.1 bt154.2.2 bt151.1).bind fun bt159 => ((vint_Source_Ok.f bt159.2.1 bt159.2.2).bind fun bt164 => (if bt164.1 = true then ((frame_sumOf.f k bt159.1).bind fun t167 => (if (strOfNums bt154.1).toList = (strOfNums t167).toList then ((vint_Source_Left.f bt164.2.1 bt164.2.2).bind fun bt170 => (some (bt159.1, wrap64 ((l0.length : Int) - bt170.1), 0))) else (some (([] : List Int), 0, 13)))) else (some (([] : List Int), 0, 2)))))))
theorem frame_Get.mono : ∀ a0 k, LeO (frame_Get.f k a0) (frame_Get.f (k + 1) a0) := by
  intro a0 k
  unfold frame_Get.f
  repeat' first
      | (with_reducible exact frame_sumOf.mono _ _)
      | (with_reducible exact LeO.refl _)
      | (with_reducible exact LeO.none _)
      | (with_reducible refine LeO.ite ?_ ?_)
      | (with_reducible refine LeO.bind ?_ (fun _ => ?_))
      | exact frame_sumOf.mono _ _
set_option maxHeartbeats 8000000 in
set_option maxRecDepth 100000 in
theorem frame_Get.calls (k : Nat) (A0 : Option Addr) (c0 : Nat) (l0 : List Int) (r1 : List Int) (r2 : Int) (r3 : Int) (w : World) (hr0 : Kd.C (Kd.int .u8) w A0 l0.length l0) (hc0 : l0.length ≤ c0) (h : frame_Get.f k l0 = some (r1, r2, r3)) :
    Calls Try.prog 15 #[.slice A0 l0.length c0] w fun e w' => ∃ v0_ : Value, e = .returned (.tuple #[v0_, .int .i64 r2, .int .i64 r3]) ∧ Kd.R (Kd.int .u8) 5 w' w.heap.size (fun _ => True) v0_ r1 ∧ Below w.heap.size w w' := by
  unfold frame_Get.f at h
  obtain ⟨⟨t0, b0⟩, e0, h⟩ := Option.bind_eq_some_iff.mp h
  obtain ⟨rfl, rfl⟩ : l0 = t0 ∧ false = b0 := by unfold vint_From.f at e0; injection e0 with e0; injection e0 with e1 e2; exact ⟨e1, e2⟩
  obtain ⟨⟨n, l1, b1⟩, e1, h⟩ := Option.bind_eq_some_iff.mp h
  obtain ⟨⟨s, l2, b2⟩, e2, h⟩ := Option.bind_eq_some_iff.mp h
  obtain ⟨⟨x, l3, b3⟩, e3, h⟩ := Option.bind_eq_some_iff.mp h
  obtain ⟨⟨ok, l4, b4⟩, e4, h⟩ := Option.bind_eq_some_iff.mp h
  have HH := Aside0.mk h
  have E1 := Aside0.mk e1
  have E2 := Aside0.mk e2
  have E3 := Aside0.mk e3
  have E4 := Aside0.mk e4
  have HR0 := Aside0.mk hr0
  have hm0 := Kd.C_max hr0
  clear h e0 e1 e2 e3 e4 hr0
  go_enter Try.func15, Try.ntmps15
  go_wp2_with fail
  refine (vint_From.calls2 A0 c0 l0 w w (Below.refl _ _) HR0.out hc0).mono ?_
  rintro e w1 ⟨g, rfl, s1, B1, b1', hgw⟩
  go_wp2_with fail
  refine (vint_Source_Below.calls g l0 false 1048577 n l1 b1 w _ s1 B1 E1.out).mono ?_
  rintro e w2 ⟨rfl, s2, B2, K2⟩
  clear s1 B1 b1' K2
  go_wp2_with fail
  refine (vint_Source_Take.calls g l1 b1 4 s l2 b2 w _ s2 B2 E2.out).mono ?_
  rintro e w3 ⟨v3, rfl, R3, s3, B3, K3⟩
  have hg2 := IsS90.lt s2
  have R3' := Kd.R_bound R3
  clear s2 K3
  go_wp2_with fail
  refine (vint_Source_Take.calls g l2 b2 n x l3 b3 w _ s3 B3 E3.out).mono ?_
  rintro e w4 ⟨v4, rfl, R4, s4, B4, K4⟩
  have hg3 := IsS90.lt s3
  have R3'' := Kd.R_keep R3' K4 (fun k hk => by have := hk.2.1; omega)
  have HR3 := Aside0.mk (Kd.R_bound R3'')
  have HR4 := Aside0.mk (Kd.R_lower (Kd.R_mono (ok' := fun k_ => k_ ≠ g) (Kd.R_bound R4) (fun k hk => by have := hk.2.1; omega)) (below_size B3))
  have HB2 := Aside0.mk (below_size B2)
  clear s3 B3 K4 R3 R3' R3'' R4 B2 hg2 hg3
  go_wp2_with fail
  refine (vint_Source_Ok.same g l3 b3 w _ s4).mono ?_
  rintro e w5 ⟨rfl, rfl⟩
  obtain ⟨rfl, rfl, rfl⟩ : (!b3) = ok ∧ l3 = l4 ∧ b3 = b4 := by have e4 := E4.out; unfold vint_Source_Ok.f at e4; injection e4 with e4; injection e4 with e5 e4; injection e4 with e6 e7; exact ⟨e5, e6, e7⟩
  have HB4 := Aside0.mk (below_step (Below.refl _ _) B4)
  cases b3 with
  | true =>
    have h := HH.out
    simp only [Bool.not_true, Bool.false_eq_true, if_false, Option.some.injEq, Prod.mk.injEq] at h
    obtain ⟨rfl, rfl, rfl⟩ := h
    go_wp2_with fail
    go_ret3
    exact ⟨_, rfl, Kd.R_nil _ _ _ _ _, B4⟩
  | false =>
    have h := HH.out
    simp only [Bool.not_false, if_true] at h
    obtain ⟨t, e5, h⟩ := Option.bind_eq_some_iff.mp h
    have E5 := Aside0.mk e5
    have HH2 := Aside0.mk h
    obtain ⟨A3, c3, rfl, hc3, C3⟩ := Kd.R_reads HR3.out
    obtain ⟨A4, c4, rfl, hc4, C4⟩ := Kd.R_reads HR4.out
    have HV4 : Aside0 (Kd.V (Kd.int .u8) 5 w5.drew w5.drew.heap.size (fun k_ => k_ < w5.heap.size) (.slice A4 x.length c4) x) := ⟨Kd.V_mk hc4 (Kd.F_drew (Kd.C_F (Kd.heap_int .u8) C4))⟩
    have HCV : Aside0 (∀ W, Below w5.heap.size w5 W → (convert 22 9 (.slice A3 s.length c3)).run Try.prog W = .ok (.string (strOfNums s)) W) := ⟨fun W hW => string_of_reads Try.underlying22 Try.underlying5 Try.underlying9 (readsInt_of.mpr (Kd.reads_of_C (Kd.C_below C3 hW)))⟩
    have HBD : Aside0 (Below w5.heap.size w5 w5.drew) := ⟨below_drew (Below.refl _ _)⟩
    clear h e5 HH C3 C4
    go_upto_region 7 with (fail)
    have hcvA := HCV.out _ HBD.out
    go_cut [22] (fun v22 wx => v22 = .bool (!((strOfNums s).toList == (strOfNums t).toList)) ∧ Aside0 (Below w5.heap.size w5 wx))
    case first =>
      go_region_with ((go_at_call 42; refine (frame_sumOf.calls k (fun k_ => k_ < w5.heap.size) A4 c4 x t _ HV4.out E5.out).mono ?_; rintro e w6 ⟨v6, rfl, R6, b6⟩; obtain ⟨A6, c6, rfl, hc6, C6⟩ := Kd.R_reads R6; have hcv6 := string_of_reads Try.underlying22 Try.underlying5 Try.underlying9 (c := c6) (readsInt_of.mpr (Kd.reads_of_C (d := (0 : Int)) C6)); have hcvB := HCV.out _ (below_step HBD.out b6); have HB9 := Aside0.mk (below_step HBD.out b6); clear R6 C6 b6))
      all_goals
        go_wp2_with fail
        go_meet
        case rel => exact ⟨rfl, HB9⟩
    case rest =>
    obtain ⟨rfl, HBX⟩ := hcut
    have HB6 := Aside0.mk (below_step B4 HBX.out)
    have s6 := IsS90.below s4 HBX.out
    by_cases he : (strOfNums s).toList = (strOfNums t).toList
    · have h := HH2.out
      rw [if_pos he] at h
      obtain ⟨⟨m, l5, b5⟩, e6, h⟩ := Option.bind_eq_some_iff.mp h
      simp only [Option.some.injEq, Prod.mk.injEq] at h
      obtain ⟨rfl, rfl, rfl⟩ := h
      have E6 := Aside0.mk e6
      have hb1 : ((strOfNums s).toList == (strOfNums t).toList) = true := by rw [he]; exact beq_self_eq_true _
      have hb2 : ((strOfNums s).toList != (strOfNums t).toList) = false := by rw [he]; simp
      rw [hb1]
      clear e6 he hb1 hb2
      go_wp2_with fail
      refine (vint_Source_Left.calls g l3 false m l5 b5 w _ s6 HB6.out E6.out).mono ?_
      rintro e w7 ⟨rfl, s7, B7, K7⟩
      have R7 := Kd.R_mono (ok' := fun _ => True) (Kd.R_keep (Kd.R_below HR4.out HBX.out) K7 (fun k hk => hk)) (fun _ _ => trivial)
      go_wp2_with fail
      go_ret3
      exact ⟨_, rfl, R7, B7⟩
    · have h := HH2.out
      rw [if_neg he] at h
      simp only [Option.some.injEq, Prod.mk.injEq] at h
      obtain ⟨rfl, rfl, rfl⟩ := h
      have hb1 : ((strOfNums s).toList == (strOfNums t).toList) = false := beq_eq_false_iff_ne.mpr he
      have hb2 : ((strOfNums s).toList != (strOfNums t).toList) = true := by rw [bne_iff_ne]; exact he
      rw [hb1]
      clear he hb1 hb2
      go_wp2_with fail
      go_ret3
      exact ⟨_, rfl, Kd.R_nil _ _ _ _ _, HB6.out⟩
end Go.Proofs.Ythcmokglgepgjaa.X
/- The contract of frame.All: the bytes of the frames that bytes begin with, and how many bytes these have. -/
namespace Go.Proofs.Ythcmokglgepgjaa.X
open Go.RowKit Go.Shelf Go.Proofs.Ythcmokglgepgjaa.RangeT Go.Proofs.YthcmokglgepgjaaW.PrintWords Go.Proofs.YthcmokglgepgjaaW.PrintLast Go.Proofs.YthcmokglgepgjaaW.PrintMore
set_option linter.unusedVariables false
set_option linter.unusedSimpArgs false
attribute [local go_sem] Oper.semAt_some
/-- The frames that bytes begin with, from a place on. -/
def frame_All.l0 : Nat → List Int → List (List Int) → Int → Option (List (List Int) × Int)
  | 0, _, _, _ => none
  | k + 1, l, acc, at_ => if at_ < (l.length : Int) then (if 0 ≤ at_ then ((frame_Get.f k (l.drop at_.toNat)).bind fun t => if t.2.2 = 0 then (if acc.length < 5864062014805 then frame_All.l0 k l (acc ++ [t.1]) (wrap64 (at_ + t.2.1)) else none) else some (acc, at_)) else none) else some (acc, at_)
def frame_All.f (k : Nat) (l : List Int) : Option (List (List Int) × Int) := frame_All.l0 k l [] 0
theorem frame_All.mono_l : ∀ k, (∀ y0 y1 y2, LeO (frame_All.l0 k y0 y1 y2) (frame_All.l0 (k + 1) y0 y1 y2))
  | 0 => fun _ _ _ r h => by simp [frame_All.l0] at h
  | k + 1 => by
    have ih0 := frame_All.mono_l k
    intro y0 y1 y2
    unfold frame_All.l0
    repeat' first
      | (with_reducible exact ih0 _ _ _)
      | (with_reducible exact frame_Get.mono _ _)
      | (with_reducible exact LeO.refl _)
      | (with_reducible exact LeO.none _)
      | (with_reducible refine LeO.ite ?_ ?_)
      | (with_reducible refine LeO.bind ?_ (fun _ => ?_))
theorem frame_All.mono : ∀ a0 k, LeO (frame_All.f k a0) (frame_All.f (k + 1) a0) := fun a0 k => frame_All.mono_l k _ _ _
/-- A frame that was yielded: where its bytes lie, these, and where the next one begins. -/
structure Fr where
  A : Option Addr
  c : Nat
  l : List Int
  nx : Int
def Fr.val (x : Fr) : Value := .slice x.A x.l.length x.c
def frEnd (pre : List Fr) : Int := match pre.getLast? with | none => 0 | some x => x.nx
theorem frEnd_snoc (pre : List Fr) (x : Fr) : frEnd (pre ++ [x]) = x.nx := by simp [frEnd]
/-- Its bytes are read where it says, and lie in memory of their own. -/
def Fr.ok (x : Fr) (base : Nat) (W : World) : Prop := Kd.R (Kd.int .u8) 5 W base (fun _ => True) x.val x.l
theorem Fr.ok_step {x : Fr} {base : Nat} {W W' : World} (h : x.ok base W) (hs : ∀ (k : Nat) (cs : Array Value), base ≤ k → W.heap[k]? = some (.cells cs 5 (0, 0)) → W'.heap[k]? = W.heap[k]?) : x.ok base W' :=
  Kd.R_mono (Kd.R_step (Kd.R_bound h) (fun k hk _ => by
    obtain ⟨_, hb, _, q, hq, cells, hc⟩ := hk
    obtain rfl : q = 5 := by simpa [Kd.int, Kd.scalar] using hq
    exact hs k cells hb hc)) (fun _ _ => trivial)
theorem Fr.ok_below {x : Fr} {base : Nat} {W W' : World} (h : x.ok base W) (hb : Below W.heap.size W W') : x.ok base W' := Fr.ok_step h fun k cs _ hk => hb.block k (Array.getElem?_eq_some_iff.1 hk).1
/-- What the loop of frame.All keeps: its variables, the box that the iterator reads, and the frames' bytes. -/
def FrI (w : World) (b0 b1 b2 : Nat) (A0 : Option Addr) (n0 c0 : Nat) (pre : List Fr) (W : World) : Prop :=
  Below w.heap.size w W ∧ (∃ v, Boxed W b0 34 v ∧ W.ownsRow w.heap.size 22 1 v pre.length (pre.map Fr.val) ∧ some b2 ≠ v.ownBlock) ∧ Boxed W b1 3 (.int .i64 (frEnd pre)) ∧ Boxed W b2 22 (.slice A0 n0 c0) ∧ ∀ x ∈ pre, x.ok w.heap.size W
theorem FrI.turns {w : World} {b0 b1 b2 : Nat} {A0 : Option Addr} {n0 c0 : Nat} {pre : List Fr} {W W' : World} {B : Nat} (hB : w.heap.size ≤ B) (ht : Turns B W W') (h : FrI w b0 b1 b2 A0 n0 c0 pre W) : FrI w b0 b1 b2 A0 n0 c0 pre W' := by
  obtain ⟨hb, ⟨v, hv, hr, hn⟩, h1, h2, hx⟩ := h
  have ht' : Turns w.heap.size W W' := ⟨ht.1, ht.2.1, ht.2.2.1, ht.2.2.2.1, fun k o hk ho => ht.2.2.2.2 k o hk (ho.imp id (fun h => Nat.lt_of_lt_of_le h hB))⟩
  have hcell : ∀ (k : Nat) (cs : Array Value) (q : TypeId), W.heap[k]? = some (.cells cs q (0, 0)) → W'.heap[k]? = W.heap[k]? := fun k cs q hk => (ht.2.2.2.2 k _ hk (.inl rfl)).trans hk.symm
  refine ⟨ht'.below hb (Nat.le_refl _), ⟨v, ht.2.2.2.2 _ _ hv (.inl rfl), own_move hr (fun k hk => ?_), hn⟩, ht.2.2.2.2 _ _ h1 (.inl rfl), ht.2.2.2.2 _ _ h2 (.inl rfl), fun x hm => Fr.ok_step (hx x hm) fun k cs _ hk => hcell k cs _ hk⟩
  obtain ⟨cs, hcs⟩ := own_typed hr k hk
  exact hcell k cs _ hcs
set_option maxHeartbeats 8000000 in
set_option maxRecDepth 100000 in
theorem frame_each1.yields (k : Nat) (l0 : List Int) (A0 : Option Addr) (c0 : Nat) (r1 : List (List Int)) (r2 : Int) (w : World) (b0 b1 b2 : Nat) (l : Nat) (J : List Fr → World → Prop) (W : World) (m : Nat) (hm : 1 ≤ m)
    (hr0 : Kd.C (Kd.int .u8) w A0 l0.length l0) (hc0 : l0.length ≤ c0)
    (hJI : ∀ pre W, J pre W → FrI w b0 b1 b2 A0 l0.length c0 pre W) (hJB : ∀ pre W W', Below W.heap.size W W' → J pre W → J pre W') (hJ0 : J [] W)
    (hY : ∀ pre x W1, J pre W1 → (pre.length < 5864062014805 ∧ x.ok w.heap.size W1) → YieldAt Fence.wide (m - 1) Try.prog l #[x.val, .int .i64 x.nx] W1 fun e W' => e = .returned (.bool true) ∧ J (pre ++ [x]) W')
    (h : frame_All.f k l0 = some (r1, r2)) :
    CallsIn Fence.wide m Try.prog 73 #[.func (.yield l) #[] #[], .pointer (some ⟨b2, 0, none⟩)] W fun e W' => (∃ v, e = .returned v) ∧ ∃ xs, (xs.map Fr.l = r1 ∧ frEnd xs = r2) ∧ J xs W' := by
  have hu := Try.underlying22
  obtain ⟨iu, hiu, _, hsu, _⟩ := info_parts (show (Try.prog.info? 5).map (fun i => (i.zero, i.size, i.bytes)) = some (some (.int .u8 0), 1, 1) by kernel_rfl)
  refine callsIn_of_wp Try.func73 rfl trivial ?_ rfl
  simp only [Try.ntmps73, List.size_toArray, List.length_cons, List.length_nil, Nat.reduceAdd, Nat.reduceSub, Array.replicate_succ, Array.replicate_zero, List.push_toArray, List.append_toArray, List.nil_append, List.cons_append]
  gi_wp2_with fail
  gi_loopg [3] k (fun kq v3 W' => ∃ (pre : List Fr), v3 = .int .i64 (frEnd pre) ∧ Aside0 (frame_All.l0 kq l0 (pre.map Fr.l) (frEnd pre) = some (r1, r2)) ∧ Aside0 (J pre W'))
  case atStart => exact ⟨[], rfl, ⟨h⟩, ⟨hJ0⟩⟩
  case round =>
    obtain ⟨pre, rfl, HA, HJ⟩ := hrel
    cases gk with
    | zero => exact absurd HA.out (by simp [frame_All.l0])
    | succ k1 =>
      have H := HA.out
      rw [frame_All.l0] at H
      obtain ⟨hB, _, _, hbox, _⟩ := hJI _ _ HJ.out
      have hbx := hbox.cell
      by_cases hlt : frEnd pre < (l0.length : Int)
      · rw [if_pos hlt] at H
        have hb1 : decide (frEnd pre < (l0.length : Int)) = true := decide_eq_true hlt
        by_cases h0 : 0 ≤ frEnd pre
        case neg => rw [if_neg h0] at H; cases H
        rw [if_pos h0] at H
        obtain ⟨at_, hat⟩ : ∃ n : Nat, frEnd pre = (n : Int) := ⟨(frEnd pre).toNat, by omega⟩
        rw [hat] at H hlt hb1 h0 ⊢
        rw [Int.toNat_natCast] at H
        have hle : at_ ≤ l0.length := by omega
        obtain ⟨⟨x, nn, e⟩, e1, H⟩ := Option.bind_eq_some_iff.mp H
        simp only at H
        obtain ⟨A', hcut, hC', hlen, hcap⟩ := Mem.cut_from' (P := Try.prog) (d := Kd.int .u8) 22 5 .i64 hu hiu (by rw [hsu]; rfl) (Kd.C_below hr0 hB) hle hc0
        have HG := Aside0.mk (fun W => frame_Get.calls k1 A' (c0 - at_) (l0.drop at_) x nn e W)
        rw [hlen] at HG
        have HC' := Aside0.mk hC'
        have E1 := Aside0.mk e1
        have HCap := Aside0.mk hcap
        have HH := Aside0.mk H
        have HAt := Aside0.mk hat
        have HB2 := Aside0.mk hB
        clear HA hB hbox e1 hcap hC' hlen hle hat
        gi_wp2_with fail
        refine ⟨trivial, ?_⟩
        refine (callsIn_wide.2 (HG.out wr HC'.out HCap.out E1.out)).mono ?_
        rintro e' W2 ⟨v, rfl, R2, bb⟩
        have HJ2 := Aside0.mk (hJB _ _ _ bb HJ.out)
        obtain ⟨A2, c2, rfl, hc2, C2⟩ := Kd.R_reads R2
        have R2' : Aside0 ((Fr.mk A2 c2 x (wrap64 (at_ + nn))).ok w.heap.size W2) := ⟨Kd.R_lower R2 (HB2.out).size⟩
        clear R2 C2 bb HJ HG HC' E1 HCap hcut hbx hb1 H
        by_cases he : e = 0
        · subst he
          have H := HH.out
          rw [if_pos rfl] at H
          by_cases hbig : (pre.map Fr.l).length < 5864062014805
          case neg => rw [if_neg hbig] at H; cases H
          rw [if_pos hbig] at H
          obtain ⟨fn, tmps, assign, body, hy, hR⟩ := hY pre ⟨A2, c2, x, wrap64 (at_ + nn)⟩ W2 HJ2.out ⟨by rwa [List.length_map] at hbig, R2'.out⟩
          have HR := Aside0.mk hR
          have H9 := Aside0.mk H
          clear hR H HH hY hJI hJB
          simp only [Fr.val] at hy
          gi_wp2_with fail
          refine HR.out.mono ?_
          rintro e9 W3 ⟨rfl, hJ3⟩
          gi_wp2_with fail
          go_roundg k1
          case measure => omega
          case rel => exact ⟨pre ++ [⟨A2, c2, x, wrap64 (at_ + nn)⟩], by rw [frEnd_snoc], ⟨by rw [frEnd_snoc, List.map_append]; exact H9.out⟩, ⟨hJ3⟩⟩
        · have H := HH.out
          rw [if_neg he] at H
          simp only [Option.some.injEq, Prod.mk.injEq] at H
          have hb2 : (e != 0) = true := by rw [bne_iff_ne]; exact he
          have H9 := Aside0.mk H
          clear H HH hY hJI hJB
          gi_wp2_with fail
          refine bodyPost_ret (results_none rfl _ _ _) rfl ?_
          exact ⟨⟨_, rfl⟩, pre, ⟨H9.out.1, HAt.out.trans H9.out.2⟩, HJ2.out⟩
      · rw [if_neg hlt] at H
        simp only [Option.some.injEq, Prod.mk.injEq] at H
        have hb1 : decide (frEnd pre < (l0.length : Int)) = false := decide_eq_false hlt
        have HH := Aside0.mk H
        clear H HA hB hbox hlt
        gi_wp2_with fail
        go_end0
        exact ⟨⟨_, rfl⟩, pre, HH.out, HJ.out⟩
set_option maxHeartbeats 8000000 in
set_option maxRecDepth 100000 in
theorem frame_each.calls (A : Option Addr) (n c : Nat) (w : World) :
    Calls Try.prog 52 #[.slice A n c] w fun e w' => e = .returned (.func (.func 73) #[] #[.pointer (some ⟨w.heap.size, 0, none⟩)]) ∧ w' = w.alloc (.cells #[.slice A n c] 22) := by
  refine (callsIn_wide (n := 3)).1 ?_
  refine callsIn_of_wp Try.func52 rfl trivial ?_ rfl
  simp only [Try.ntmps52, List.size_toArray, List.length_cons, List.length_nil, Nat.reduceAdd, Nat.reduceSub, Array.replicate_succ, Array.replicate_zero, List.push_toArray, List.append_toArray, List.nil_append, List.cons_append]
  gi_wp2_with fail
  go_ret
  exact ⟨rfl, rfl⟩
/-- The rows of the frames' bytes, out of the cells that hold them. -/
theorem frames_C {base : Nat} {W : World} {v : Value} {pre : List Fr} (hr : W.ownsRow base 22 1 v pre.length (pre.map Fr.val)) (hx : ∀ x ∈ pre, x.ok base W) :
    ∃ A c, v = .slice A pre.length c ∧ pre.length ≤ c ∧ Kd.C (Kd.slice 5 (Kd.int .u8)) W A pre.length (pre.map Fr.l) := by
  have hR : Reps ((Kd.slice 5 (Kd.int .u8)).K W) 1 (pre.map Fr.l) (pre.map Fr.val) := by
    refine ⟨by simp, fun j p hj => ?_⟩
    rw [List.getElem?_map] at hj
    obtain ⟨x, hx1, rfl⟩ := Option.map_eq_some_iff.1 hj
    have hl := (List.getElem?_eq_some_iff.1 hx1).1
    have e1 : ((pre.map Fr.val).drop (j * 1)).take 1 = [x.val] := by
      rw [Nat.mul_one, List.drop_eq_getElem_cons (by simpa using hl)]
      simp [(List.getElem?_eq_some_iff.1 hx1).2]
    rw [e1]
    obtain ⟨A, c, e2, hc, hC⟩ := Kd.R_reads (hx x (List.mem_of_getElem? hx1))
    exact ⟨A, c, by rw [e2], hc, hC⟩
  obtain ⟨A, c, rfl, h⟩ := own_reads_row hr hR (by simp)
  exact ⟨A, c, rfl, own_le hr, h⟩
theorem frames_V {w W : World} {v : Value} {pre : List Fr} (hr : W.ownsRow w.heap.size 22 1 v pre.length (pre.map Fr.val)) (hx : ∀ x ∈ pre, x.ok w.heap.size W) :
    Kd.V (Kd.slice 5 (Kd.int .u8)) 22 W w.heap.size (fun k_ => w.heap.size ≤ k_) v (pre.map Fr.l) := by
  obtain ⟨A, c, rfl, hc, _⟩ := frames_C hr hx
  refine ⟨A, c, by rw [List.length_map], by rw [List.length_map]; exact hc, fun W' hW => ?_⟩
  have hlt : ∀ (k : Nat) (o : Obj), W.heap[k]? = some o → k < W.heap.size := fun k o h => (Array.getElem?_eq_some_iff.1 h).1
  obtain ⟨A', c', e, _, hC⟩ := frames_C (W := W') (own_move hr (fun k hk => by
    have hb : w.heap.size ≤ k := by
      rcases hr.2 with ⟨h9, _⟩ | ⟨g, cap, cur, h9, h8, _⟩
      · rw [h9] at hk; simp [Value.ownBlock] at hk
      · rw [h9] at hk; have : g = k := by simpa [Value.ownBlock] using hk
        omega
    obtain ⟨cs, hcs⟩ := own_typed hr k hk
    exact hW k hb (hlt k _ hcs))) (fun x hm => Fr.ok_step (hx x hm) fun k cs hb hk => hW k hb (hlt k _ hk))
  injection e with e1 e2 e3
  subst e1
  rw [List.length_map]
  exact hC
theorem below_trans_le {n : Nat} {a b c : World} (h : Below n a b) (k : Below n b c) : Below n a c := h.trans k
set_option maxHeartbeats 8000000 in
set_option maxRecDepth 100000 in
theorem frame_All.calls (k : Nat) (A0 : Option Addr) (c0 : Nat) (l0 : List Int) (r1 : List (List Int)) (r2 : Int) (w : World) (hr0 : Kd.C (Kd.int .u8) w A0 l0.length l0) (hc0 : l0.length ≤ c0) (h : frame_All.f k l0 = some (r1, r2)) :
    Calls Try.prog 20 #[.slice A0 l0.length c0] w fun e w' => ∃ v0_ : Value, e = .returned (.tuple #[v0_, .int .i64 r2]) ∧ Kd.V (Kd.slice 5 (Kd.int .u8)) 22 w' w.heap.size (fun k_ => w.heap.size ≤ k_) v0_ r1 ∧ Below w.heap.size w w' := by
  have HR0 := Aside0.mk hr0
  have H0 := Aside0.mk h
  clear hr0 h
  obtain ⟨i0, hi, hz0, hz1, hz2⟩ := info_parts (show (Try.prog.info? 22).map (fun i => (i.zero, i.size, i.bytes)) = some (some (.slice none 0 0), 1, 24) by kernel_rfl)
  have hu34 := Try.underlying34
  refine (callsIn_wide (n := 3)).1 ?_
  refine callsIn_of_wp_marks Try.func20 rfl trivial ?_ rfl
  simp only [Try.ntmps20, List.size_toArray, List.length_cons, List.length_nil, Nat.reduceAdd, Nat.reduceSub, Array.replicate_succ, Array.replicate_zero, List.push_toArray, List.append_toArray, List.nil_append, List.cons_append]
  gi_wp2_with fail
  refine ⟨trivial, ?_⟩
  refine (callsIn_wide.2 (frame_each.calls _ _ _ _)).mono ?_
  rintro e w1 ⟨rfl, rfl⟩
  have HB0 := Aside0.mk (((below_alloc (below_alloc (below_alloc (Below.refl w.heap.size w) (.cells #[.slice none 0 0] 34)) (.cells #[.int .i64 0] 3)) (.cells #[.slice A0 l0.length c0] 22))))
  have hs1 : (w.alloc (.cells #[.slice none 0 0] 34)).heap.size = w.heap.size + 1 := Mem.alloc_size _ _
  have hs2 : ((w.alloc (.cells #[.slice none 0 0] 34)).alloc (.cells #[.int .i64 0] 3)).heap.size = w.heap.size + 2 := by rw [Mem.alloc_size, hs1]
  have hb0 := ((Boxed.new w 34 (.slice none 0 0)).alloc (.cells #[.int .i64 0] 3)).alloc (.cells #[.slice A0 l0.length c0] 22)
  have hb1 := (Boxed.new (w.alloc (.cells #[.slice none 0 0] 34)) 3 (.int .i64 0)).alloc (.cells #[.slice A0 l0.length c0] 22)
  have hb2 := Boxed.new ((w.alloc (.cells #[.slice none 0 0] 34)).alloc (.cells #[.int .i64 0] 3)) 22 (.slice A0 l0.length c0)
  rw [hs1] at hb1
  rw [hs2] at hb2
  gi_wp2_with fail
  refine wpIn_rangeT (F := Fence.wide) (n := 3) rfl (by omega) (gf := 73) (lb := #[.pointer (some ⟨w.heap.size + 2, 0, none⟩)]) rfl trivial (enters_of Try.func73 (by kernel_rfl) rfl)
    (fun x : Fr => #[x.val, .int .i64 x.nx]) (fun _ => rfl) (fun xs => xs.map Fr.l = r1 ∧ frEnd xs = r2) (FrI w w.heap.size (w.heap.size + 1) (w.heap.size + 2) A0 l0.length c0) (fun pre x W => pre.length < 5864062014805 ∧ x.ok w.heap.size W)
    (fun l W W' ht h => h.turns HB0.out.size ht) (fun pre x W W' ht h => ⟨h.1, Fr.ok_step h.2 fun k cs _ hk => (ht.2.2.2.2 k _ hk (.inl rfl)).trans hk.symm⟩)
    ⟨HB0.out, ⟨_, hb0, World.ownsRow_nil _ _ _ _, by simp [Value.ownBlock]⟩, hb1, hb2, fun _ h => nomatch h⟩
    (fun x => { tmps := #[.slice A0 l0.length c0, undef, .slice none 0 0, .int .i64 0, .pointer (some ⟨w.heap.size, 0, none⟩), .pointer (some ⟨w.heap.size + 1, 0, none⟩), x.val, .int .i64 x.nx, .slice A0 l0.length c0, .func (.func 73) #[] #[.pointer (some ⟨w.heap.size + 2, 0, none⟩)], x.val, .int .i64 x.nx, undef, undef, undef, undef, undef, undef, undef], defers := [] }) ?assign ?body ?iter ?done
  case assign =>
    intro l x W K hK
    gi_wp2
    exact hK
  case iter =>
    intro l J W hJI hJB hJ0 hY
    exact frame_each1.yields k l0 A0 c0 r1 r2 w w.heap.size (w.heap.size + 1) (w.heap.size + 2) l J W 2 (by decide) HR0.out hc0 hJI hJB hJ0 hY H0.out
  case body =>
    rintro l pre ⟨xA, xc, xl, xn⟩ W ⟨hB, ⟨v, hv, hrow, hne⟩, hb1, hb2, hx⟩ ⟨hlen, hok⟩
    have hc := hv.cell
    have HLen := Aside0.mk hlen
    have HOk := Aside0.mk hok
    have HX := Aside0.mk hx
    have HBx := Aside0.mk hb2
    have HE0 := Aside0.mk hb1
    clear hlen hok hx hb2 hb1 hb0
    simp only [Fr.val]
    gi_wp2_with (gi_at_builtin; refine wpListIn_append_own_at _ rfl _ _ 34 rfl w.heap.size 22 i0 (.slice none 0 0) 1 24 hu34 hi hz0 hz1 hz2 rfl (by decide) v pre.length (pre.map Fr.val) rfl (hrow.alloc _) ⟨W.heap.size, 0, none⟩ 1 1 [.slice xA xl.length xc] rfl rfl (cell_one_new _ _ _) (by simp [Value.oneCell']) (by have := HLen.out; unfold maxLen; omega) (by have := HLen.out; omega) (by have := hB.size; simp; omega) ?_; intro v' w1 hown' hgrow hnil hat; obtain ⟨g', cap', rfl⟩ := ownsRow_succ hown'; obtain ⟨hv1, hv2, hr2, hk2, hb2'⟩ := hv.appended (by decide) hrow hB.size (Nat.le_refl _) hown' hgrow; have hcA := hv1.cell; have hfA := hv1.frozen; have hE1 : Boxed w1 (w.heap.size + 1) 3 (.int .i64 (frEnd pre)) := (HE0.out.alloc _).kept hgrow (HE0.out.not_row (by decide) hrow); have hcE := hE1.cell; have hfE := hE1.frozen)
    have hb0 := hv.lt
    have hb1 := HE0.out.lt
    have hb2 := HBx.out.lt
    have hEa := hE1.kept (grownBy_setCell' w1 w.heap.size (.slice (some ⟨g', 0, none⟩) (pre.length + 1) cap')) (by simp)
    have hGb := grownBy_setCell' (w1.setCell ⟨w.heap.size, 0, none⟩ (.slice (some ⟨g', 0, none⟩) (pre.length + 1) cap')) (w.heap.size + 1) (.int .i64 xn)
    have hne' : some (w.heap.size + 2) ≠ (Value.slice (some ⟨g', 0, none⟩) (pre.length + 1) cap').ownBlock := by
      rcases hat with h | h
      · rw [h]; exact hne
      · rw [h, Mem.alloc_size]; intro e; injection e with e; omega
    refine ⟨hk2.trans (KeepsOthers.setCell _ _ _), below_set (below_trans_le hB hb2') (by omega), ⟨_, hv2.kept hGb (by simp), ?_, hne'⟩, ?_, ?_, ?_⟩
    · rw [List.length_append, List.map_append]; exact hr2.kept hGb (.inr (hEa.not_row (by decide) hr2).symm)
    · rw [frEnd_snoc]; exact hEa.set _
    · exact (((HBx.out.alloc _).kept hgrow hne).kept (grownBy_setCell' w1 w.heap.size _) (by simp)).kept hGb (by simp)
    · have hst : ∀ (k : Nat) (cs : Array Value), w.heap.size ≤ k → W.heap[k]? = some (.cells cs 5 (0, 0)) → ((w1.setCell ⟨w.heap.size, 0, none⟩ (.slice (some ⟨g', 0, none⟩) (pre.length + 1) cap')).setCell ⟨w.heap.size + 1, 0, none⟩ (.int .i64 xn)).heap[k]? = W.heap[k]? := by
        intro k cs _ hk
        have hlt : k < W.heap.size := (Array.getElem?_eq_some_iff.1 hk).1
        have n0 : k ≠ w.heap.size := by rintro rfl; have := hk.symm.trans hv; simp at this
        have n1 : k ≠ w.heap.size + 1 := by rintro rfl; have := hk.symm.trans HE0.out; simp at this
        have n2 : some k ≠ v.ownBlock := fun e => by obtain ⟨cs', h'⟩ := own_typed hrow k e.symm; have := hk.symm.trans h'; simp at this
        rw [Below.heap_setCell _ ⟨w.heap.size + 1, 0, none⟩ _ k n1, Below.heap_setCell _ ⟨w.heap.size, 0, none⟩ _ k n0, hgrow.block k (by rw [Mem.alloc_size]; omega) n2]
        exact Below.heap_alloc _ _ _ hlt
      intro y hy
      rcases List.mem_append.1 hy with hy | hy
      · exact Fr.ok_step (HX.out y hy) hst
      · obtain rfl := List.mem_singleton.1 hy
        exact Fr.ok_step HOk.out hst
  case done =>
    rintro D ys W hD hS ⟨hB, ⟨v, hv, hrow, hne⟩, hb1, hb2, hx⟩ hK
    have hc := hv.cell
    have hc1 := hb1.cell
    gi_wp2_with fail
    gi_region
    gi_wp2_with fail
    refine ⟨by simp, .inl ⟨_, _, rfl, run_takeDeferred (w := W.drew) hK, ?_⟩⟩
    have hDl : w.heap.size ≤ D := Nat.le_trans HB0.out.size hD
    have hK' : W.drew.heap[D]? = some (.deferred (some [])) := hK
    have hrow' : (W.drew.putObj D (.deferred none)).ownsRow w.heap.size 22 1 v ys.length (ys.map Fr.val) := ownsRow_putObj (own_move hrow fun k _ => rfl) (.deferred none) hK' rfl
    have hx' : ∀ x ∈ ys, x.ok w.heap.size (W.drew.putObj D (.deferred none)) := fun x hm => Fr.ok_step (hx x hm) fun k cs _ hk => by
      have hne : k ≠ D := by rintro rfl; have := hk.symm.trans hK; cases this
      exact World.putObj_heap_other hne
    obtain ⟨rfl, rfl⟩ := hS
    exact ⟨.tuple #[v, .int .i64 (frEnd ys)], by simp [results, Try.results20, go_sem], v, rfl, frames_V hrow' hx', (Turns.putObj (B := w.heap.size) (.deferred none) hK' rfl hDl).below (below_drew hB) (Nat.le_refl _)⟩
end Go.Proofs.Ythcmokglgepgjaa.X
-- Printed for this claim by a program of this session (wip/xprint.py) over the kit's printer; Lean checks it.
namespace Go.Proofs.Ythcmokglgepgjaa.X
open Go.RowKit Go.Proofs.YthcmokglgepgjaaW.PrintWords Go.Proofs.YthcmokglgepgjaaW.PrintLast Go.Proofs.YthcmokglgepgjaaW.PrintMore
attribute [local go_sem] max2_int min2_int max_two min_two max_three min_three max_four min_four   -- for this text's walks alone
set_option linter.unusedVariables false
set_option linter.unusedSimpArgs false

/-! ### firkinref01_Same: function 16 -/
def firkinref01_Same.f (l0 : List Int) (l1 : List Int) : Option (Bool) := some ((strOfNums l0).toList == (strOfNums l1).toList)
set_option maxHeartbeats 8000000 in
set_option maxRecDepth 100000 in
theorem firkinref01_Same.calls (A0 : Option Addr) (c0 : Nat) (l0 : List Int) (A1 : Option Addr) (c1 : Nat) (l1 : List Int) (r : Bool) (w : World) (hr0 : Kd.C (Kd.int .u8) w A0 l0.length l0) (hc0 : l0.length ≤ c0) (hr1 : Kd.C (Kd.int .u8) w A1 l1.length l1) (hc1 : l1.length ≤ c1) (h : firkinref01_Same.f l0 l1 = some r) :
    Calls Try.prog 16 #[.slice A0 l0.length c0, .slice A1 l1.length c1] w fun e w' => e = .returned (.bool r) ∧ Drawn0 w w' := by
  have HR0 := Aside0.mk hr0
  have HC0 := Aside0.mk hc0
  clear hr0 hc0
  have HR1 := Aside0.mk hr1
  have HC1 := Aside0.mk hc1
  clear hr1 hc1
  have H : (some ((strOfNums l0).toList == (strOfNums l1).toList)) = some r := h
  clear h
  obtain rfl := Option.some.inj H
  have hcv3 := Kd.C_string (P := Try.prog) (A := A0) (c := c0) Try.underlying22 Try.underlying5 Try.underlying9 HR0.out
  have hcv4 := Kd.C_string (P := Try.prog) (A := A1) (c := c1) Try.underlying22 Try.underlying5 Try.underlying9 HR1.out
  go_enter Try.func16, Try.ntmps16
  go_wp2
  go_ret
  exact ⟨by first | rfl | (simp; done) | (simp [*]; done), by repeat (first | exact Drawn0.refl _ | apply Drawn0.step)⟩

/-! ### firkinlaw03_num: function 18 -/
def firkinlaw03_num.f (a0 : Int) : Option (Int) := some a0
set_option maxHeartbeats 8000000 in
set_option maxRecDepth 100000 in
theorem firkinlaw03_num.calls (a0 : Int) (r : Int) (w : World) (h : firkinlaw03_num.f a0 = some r) :
    Calls Try.prog 18 #[.int .i64 a0] w fun e w' => e = .returned (.int .i64 r) ∧ Drawn0 w w' := by
  have H : (some a0) = some r := h
  clear h
  obtain rfl := Option.some.inj H
  go_enter Try.func18, Try.ntmps18
  go_wp2
  go_ret
  exact ⟨by first | rfl | (simp; done) | (simp [*]; done), by repeat (first | exact Drawn0.refl _ | apply Drawn0.step)⟩

end Go.Proofs.Ythcmokglgepgjaa.X
/- firkinlaw03.live, the page's example: it answers true. -/
namespace Go.Proofs.Ythcmokglgepgjaa.X
open Go.RowKit Go.Proofs.YthcmokglgepgjaaW.PrintWords Go.Proofs.YthcmokglgepgjaaW.PrintLast Go.Proofs.YthcmokglgepgjaaW.PrintMore
set_option linter.unusedVariables false
set_option linter.unusedSimpArgs false
def firkinlaw03_live.f : Option Bool := some true
set_option maxHeartbeats 8000000 in
set_option maxRecDepth 100000 in
theorem firkinlaw03_live.calls (r : Bool) (w : World) (h : firkinlaw03_live.f = some r) :
    Calls Try.prog 13 #[] w fun e w' => e = .returned (.bool r) ∧ Below w.heap.size w w' := by
  obtain rfl := Option.some.inj h
  clear h
  have kc := fun (w : World) (C : Array Value) (n c : Nat) => Lib.run_convert_bytes_const (P := Try.prog) w 22 5 C n c Try.underlying22 Try.underlying5
  have H1 := Lib.hid (show frame_Put.f 40 [97, 98] = some [2, 54, 41, 162, 226, 97, 98] by decide +kernel)
  have H2 := Lib.hid (show frame_Get.f 40 [2, 54, 41, 162, 226, 97, 98] = some ([97, 98], 7, 0) by decide +kernel)
  have H3 := Lib.hid (show frame_Put.f 40 [] = some [0, 0, 0, 0, 0] by decide +kernel)
  go_enter Try.func13, Try.ntmps13
  go_wp2_with fail
  have h0 := Mem.alloc_new w (Obj.cells #[Value.int IntKind.u8 97, Value.int IntKind.u8 98] 5 (2, 3))
  refine (frame_Put.calls 40 (some ⟨w.heap.size, 0, none⟩) 2 [97, 98] _ _ (Mem.C_ints (xs := [97, 98]) h0 (fun i hi => by match i, hi with | 0, _ | 1, _ => rfl) (by decide)) (Nat.le_refl _) H1.out).mono ?_
  rintro e w1 ⟨v1, rfl, R1, b1⟩
  have B1 := below_step (below_alloc (Below.refl _ _) _) b1
  obtain ⟨A1, c1, rfl, hc1, C1⟩ := Kd.R_reads R1
  clear R1 b1 h0
  go_wp2_with fail
  refine (frame_Get.calls 40 A1 c1 _ _ _ _ _ C1 hc1 H2.out).mono ?_
  rintro e w2 ⟨v2, rfl, R2, b2⟩
  have B2 := below_step B1 b2
  obtain ⟨A2, c2, rfl, hc2, C2⟩ := Kd.R_reads R2
  clear R2 b2 B1 C1
  go_wp2_with fail
  refine (frame_Put.calls 40 none 0 [] _ _ (Kd.C_nil _ _) (Nat.le_refl _) H3.out).mono ?_
  rintro e w3 ⟨v3, rfl, R3, b3⟩
  have B3 := below_step B2 b3
  have C2' := Kd.C_below C2 b3
  obtain ⟨A3, c3, rfl, hc3, C3⟩ := Kd.R_reads R3
  clear R3 b3 B2 C2
  go_wp2_with fail
  have h5 := Mem.alloc_new w3 (Obj.cells #[Value.int IntKind.u8 0, Value.int IntKind.u8 0, Value.int IntKind.u8 0, Value.int IntKind.u8 0, Value.int IntKind.u8 0] 5)
  refine (firkinref01_Same.calls A3 c3 [0, 0, 0, 0, 0] (some ⟨w3.heap.size, 0, none⟩) 5 [0, 0, 0, 0, 0] true _ (Kd.C_alloc C3 _) hc3 (Mem.C_ints (xs := [0, 0, 0, 0, 0]) h5 (fun i hi => by match i, hi with | 0, _ | 1, _ | 2, _ | 3, _ | 4, _ => rfl) (by decide)) (Nat.le_refl _) (by unfold firkinref01_Same.f; simp)).mono ?_
  rintro e w4 ⟨rfl, ⟨nd, rfl⟩⟩
  have C4 := Kd.C_below C2' (pw_below_drewN (below_alloc (Below.refl _ _) (Obj.cells #[Value.int IntKind.u8 0, Value.int IntKind.u8 0, Value.int IntKind.u8 0, Value.int IntKind.u8 0, Value.int IntKind.u8 0] 5)) nd)
  have B4 := pw_below_drewN (below_alloc B3 (Obj.cells #[Value.int IntKind.u8 0, Value.int IntKind.u8 0, Value.int IntKind.u8 0, Value.int IntKind.u8 0, Value.int IntKind.u8 0] 5)) nd
  generalize (World.alloc w3 (Obj.cells #[Value.int IntKind.u8 0, Value.int IntKind.u8 0, Value.int IntKind.u8 0, Value.int IntKind.u8 0, Value.int IntKind.u8 0] 5)).drewN nd = w5 at C4 B4 ⊢
  have hcv : (convert 22 9 (.slice A2 2 c2)).run Try.prog w5 = .ok (.string (strOfNums [97, 98])) w5 := string_of_reads Try.underlying22 Try.underlying5 Try.underlying9 (c := c2) (readsInt_of.mpr (Kd.reads_of_C (d := (0 : Int)) C4))
  have hs : strOfNums [97, 98] = (⟨#[97, 98]⟩ : ByteArray) := by decide
  rw [hs] at hcv
  clear C4 C2' C3 h5 hs
  go_wp2_with fail
  refine (firkinlaw03_num.calls 0 0 _ rfl).mono ?_
  rintro e w6 ⟨rfl, ⟨nd2, rfl⟩⟩
  go_wp2_with fail
  go_ret
  exact ⟨rfl, pw_below_drewN B4 _⟩
end Go.Proofs.Ythcmokglgepgjaa.X
/- The contract of firkinref03.Lists: are lists of bytes the same? -/
namespace Go.Proofs.Ythcmokglgepgjaa.X
open Go.RowKit Go.Proofs.YthcmokglgepgjaaW.PrintWords Go.Proofs.YthcmokglgepgjaaW.PrintLast Go.Proofs.YthcmokglgepgjaaW.PrintMore
set_option linter.unusedVariables false
set_option linter.unusedSimpArgs false
def listsGo : List (List Int) → List (List Int) → Bool
  | [], [] => true
  | x :: a, y :: b => if (strOfNums x).toList = (strOfNums y).toList then listsGo a b else false
  | _, _ => false
theorem listsGo_len : ∀ (a b : List (List Int)), a.length ≠ b.length → listsGo a b = false
  | [], [], h => absurd rfl h
  | [], _ :: _, _ => rfl
  | _ :: _, [], _ => rfl
  | x :: a, y :: b, h => by
    rw [listsGo, listsGo_len a b (fun h9 => h (by simp [h9]))]
    split <;> rfl
def firkinref03_Lists.f (l0 l1 : List (List Int)) : Option Bool := some (listsGo l0 l1)
set_option maxHeartbeats 8000000 in
set_option maxRecDepth 100000 in
theorem firkinref03_Lists.calls (A0 : Option Addr) (c0 : Nat) (l0 : List (List Int)) (A1 : Option Addr) (c1 : Nat) (l1 : List (List Int)) (r : Bool) (w : World) (hr0 : Kd.C (Kd.slice 5 (Kd.int .u8)) w A0 l0.length l0) (hc0 : l0.length ≤ c0) (hr1 : Kd.C (Kd.slice 5 (Kd.int .u8)) w A1 l1.length l1) (hc1 : l1.length ≤ c1) (h : firkinref03_Lists.f l0 l1 = some r) :
    Calls Try.prog 22 #[.slice A0 l0.length c0, .slice A1 l1.length c1] w fun e w' => e = .returned (.bool r) ∧ Drawn0 w w' := by
  unfold firkinref03_Lists.f at h
  have hq := Option.some.inj h
  clear h
  have hm0 := Kd.C_max hr0
  have hm1 := Kd.C_max hr1
  have HR0 := Aside0.mk hr0
  have HR1 := Aside0.mk hr1
  clear hr0 hr1
  by_cases hl : l0.length ≠ l1.length
  · rw [listsGo_len _ _ hl] at hq
    subst hq
    have hb1 : ((l0.length : Int) != (l1.length : Int)) = true := by rw [bne_iff_ne]; omega
    have hb2 : (l0.length != l1.length) = true := by rw [bne_iff_ne]; exact hl
    clear hl
    go_enter Try.func22, Try.ntmps22
    go_wp2_with fail
    go_ret
    exact ⟨rfl, ⟨0, rfl⟩⟩
  have hl : l0.length = l1.length := by omega
  have hb1 : ((l0.length : Int) != (l1.length : Int)) = false := by rw [bne_eq_false_iff_eq]; omega
  have hb2 : (l0.length != l1.length) = false := by rw [bne_eq_false_iff_eq]; exact hl
  have HL := Aside0.mk hl
  have HQ := Aside0.mk hq
  clear hl hq
  go_enter Try.func22, Try.ntmps22
  go_wp2_with fail
  clear hb1 hb2
  go_loopg [5] l0.length (fun kq v5 w' => ∃ (i : Nat) (nd : Nat), v5 = .int .i64 (i : Int) ∧ kq + i = l0.length ∧ Aside0 (listsGo (l0.drop i) (l1.drop i) = r) ∧ w' = w.drewN nd)
  case atStart => exact ⟨0, 0, rfl, rfl, HQ, rfl⟩
  case round =>
    clear HQ
    obtain ⟨i, nd, rfl, hi, HE, rfl⟩ := hrel
    cases gk with
    | zero =>
      obtain rfl : i = l0.length := by omega
      have hb : decide ((l0.length : Int) < (l0.length : Int)) = false := decide_eq_false (by omega)
      have hb2 : decide (l0.length < l0.length) = false := decide_eq_false (by omega)
      have he := HE.out
      rw [List.drop_eq_nil_of_le (Nat.le_refl _), List.drop_eq_nil_of_le (by have := HL.out; omega)] at he
      obtain rfl : true = r := he
      go_wp2_with fail
      go_ret
      exact ⟨rfl, ⟨nd, rfl⟩⟩
    | succ k2 =>
      have hlt : i < l0.length := by omega
      have hlt1 : i < l1.length := by have := HL.out; omega
      have hb : decide ((i : Int) < (l0.length : Int)) = true := decide_eq_true (by omega)
      have hb2 : decide (i < l0.length) = true := decide_eq_true hlt
      have hb3 : decide ((i : Int) < (l1.length : Int)) = true := decide_eq_true (by omega)
      obtain ⟨ad, Ai, ci, rfl, hx, hci, Ci⟩ := Mem.at_row HR0.out i hlt
      obtain ⟨bd, Bi, di, rfl, hy, hdi, Di⟩ := Mem.at_row HR1.out i hlt1
      have he := HE.out
      rw [List.drop_eq_getElem_cons hlt, List.drop_eq_getElem_cons hlt1, listsGo] at he
      generalize l0[i] = x at hx hci Ci he
      generalize l1[i] = y at hy hdi Di he
      have hcx : ∀ q, (convert 22 9 (.slice Ai x.length ci)).run Try.prog (w.drewN q) = .ok (.string (strOfNums x)) (w.drewN q) := fun q => Kd.C_string (P := Try.prog) Try.underlying22 Try.underlying5 Try.underlying9 (Kd.C_drewN Ci q)
      have hcy : ∀ q, (convert 22 9 (.slice Bi y.length di)).run Try.prog (w.drewN q) = .ok (.string (strOfNums y)) (w.drewN q) := fun q => Kd.C_string (P := Try.prog) Try.underlying22 Try.underlying5 Try.underlying9 (Kd.C_drewN Di q)
      clear Ci Di
      by_cases hs : (strOfNums x).toList = (strOfNums y).toList
      · rw [if_pos hs] at he
        have HE2 := Aside0.mk he
        have hbs : ((strOfNums x).toList == (strOfNums y).toList) = true := by rw [hs]; exact beq_self_eq_true _
        have hbs2 : ((strOfNums x).toList != (strOfNums y).toList) = false := by rw [hs]; simp
        clear he hs HE
        go_wp2_with fail
        go_quiet (fail)
        go_wp2_with fail
        go_roundg k2
        case measure => omega
        case rel => exact ⟨i + 1, _, by go_num, by omega, HE2, rfl⟩
      · rw [if_neg hs] at he
        subst he
        have hbs : ((strOfNums x).toList == (strOfNums y).toList) = false := beq_eq_false_iff_ne.mpr hs
        have hbs2 : ((strOfNums x).toList != (strOfNums y).toList) = true := by rw [bne_iff_ne]; exact hs
        clear hs HE
        go_wp2_with fail
        go_quiet (fail)
        go_wp2_with fail
        go_ret
        exact ⟨rfl, ⟨nd + nq, World.drewN_drewN _ _ _⟩⟩
end Go.Proofs.Ythcmokglgepgjaa.X
