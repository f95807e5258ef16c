/- The contract of bitv.Or: where one of two rows is true. -/
import Derived.Test.YtebalgjkabnldaaX0
import Derived.Test.YtebalgjkabnldaaCopy
import Derived.Lib.Hide
namespace Go.Proofs.Ytebalgjkabnldaa.X
open Go.RowKit Go.Proofs.YtebalgjkabnldaaW.PrintWords Go.Proofs.YtebalgjkabnldaaW.PrintLast Go.Proofs.YtebalgjkabnldaaW.PrintMore
set_option linter.unusedVariables false
set_option linter.unusedSimpArgs false
def orL : List Bool → List Bool → List Bool
  | [], ys => ys
  | x :: xs, [] => x :: xs
  | x :: xs, y :: ys => (x || y) :: orL xs ys
theorem orL_nil (xs : List Bool) : orL xs [] = xs := by cases xs <;> rfl
theorem orL_comm (xs ys : List Bool) : orL xs ys = orL ys xs := by
  induction xs generalizing ys with
  | nil => rw [orL_nil]; rfl
  | cons x xs ih =>
    cases ys with
    | nil => rfl
    | cons y ys => rw [orL, orL, ih, Bool.or_comm]
theorem orL_length (xs ys : List Bool) (h : ys.length ≤ xs.length) : (orL xs ys).length = xs.length := by
  induction xs generalizing ys with
  | nil => obtain rfl := List.eq_nil_of_length_eq_zero (Nat.le_zero.mp h); rfl
  | cons x xs ih =>
    cases ys with
    | nil => rfl
    | cons y ys => rw [orL, List.length_cons, List.length_cons, ih ys (by simpa using h)]
/-- One more is taken in. -/
theorem orL_step (xs ys : List Bool) (i : Nat) (hi : i < ys.length) (h : ys.length ≤ xs.length) :
    (orL xs (ys.take i)).set i ((orL xs (ys.take i)).getD i false || ys.getD i false) = orL xs (ys.take (i + 1)) := by
  induction i generalizing xs ys with
  | zero =>
    cases ys with
    | nil => simp at hi
    | cons y ys =>
      cases xs with
      | nil => simp at h
      | cons x xs => simp [orL, orL_nil]
  | succ i ih =>
    cases ys with
    | nil => simp at hi
    | cons y ys =>
      cases xs with
      | nil => simp at h
      | cons x xs =>
        have := ih xs ys (by simpa using hi) (by simpa using h)
        simp only [List.take_succ_cons, orL, List.set_cons_succ, List.getD_cons_succ]
        rw [this]
def bitv_Or.f (a b : List Bool) : Option (List Bool) := if a.length ≤ 1000000000 ∧ b.length ≤ 1000000000 then some (orL a b) else none
set_option maxHeartbeats 8000000 in
set_option maxRecDepth 100000 in
theorem bitv_Or.calls (A0 : Option Addr) (c0 : Nat) (l0 : List Bool) (A1 : Option Addr) (c1 : Nat) (l1 : List Bool) (r : List Bool) (w : World) (hr0 : Kd.C Kd.bool w A0 l0.length l0) (hc0 : l0.length ≤ c0) (hr1 : Kd.C Kd.bool w A1 l1.length l1) (hc1 : l1.length ≤ c1) (h : bitv_Or.f l0 l1 = some r) :
    Calls Try.prog 28 #[.slice A0 l0.length c0, .slice A1 l1.length c1] w fun e w' => ∃ v0_ : Value, e = .returned v0_ ∧ Kd.R Kd.bool 4 w' w.heap.size (fun _ => True) v0_ r ∧ Below w.heap.size w w' := by
  unfold bitv_Or.f at h
  by_cases hf : l0.length ≤ 1000000000 ∧ l1.length ≤ 1000000000
  case neg => rw [if_neg hf] at h; cases h
  rw [if_pos hf] at h
  obtain rfl := Option.some.inj h
  obtain ⟨hf0, hf1⟩ := hf
  clear h
  have HB := Aside0.mk (Below.refl w.heap.size w)
  go_enter Try.func28, Try.ntmps28
  go_upto_if 12 with (fail)
  go_cut [0, 1] (fun v0 v1 wc => ∃ (X Y : Option Addr) (cx cy : Nat) (x y : List Bool), v0 = .slice X x.length cx ∧ v1 = .slice Y y.length cy ∧ Aside0 (orL x y = orL l0 l1) ∧ y.length ≤ x.length ∧ x.length ≤ 1000000000 ∧ Aside0 (Kd.C Kd.bool w X x.length x) ∧ Aside0 (x.length ≤ cx) ∧ Aside0 (Kd.C Kd.bool w Y y.length y) ∧ Aside0 (y.length ≤ cy) ∧ Aside0 (Below w.heap.size w wc))
  case first =>
    by_cases hlt : (l0.length : Int) < (l1.length : Int)
    · have hb : decide ((l0.length : Int) < (l1.length : Int)) = true := decide_eq_true hlt
      have hb2 : decide (l0.length < l1.length) = true := decide_eq_true (by omega)
      go_wp2_with fail
      go_meet
      case rel => exact ⟨_, _, _, _, l1, l0, rfl, rfl, ⟨orL_comm _ _⟩, by omega, hf1, ⟨hr1⟩, ⟨hc1⟩, ⟨hr0⟩, ⟨hc0⟩, HB⟩
    · have hb : decide ((l0.length : Int) < (l1.length : Int)) = false := decide_eq_false hlt
      have hb2 : decide (l0.length < l1.length) = false := decide_eq_false (by omega)
      go_wp2_with fail
      go_meet
      case rel => exact ⟨_, _, _, _, l0, l1, rfl, rfl, ⟨rfl⟩, by omega, hf0, ⟨hr0⟩, ⟨hc0⟩, ⟨hr1⟩, ⟨hc1⟩, HB⟩
  case rest =>
    obtain ⟨X, Y, cx, cy, x, y, rfl, rfl, HE, hyx, hx, HX, HCX, HY, HCY, HB⟩ := hcut
    clear hr0 hr1 hc0 hc1
    have hm : (x.length : Int).toNat * 1 ≤ 281474976710656 := by omega
    obtain ⟨z0, hz0⟩ : ∃ z_ : List Bool, z_ = List.replicate (x.length : Int).toNat false := ⟨_, rfl⟩
    have HZ0 := Aside0.mk hz0
    clear hz0
    go_wp2_with (first | ((with_reducible refine gate_dst (N := 17) rfl ?_); refine Kd.R_make Kd.bool _ 4 rfl (N := 17) rfl 33 _ _ rfl (x.length : Int) rfl rfl Try.underlying33 (.bool false) 1 info4 rfl (by decide) (by omega) false (ok := fun _ => True) (okp := fun _ => True) rfl (fun _ hk => hk) trivial (by omega) hm (Below.refl _ _) (Nat.le_refl _) ?_; intro v1 w1 hR hb _ _; rw [← HZ0.out] at hR; have HR1 := Aside0.mk (Kd.R_lower hR (below_size HB.out)); have HB1 := Aside0.mk (below_step HB.out hb); clear hR hb) | ((with_reducible refine gate_dst (N := 20) rfl ?_); refine Copy.wpList_copy_R rfl (.tmp 18) (.tmp 19) 33 33 rfl 4 Try.underlying33 (by kernel_rfl) false (v := v1) (ys := x) (A := X) (c := cx) rfl rfl HR1.out (Kd.C_below HX.out HB1.out) (by rw [HZ0.out]; simp) HB1.out (Nat.le_refl _) ?_; intro w2 hR hb; have HR2 := Aside0.mk hR.out; have HB2 := Aside0.mk hb; clear hR hb))
    go_loopg [23] y.length (fun kq v23 w' => ∃ (i : Nat), v23 = .int .i64 (i : Int) ∧ kq + i = y.length ∧ Aside0 (Kd.R Kd.bool 4 w' w.heap.size (fun _ => True) v1 (orL x (y.take i))) ∧ Aside0 (Below w.heap.size w w'))
    case atStart => exact ⟨0, rfl, rfl, ⟨by have := HR2.out; rw [HZ0.out] at this; simp at this; rw [List.take_zero, orL_nil]; exact this⟩, HB2⟩
    case round =>
      clear HR1 HB1 HR2 HB2 HZ0 HB
      obtain ⟨i, rfl, hi, HR, HB⟩ := hrel
      cases gk with
      | zero =>
        obtain rfl : i = y.length := by omega
        have hb : decide ((y.length : Int) < (y.length : Int)) = false := decide_eq_false (by omega)
        have hb2 : decide (y.length < y.length) = false := decide_eq_false (by omega)
        go_wp2_with fail
        go_ret
        exact ⟨_, rfl, by have := HR.out; rw [List.take_length, HE.out] at this; exact this, HB.out⟩
      | succ k2 =>
        have hlt : i < y.length := by omega
        have hb : decide ((i : Int) < (y.length : Int)) = true := decide_eq_true (by omega)
        have hb2 : decide (i < y.length) = true := decide_eq_true hlt
        obtain ⟨ad, e1, hx1⟩ := Kd.at_bool HY.out (i : Int) (by omega) (by omega)
        cases e1
        replace hx1 := (HB.out.cell (World.block_lt_of_cell? w _ hx1)).trans hx1
        rw [Int.toNat_natCast] at hx1
        have hol := orL_length x (y.take i) (by rw [List.length_take]; omega)
        obtain ⟨go, co, eo, gb, gl, cl, HG⟩ := Kd.R_form HR.out (by rw [hol]; omega)
        rw [hol] at eo
        subst eo
        obtain ⟨hx2, hf2⟩ := Kd.R_celln false HR.out (i : Int) (by omega) (by omega)
        have HP := Kd.R_putg HR.out (i : Int) (rdOf false (orL x (y.take i)) (i : Int) || rdOf false y (i : Int))
        rw [Int.toNat_natCast] at hx2 hf2 HP
        have HS := Lib.hid (orL_step x y i hlt hyx)
        have e1 : rdOf false (orL x (y.take i)) (i : Int) = (orL x (y.take i)).getD i false := by rw [rdOf, Int.toNat_natCast]
        have e2 : rdOf false y (i : Int) = y.getD i false := by rw [rdOf, Int.toNat_natCast]
        rw [e1, e2, HS.out] at HP
        rw [e1] at hx2
        rw [e2] at hx1
        have HP' := Lib.hid HP
        clear HP e1 e2 hol HX HCX HE
        generalize (orL x (y.take i)).getD i false = p at hx2 HP' HS
        generalize y.getD i false = q at hx1 HP' HS
        cases p <;> cases q <;> (
          have HP := HP'.out
          simp only [Bool.or_self, Bool.or_true, Bool.true_or, Bool.or_false, Bool.false_or] at HP
          have HP2 := Lib.hid HP
          clear HP HP'
          go_wp2_with fail
          go_roundg k2
          case measure => omega
          case rel => exact ⟨i + 1, rfl, by omega, ⟨HP2.out.1⟩, ⟨below_set HB.out gb⟩⟩)
end Go.Proofs.Ytebalgjkabnldaa.X
