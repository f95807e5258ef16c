/- The contracts of slices.IndexFunc and slices.ContainsFunc over columns, for whatever predicate of columns that turns nothing. -/
import Derived.Test.YtebalgjkabnldaaX0
import Derived.Test.YtebalgjkabnldaaMem
import Derived.Shelf.GgClosure.Gives
import Derived.Lib.Hide
namespace Go.Proofs.Ytebalgjkabnldaa.X
open Go.RowKit Go.Proofs.YtebalgjkabnldaaW.PrintWords Go.Proofs.YtebalgjkabnldaaW.PrintLast Go.Proofs.YtebalgjkabnldaaW.PrintMore
set_option linter.unusedVariables false
set_option linter.unusedSimpArgs false
/-- Where the first column of which p holds lies. -/
def colAt (p : S90 → Bool) : List S90 → Nat → Int
  | [], _ => -1
  | x :: xs, i => if p x = true then (i : Int) else colAt p xs (i + 1)
/-- A function value that tells p of columns, and turns nothing that lay in w. -/
def ColPred (g : Nat) (lb : Array Value) (p : S90 → Bool) (w : World) : Prop :=
  ∀ (W : World) (x : S90), Below w.heap.size w W → Calls Try.prog g (#[.agg #[.string x.f0, .int .i64 x.f1, .bool x.f2]] ++ lb) W fun e w' => e = .returned (.bool (p x)) ∧ Below w.heap.size w w'
theorem colAt_drop (p : S90 → Bool) (l : List S90) (i : Nat) (hi : i < l.length) : colAt p (l.drop i) i = if p (l.getD i z90) = true then (i : Int) else colAt p (l.drop (i + 1)) (i + 1) := by
  rw [List.drop_eq_getElem_cons hi, colAt, List.getD_eq_getElem?_getD, List.getElem?_eq_getElem hi]
  rfl
set_option maxHeartbeats 8000000 in
set_option maxRecDepth 100000 in
theorem col_IndexFunc.calls (p : S90 → Bool) (g : Nat) (lb : Array Value) (eg : ∀ args w, (callFunc g args).run Try.prog w = .ok (.enter g args) w) (A0 : Option Addr) (c0 n : Nat) (l0 : List S90) (w : World) (hp : ColPred g lb p w) (hr0 : Kd.C k90 w A0 n l0) (hn : l0.length = n) (hc0 : n ≤ c0) :
    Calls Try.prog 76 #[.slice A0 n c0, .func (.func g) #[] lb] w fun e w' => e = .returned (.int .i64 (colAt p l0 0)) ∧ Below w.heap.size w w' := by
  have hu := Try.underlying90
  subst hn
  have hm := Kd.C_max hr0
  have HR0 := Aside0.mk hr0
  clear hr0
  have HP := Aside0.mk hp
  clear hp
  have HB := Aside0.mk (Below.refl w.heap.size w)
  go_enter Try.func76, Try.ntmps76
  go_wp2_with fail
  go_loopg [8] l0.length (fun kq v8 w' => ∃ (i : Nat), v8 = .int .i64 (i : Int) ∧ kq + i = l0.length ∧ Aside0 (colAt p (l0.drop i) i = colAt p l0 0) ∧ Aside0 (Below w.heap.size w w'))
  case atStart => exact ⟨0, rfl, rfl, ⟨rfl⟩, HB⟩
  case round =>
    clear HB
    obtain ⟨i, rfl, hi, HE, HB⟩ := hrel
    cases gk with
    | zero =>
      obtain rfl : i = l0.length := by omega
      have hb : decide ((l0.length : Int) < (l0.length : Int)) = false := decide_eq_false (by omega)
      have hb2 : decide (l0.length < l0.length) = false := decide_eq_false (by omega)
      go_wp2_with fail
      go_ret
      refine ⟨?_, HB.out⟩
      rw [← HE.out, List.drop_length]
      rfl
    | succ k2 =>
      have hlt : i < l0.length := by omega
      have hb : decide ((i : Int) < (l0.length : Int)) = true := decide_eq_true (by omega)
      have hb2 : decide (i < l0.length) = true := decide_eq_true hlt
      obtain ⟨ad, e1, hx0, hx1, hx2⟩ := at_T90 (Kd.C_below HR0.out HB.out) (i : Int) (by omega) (by omega)
      cases e1
      have hE2 := HE.out
      rw [colAt_drop p l0 i hlt] at hE2
      have hrd : rd_T90 l0 (i : Int) = l0.getD i z90 := by rw [rd_T90, Int.toNat_natCast]
      rw [hrd, Int.toNat_natCast] at hx0 hx1 hx2
      generalize l0.getD i z90 = x at hx0 hx1 hx2 hE2
      have HC := Aside0.mk (HP.out _ x HB.out)
      clear hrd HE HB
      cases hq : p x with
      | true =>
        rw [hq, if_pos rfl] at hE2
        rw [hq] at HC
        have HE2 := Aside0.mk hE2
        clear hE2 hq
        go_wp2_with (go_at_fn g; refine HC.out.mono ?_; rintro e w' ⟨rfl, hb'⟩)
        go_ret
        exact ⟨by rw [← HE2.out]; rfl, hb'⟩
      | false =>
        rw [hq, if_neg (by decide)] at hE2
        rw [hq] at HC
        have HE2 := Aside0.mk hE2
        clear hE2 hq
        go_wp2_with (go_at_fn g; refine HC.out.mono ?_; rintro e w' ⟨rfl, hb'⟩)
        go_roundg k2
        case measure => omega
        case rel => exact ⟨i + 1, by go_num, by omega, HE2, ⟨hb'⟩⟩
set_option maxHeartbeats 8000000 in
set_option maxRecDepth 100000 in
theorem col_ContainsFunc.calls (p : S90 → Bool) (g : Nat) (lb : Array Value) (eg : ∀ args w, (callFunc g args).run Try.prog w = .ok (.enter g args) w) (A0 : Option Addr) (c0 n : Nat) (l0 : List S90) (w : World) (hp : ColPred g lb p w) (hr0 : Kd.C k90 w A0 n l0) (hn : l0.length = n) (hc0 : n ≤ c0) :
    Calls Try.prog 80 #[.slice A0 n c0, .func (.func g) #[] lb] w fun e w' => e = .returned (.bool (decide (0 ≤ colAt p l0 0))) ∧ Below w.heap.size w w' := by
  have HC := Aside0.mk (col_IndexFunc.calls p g lb eg A0 c0 n l0 w hp hr0 hn hc0)
  generalize colAt p l0 0 = v at HC ⊢
  clear hp hr0
  go_enter Try.func80, Try.ntmps80
  go_wp2_with fail
  refine HC.out.mono ?_
  rintro e w1 ⟨rfl, b1⟩
  go_wp2_with fail
  go_ret
  exact ⟨rfl, b1⟩
end Go.Proofs.Ytebalgjkabnldaa.X
