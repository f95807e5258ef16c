/- The contract of delta.Put: the closure that tells differences, and the bytes of each. -/
import Derived.Test.YtkdlfejokahohaaX4
import Derived.Test.YtkdlfejokahohaaMem
import Derived.Lib.Hide
namespace Go.Proofs.Ytkdlfejokahohaa.X
open Go.RowKit Go.Proofs.YtkdlfejokahohaaW.PrintWords Go.Proofs.YtkdlfejokahohaaW.PrintLast Go.Proofs.YtkdlfejokahohaaW.PrintMore
set_option linter.unusedVariables false
set_option linter.unusedSimpArgs false
/-- The bytes of the numbers' differences. -/
def delta_Put.go : List Int → Int → List Int → Option (List Int)
  | [], _, acc => some acc
  | x :: l, last, acc => (vint_Int.f 40 (wrap64 (x - last))).bind fun b => if acc.length + b.length < 140737488355328 then delta_Put.go l x (acc ++ b) else none
def delta_Put.f (l0 : List Int) : Option (List Int) := delta_Put.go l0 0 []
theorem dput_drop {l : List Int} {i : Nat} (h : i < l.length) : l.drop i = l.getD i 0 :: l.drop (i + 1) := by
  rw [List.drop_eq_getElem_cons h]; simp [List.getD, h]
set_option maxHeartbeats 8000000 in
set_option maxRecDepth 100000 in
theorem delta_from.calls (w : World) :
    Calls Try.prog 76 #[] w fun e w' => e = .returned (.func (Fn.func 97) #[] #[.pointer (some ⟨w.heap.size, 0, none⟩)]) ∧ w' = w.alloc (.cells #[.int .i64 0] 2) := by
  go_enter Try.func76, Try.ntmps76
  go_wp2_with fail
  go_ret
  exact ⟨rfl, rfl⟩
set_option maxHeartbeats 8000000 in
set_option maxRecDepth 100000 in
theorem delta_from1.calls (g : Nat) (last x : Int) (w : World) (hb : w.heap[g]? = some (.cells #[.int .i64 last] 2 (0, 0))) :
    Calls Try.prog 97 #[.int .i64 x, .pointer (some ⟨g, 0, none⟩)] w fun e w' => e = .returned (.int .i64 (wrap64 (x - last))) ∧ w' = w.setCell ⟨g, 0, none⟩ (.int .i64 x) := by
  have h0 : w.cell? ⟨g, 0, none⟩ = some (.int .i64 last) := (blk_cell hb 0).trans rfl
  have f0 := blk_frozen hb 0
  clear hb
  go_enter Try.func97, Try.ntmps97
  go_wp2_with fail
  go_ret
  exact ⟨rfl, rfl⟩
set_option maxHeartbeats 8000000 in
set_option maxRecDepth 100000 in
theorem delta_Put.calls (A0 : Option Addr) (c0 : Nat) (l0 : List Int) (r : List Int) (w : World) (hr0 : Kd.C (Kd.int .i64) w A0 l0.length l0) (hc0 : l0.length ≤ c0) (h : delta_Put.f l0 = some r) :
    Calls Try.prog 21 #[.slice A0 l0.length c0] w fun e w' => ∃ v0_ : Value, e = .returned v0_ ∧ Kd.R (Kd.int .u8) 5 w' w.heap.size (fun _ => True) v0_ r ∧ Below w.heap.size w w' := by
  unfold delta_Put.f at h
  have H0 := Aside0.mk h
  have hmax := Kd.C_max hr0
  have HR0 := Aside0.mk hr0
  clear h hc0
  go_enter Try.func21, Try.ntmps21
  go_wp2_with fail
  refine (delta_from.calls _).mono ?_
  rintro e w1 ⟨rfl, rfl⟩
  go_wp2_with fail
  go_loopg [3, 10] l0.length (fun kq v3 v10 w' => ∃ (i : Nat) (last : Int) (acc : List Int), v10 = .int .i64 (i : Int) ∧ kq + i = l0.length ∧ Aside0 (delta_Put.go (l0.drop i) last acc = some r) ∧ Aside0 (w'.heap[w.heap.size]? = some (.cells #[.int .i64 last] 2 (0, 0))) ∧ Aside0 (Kd.R (Kd.int .u8) 5 w' w.heap.size (fun _ => True) v3 acc) ∧ Aside0 (Below w.heap.size w w'))
  case atStart => exact ⟨0, 0, [], rfl, rfl, ⟨by rw [List.drop_zero]; exact H0.out⟩, ⟨by simpa using Mem.alloc_new w (.cells #[.int .i64 0] 2)⟩, ⟨Kd.R_nil _ _ _ _ _⟩, ⟨below_alloc (Below.refl _ _) _⟩⟩
  case round =>
    clear H0
    obtain ⟨i, last, acc, rfl, hi, HA, HG, HO, HB⟩ := hrel
    cases gk with
    | zero =>
      obtain rfl : i = l0.length := by omega
      have hb : decide ((l0.length : Int) < (l0.length : Int)) = false := decide_eq_false (by omega)
      have hb2 : decide (l0.length < l0.length) = false := decide_eq_false (by omega)
      have h := HA.out
      rw [List.drop_eq_nil_of_le (Nat.le_refl _), delta_Put.go] at h
      obtain rfl := Option.some.inj h
      clear h
      go_wp2_with fail
      go_ret
      exact ⟨_, rfl, HO.out, HB.out⟩
    | succ k2 =>
      have hlt : i < l0.length := by omega
      have hb : decide ((i : Int) < (l0.length : Int)) = true := decide_eq_true (by omega)
      have hb2 : decide (i < l0.length) = true := decide_eq_true hlt
      have h := HA.out
      rw [dput_drop hlt, delta_Put.go] at h
      obtain ⟨b, hb1, h⟩ := Option.bind_eq_some_iff.mp h
      by_cases hl : acc.length + b.length < 140737488355328
      case neg => rw [if_neg hl] at h; cases h
      rw [if_pos hl] at h
      have HI := Aside0.mk hb1
      have HN := Aside0.mk h
      have HL := Aside0.mk hl
      clear h hb1 hl HA
      obtain ⟨ad, e1, hx1⟩ := Kd.at_int HR0.out (i : Int) (by omega) (by omega)
      cases e1
      replace hx1 := (HB.out.cell (World.block_lt_of_cell? w _ hx1)).trans hx1
      rw [Int.toNat_natCast] at hx1
      have hx2 : wr.cell? (ad.add i) = some (.int .i64 (l0.getD i 0)) := hx1
      clear hx1
      generalize l0.getD i 0 = x at hx2 HI HN
      go_wp2_with fail
      refine (delta_from1.calls _ last x _ HG.out).mono ?_
      rintro e w2 ⟨rfl, rfl⟩
      have HO2 := Aside0.mk (Kd.R_set HO.out HG.out (by decide) 0 (.int .i64 x))
      have HB2 := Aside0.mk (below_set (j := 0) (v := .int .i64 x) HB.out (Nat.le_refl w.heap.size))
      have HG2 : Aside0 ((wr.setCell ⟨w.heap.size, 0, none⟩ (.int .i64 x)).heap[w.heap.size]? = some (.cells #[.int .i64 x] 2 (0, 0))) := ⟨by simpa using blk_set HG.out 0 (.int .i64 x)⟩
      clear HO HB HG hx2
      generalize wr.setCell ⟨w.heap.size, 0, none⟩ (.int .i64 x) = w2 at HO2 HB2 HG2 ⊢
      go_wp2_with fail
      refine (vint_Int.calls 40 (wrap64 (x - last)) b _ HI.out).mono ?_
      rintro e w3 ⟨v3, rfl, ho3, hb3⟩
      have HO3 := Aside0.mk (Kd.R_elder' HO2.out (Kd.R_base ho3) hb3)
      have HR3 := Aside0.mk (Kd.R_lower (Kd.R_new' ho3 (Kd.R_lt HO2.out)) (below_size HB2.out))
      have HB3 := Aside0.mk (below_step HB2.out hb3)
      have HG3 := Aside0.mk (blk_below HG2.out hb3)
      clear HO2 HB2 HG2 ho3 hb3
      obtain ⟨Ao, co, eo⟩ := Kd.R_slice HR3.out
      subst eo
      have hgne : some w.heap.size ≠ (u3 : Value).ownBlock := Kd.R_ne HO3.out HG3.out (by decide)
      go_wp2_with ((with_reducible refine gate_builtin (b := .append) (xs := #[.tmp 14, .tmp 18]) rfl ?_); at_builtin; refine Kd.R_append_rows (Kd.int .u8) (w0 := w) w.heap.size rfl (.tmp 14) (.tmp 18) 31 5 (.int .u8 0) 1 rfl Try.underlying31 info5 rfl (by decide) (by omega) u3 acc b _ _ _ (fun k_ => some k_ ≠ (.slice Ao b.length co : Value).ownBlock) (fun _ => False) rfl rfl (Kd.R_mono HO3.out (fun _ hk => hk.2)) (Kd.R_reads' HR3.out).2.2 (fun _ _ h => h) (fun _ h => h.elim) (fun k_ hk => Kd.fresh' (Kd.R_lt HR3.out) k_ hk) HB3.out (below_size HB3.out) (by have := HL.out; omega) ?_; intro v4 w4 ho hb hg hat; have HO4 := Aside0.mk (Kd.R_mono (ok' := fun _ => True) ho (fun _ _ => trivial)); have HB4 := Aside0.mk hb; have HG4 := Aside0.mk (blk_grown HG3.out hg hgne); clear HO3 HR3 HB3 HG3 ho hb hg hat hgne)
      go_roundg k2
      case measure => omega
      case rel => exact ⟨i + 1, x, acc ++ b, rfl, by omega, HN, HG4, HO4, HB4⟩
end Go.Proofs.Ytkdlfejokahohaa.X
