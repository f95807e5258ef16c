/- The contract of dead.Live: the rows that are not gone, in order. -/
import Derived.Test.YthcmokglgepgjaaX0
import Derived.Test.YthcmokglgepgjaaCut3
import Derived.Lib.Hide
namespace Go.Proofs.Ythcmokglgepgjaa.X
open Go.RowKit Go.Proofs.YthcmokglgepgjaaW.PrintWords Go.Proofs.YthcmokglgepgjaaW.PrintLast Go.Proofs.YthcmokglgepgjaaW.PrintMore
set_option linter.unusedVariables false
set_option linter.unusedSimpArgs false
/-- Is the row at i left? -/
def isLeft (l : List Bool) (i : Nat) : Bool := if i < l.length then !(l.getD i false) else true
def liveGo (l : List Bool) : List (List S94) → Nat → List (List S94)
  | [], _ => []
  | x :: xs, i => if isLeft l i = true then x :: liveGo l xs (i + 1) else liveGo l xs (i + 1)
theorem liveGo_at (l : List Bool) (r : List (List S94)) (i : Nat) (h : i < r.length) : liveGo l (r.drop i) i = if isLeft l i = true then r[i] :: liveGo l (r.drop (i + 1)) (i + 1) else liveGo l (r.drop (i + 1)) (i + 1) := by
  rw [List.drop_eq_getElem_cons h, liveGo]
/-- A run of rows that are left. -/
theorem liveGo_run (l : List Bool) (r : List (List S94)) (i : Nat) (d : Nat) : ∀ j, i + d = j → j ≤ r.length → (∀ q, i ≤ q → q < j → isLeft l q = true) → liveGo l (r.drop i) i = (r.take j).drop i ++ liveGo l (r.drop j) j := by
  induction d with
  | zero =>
    intro j hj hl _
    obtain rfl : i = j := by omega
    have h0 : (r.take i).drop i = [] := List.drop_eq_nil_of_le (by rw [List.length_take]; omega)
    rw [h0, List.nil_append]
  | succ d ih =>
    intro j hj hl hq
    obtain ⟨m, rfl⟩ : ∃ m, j = m + 1 := ⟨j - 1, by omega⟩
    have h1 := ih m (by omega) (by omega) (fun q h2 h3 => hq q h2 (by omega))
    rw [h1, liveGo_at l r m (by omega), if_pos (hq m (by omega) (by omega)), List.take_succ_eq_append_getElem (by omega), List.drop_append_of_le_length (by rw [List.length_take]; omega), List.append_assoc]
    rfl
def dead_Live.f (l0 : List (List S94)) (l1 : List Bool) : Option (List (List S94)) := if l0.length < 1000000 then some (liveGo l1 l0 0) else none
set_option maxHeartbeats 8000000 in
set_option maxRecDepth 100000 in
theorem dead_Live.calls (P0_ : Nat → Prop) (A0 : Option Addr) (c0 : Nat) (l0 : List (List S94)) (A1 : Option Addr) (c1 : Nat) (l1 : List Bool) (r : List (List S94)) (w : World) (hs0 : Kd.V (Kd.slice 94 k94) 81 w w.heap.size (fun k_ => P0_ k_) (.slice A0 l0.length c0) l0) (hr1 : Kd.C Kd.bool w A1 l1.length l1) (hc1 : l1.length ≤ c1) (h : dead_Live.f l0 l1 = some r) :
    Calls Try.prog 32 #[.slice A0 l0.length c0, .slice A1 l1.length c1] w fun e w' => ∃ v0_ : Value, e = .returned (v0_) ∧ Kd.N (Kd.slice 94 k94) 81 w' w.heap.size (fun k_ => (P0_ k_ ∨ w.heap.size ≤ k_)) v0_ r ∧ Below w.heap.size w w' := by
  unfold dead_Live.f at h
  by_cases hf : l0.length < 1000000
  case neg => rw [if_neg hf] at h; cases h
  rw [if_pos hf] at h
  have HQ := Aside0.mk (Option.some.inj h)
  clear h
  have hc0 := (Kd.V_reads' hs0).2.1
  have HF := Aside0.mk (Kd.F_bound (Kd.V_F hs0))
  have HR1 := Aside0.mk hr1
  have HB := Aside0.mk (Below.refl w.heap.size w)
  have hm1 := Kd.C_max hr1
  clear hs0 hr1
  go_enter Try.func32, Try.ntmps32
  go_wp2_with fail
  go_loopg [5, 6] (l0.length + 1) (fun kq v5 v6 w' => ∃ (i : Nat) (xs : List (List S94)), v6 = .int .i64 (i : Int) ∧ l0.length + 1 ≤ kq + i ∧ i ≤ l0.length + 1 ∧ Aside0 (xs ++ liveGo l1 (l0.drop i) i = r) ∧ xs.length ≤ i ∧ Aside0 (Kd.N (Kd.slice 94 k94) 81 w' w.heap.size (fun k_ => (P0_ k_ ∨ w.heap.size ≤ k_)) v5 xs) ∧ Aside0 (Below w.heap.size w w'))
  case atStart => exact ⟨0, [], rfl, by omega, by omega, by rw [List.drop_zero, List.nil_append]; exact HQ, by simp, ⟨Kd.N_nil _ _ _ _ _⟩, HB⟩
  case round =>
    clear HQ HB
    obtain ⟨i, xs, rfl, hi, hi2, HQ, hxl, HN, HB⟩ := hrel
    by_cases hlt : i < l0.length
    case neg =>
      have hb : decide ((i : Int) < (l0.length : Int)) = false := decide_eq_false (by omega)
      have hb2 : decide (i < l0.length) = false := decide_eq_false hlt
      have hq := HQ.out
      rw [List.drop_eq_nil_of_le (by omega), liveGo, List.append_nil] at hq
      subst hq
      go_wp2_with fail
      go_ret
      exact ⟨_, rfl, HN.out, HB.out⟩
    have hb : decide ((i : Int) < (l0.length : Int)) = true := decide_eq_true (by omega)
    have hb2 : decide (i < l0.length) = true := decide_eq_true hlt
    obtain ⟨k2, rfl⟩ : ∃ m, gk = m + 1 := by
      cases gk with
      | zero => exact absurd hi (by omega)
      | succ m => exact ⟨m, rfl⟩
    obtain ⟨wo, rfl⟩ : ∃ wo : World, wo = wr := ⟨_, rfl⟩
    go_upto_block 2 with (fail)
    go_cut [7] (fun v7 wx => ∃ (j : Nat), v7 = .int .i64 (j : Int) ∧ i ≤ j ∧ j ≤ l0.length ∧ Aside0 (∀ q, i ≤ q → q < j → isLeft l1 q = true) ∧ Aside0 (j < l0.length → isLeft l1 j = false) ∧ wx = wo)
    case first =>
      go_wp2_with fail
      go_loopg [7] (l0.length - i) (fun kp v7 wx => ∃ (j : Nat), v7 = .int .i64 (j : Int) ∧ i ≤ j ∧ j ≤ l0.length ∧ kp + j = l0.length ∧ Aside0 (∀ q, i ≤ q → q < j → isLeft l1 q = true) ∧ wx = wo)
      case atStart => exact ⟨i, rfl, by omega, by omega, by omega, ⟨fun q h1 h2 => by omega⟩, rfl⟩
      case round =>
        obtain ⟨j, rfl, hj1, hj2, hj3, HL, rfl⟩ := hrel
        cases gk with
        | zero =>
          obtain rfl : j = l0.length := by omega
          have hz : decide ((l0.length : Int) < (l0.length : Int)) = false := decide_eq_false (by omega)
          have hz2 : decide (l0.length < l0.length) = false := decide_eq_false (by omega)
          go_wp2_with fail
          go_meet
          case rel => exact ⟨_, rfl, hj1, Nat.le_refl _, HL, ⟨fun h9 => absurd h9 (by omega)⟩, rfl⟩
        | succ k3 =>
          have hz : decide ((j : Int) < (l0.length : Int)) = true := decide_eq_true (by omega)
          have hz2 : decide (j < l0.length) = true := decide_eq_true (by omega)
          by_cases hge : l1.length ≤ j
          · have hg : decide ((l1.length : Int) ≤ (j : Int)) = true := decide_eq_true (by omega)
            have hg2 : decide (l1.length ≤ j) = true := decide_eq_true hge
            go_wp2_with fail
            go_roundg k3
            case measure => omega
            case rel =>
              refine ⟨j + 1, by go_num, by omega, by omega, by omega, ⟨fun q h1 h2 => ?_⟩, rfl⟩
              by_cases hqj : q < j
              · exact HL.out q h1 hqj
              · obtain rfl : q = j := by omega
                rw [isLeft, if_neg (by omega)]
          · have hg : decide ((l1.length : Int) ≤ (j : Int)) = false := decide_eq_false (by omega)
            have hg2 : decide (l1.length ≤ j) = false := decide_eq_false hge
            have hg3 : decide ((j : Int) < (l1.length : Int)) = true := decide_eq_true (by omega)
            obtain ⟨ad, rfl, hx⟩ := Kd.at_bool (Kd.C_below HR1.out HB.out) (j : Int) (by omega) (by omega)
            rw [Int.toNat_natCast] at hx
            have hrd : rdOf false l1 (j : Int) = l1.getD j false := by rw [rdOf, Int.toNat_natCast]
            rw [hrd] at hx
            obtain ⟨b, hbb⟩ : ∃ b, l1.getD j false = b := ⟨_, rfl⟩
            rw [hbb] at hx
            have HBB := Aside0.mk hbb
            clear hrd hbb
            cases b with
            | true =>
              go_wp2_with fail
              go_meet
              case rel => exact ⟨_, rfl, hj1, hj2, HL, ⟨fun _ => by rw [isLeft, if_pos (by omega), HBB.out]; rfl⟩, rfl⟩
            | false =>
              go_wp2_with fail
              go_roundg k3
              case measure => omega
              case rel =>
                refine ⟨j + 1, by go_num, by omega, by omega, by omega, ⟨fun q h1 h2 => ?_⟩, rfl⟩
                by_cases hqj : q < j
                · exact HL.out q h1 hqj
                · obtain rfl : q = j := by omega
                  rw [isLeft, if_pos (by omega), HBB.out]; rfl
    case rest =>
      obtain ⟨j, rfl, hj1, hj2, HL, HE, rfl⟩ := hcut
      obtain ⟨i0, hi0, hiz, hsz0, _⟩ := info_parts info81
      obtain ⟨A2, hcut, F2⟩ := Mem.cut3 (P := Try.prog) 50 81 Try.underlying50 hi0 hsz0 (c := c0) (Kd.F_below HF.out HB.out) hj1 hj2 hc0
      have hlen : ((l0.take j).drop i).length = j - i := by rw [List.length_drop, List.length_take]; omega
      have HF2 := Aside0.mk F2
      have HLN := Aside0.mk hlen
      have hwj : IntKind.i64.wrap ((j : Int) + 1) = (j : Int) + 1 := by have := (show (l0.length : Nat) < 1000000 from hf); exact IntWalk.i64_in _ (by omega)
      clear F2 hlen hi0 hiz hsz0
      go_wp2_with ((with_reducible refine gate_builtin (b := .append) (xs := #[.tmp 32, .tmp 37]) rfl ?_); at_builtin; refine Kd.N_append_rows (Kd.slice 94 k94) (w0 := w) w.heap.size rfl (.tmp 32) (.tmp 37) 50 81 (.slice none 0 0) 24 rfl Try.underlying50 info81 rfl (by decide) (by omega) _ xs ((l0.take j).drop i) A2 (j - i) (j - i) (fun k_ => (P0_ k_ ∨ w.heap.size ≤ k_)) (fun k_ => P0_ k_ ∧ k_ < w.heap.size) rfl rfl HN.out HF2.out (fun k hk => ⟨Or.inl hk.1, fun e9 => by have := Kd.N_base HN.out k e9.symm; omega⟩) (fun k hk => Or.inr (Nat.le_trans (below_size HB.out) hk)) HB.out (below_size HB.out) (by omega) ?_; intro v9 w9 ho hbw hg hat; have HN9 := Aside0.mk ho; have HB9 := Aside0.mk hbw; clear ho hbw hg hat)
      go_roundg k2
      case measure => omega
      case rel =>
        refine ⟨j + 1, _, by go_num, by omega, by omega, ⟨?_⟩, ?_, HN9, HB9⟩
        · have hq := HQ.out
          rw [liveGo_run l1 l0 i (j - i) j (by omega) hj2 HL.out] at hq
          by_cases hjl : j < l0.length
          · rw [liveGo_at l1 l0 j hjl, if_neg (by rw [HE.out hjl]; decide)] at hq
            rw [List.append_assoc]; exact hq
          · have z1 : l0.drop j = [] := List.drop_eq_nil_of_le (by omega)
            have z2 : l0.drop (j + 1) = [] := List.drop_eq_nil_of_le (by omega)
            rw [z1, liveGo] at hq
            rw [z2, liveGo, List.append_assoc]; exact hq
        · rw [List.length_append, HLN.out]; omega
end Go.Proofs.Ythcmokglgepgjaa.X
