/- The contract of schema.Check: why columns may not be. -/
import Derived.Test.YtebalgjkabnldaaName
import Derived.Test.YtebalgjkabnldaaColAt
import Derived.Test.YtebalgjkabnldaaMem2
namespace Go.Proofs.Ytebalgjkabnldaa.X
open Go.RowKit Go.Proofs.YtebalgjkabnldaaW.PrintWords Go.Proofs.YtebalgjkabnldaaW.PrintLast Go.Proofs.YtebalgjkabnldaaW.PrintMore
set_option linter.unusedVariables false
set_option linter.unusedSimpArgs false
def nameIs (s : ByteArray) (x : S90) : Bool := x.f0.toList == s.toList
set_option maxHeartbeats 8000000 in
set_option maxRecDepth 100000 in
theorem check_pred (s : ByteArray) (t : Int) (n : Bool) (b : Nat) (w : World) (hb : w.heap[b]? = some (.cells #[.string s, .int .i64 t, .bool n] 90 (0, 0))) : ColPred 81 #[.pointer (some ⟨b, 0, none⟩)] (nameIs s) w := by
  intro W x hW
  have hu := Try.underlying90
  have hx : (W.alloc (.cells #[.string x.f0, .int .i64 x.f1, .bool x.f2] 90)).cell? ⟨b, 0, none⟩ = some (.string s) := (blk_cell (blk_alloc (blk_below hb hW) _) 0).trans rfl
  show Calls Try.prog _ #[.agg #[.string x.f0, .int .i64 x.f1, .bool x.f2], .pointer (some ⟨b, 0, none⟩)] W _
  have HX := Aside0.mk (Mem.alloc_new W (.cells #[.string x.f0, .int .i64 x.f1, .bool x.f2] 90))
  have HB := Aside0.mk (below_alloc hW (.cells #[.string x.f0, .int .i64 x.f1, .bool x.f2] 90))
  unfold nameIs
  clear hb hW
  go_enter Try.func81, Try.ntmps81
  go_wp2_with fail
  go_ret
  exact ⟨rfl, HB.out⟩
/-- Why columns may not be: behind i of them, of which each is good. -/
def checkGo (l : List S90) : Nat → Nat → Option Int
  | 0, _ => if 6 < l.length then some 4 else some 0
  | n + 1, i => (schema_Name.f (l.getD i z90).f0).bind fun b => if 0 ≤ colAt (nameIs (l.getD i z90).f0) (l.take i) 0 ∨ b = false ∨ (l.getD i z90).f1 < 1 ∨ 3 < (l.getD i z90).f1 then some 1 else checkGo l n (i + 1)
def schema_Check.f (l : List S90) : Option Int := if l.length = 0 then some 1 else checkGo l l.length 0
set_option maxHeartbeats 8000000 in
set_option maxRecDepth 100000 in
theorem schema_Check.calls (A0 : Option Addr) (c0 : Nat) (l0 : List S90) (r : Int) (w : World) (hr0 : Kd.C k90 w A0 l0.length l0) (hc0 : l0.length ≤ c0) (h : schema_Check.f l0 = some r) :
    Calls Try.prog 50 #[.slice A0 l0.length c0] w fun e w' => e = .returned (.int .i64 r) ∧ Below w.heap.size w w' := by
  unfold schema_Check.f at h
  have hu := Try.underlying90
  have hm := Kd.C_max hr0
  have HR0 := Aside0.mk hr0
  have HB := Aside0.mk (Below.refl w.heap.size w)
  clear hr0
  by_cases h0 : l0.length = 0
  · rw [if_pos h0] at h
    obtain rfl := Option.some.inj h
    have hb0 : ((l0.length : Int) == 0) = true := beq_iff_eq.mpr (by omega)
    clear h h0
    go_enter Try.func50, Try.ntmps50
    go_wp2_with fail
    go_ret
    exact ⟨rfl, HB.out⟩
  rw [if_neg h0] at h
  have hb0 : ((l0.length : Int) == 0) = false := beq_eq_false_iff_ne.mpr (by omega)
  have HH := Aside0.mk h
  clear h h0
  go_enter Try.func50, Try.ntmps50
  go_wp2_with fail
  go_loopg [11] l0.length (fun kq v11 w' => ∃ (i : Nat), v11 = .int .i64 (i : Int) ∧ kq + i = l0.length ∧ Aside0 (checkGo l0 kq i = some r) ∧ Aside0 (Below w.heap.size w w'))
  case atStart => exact ⟨0, rfl, rfl, HH, HB⟩
  case round =>
    clear HB HH
    obtain ⟨i, rfl, hi, HE, HB⟩ := hrel
    cases gk with
    | zero =>
      obtain rfl : i = l0.length := by omega
      have hb : decide ((l0.length : Int) < (l0.length : Int)) = false := decide_eq_false (by omega)
      have hb2 : decide (l0.length < l0.length) = false := decide_eq_false (by omega)
      have h := HE.out
      unfold checkGo at h
      by_cases h6 : 6 < l0.length
      · rw [if_pos h6] at h
        obtain rfl := Option.some.inj h
        have hb6 : decide ((6 : Int) < (l0.length : Int)) = true := decide_eq_true (by omega)
        clear h h6
        go_wp2_with fail
        go_ret
        exact ⟨rfl, HB.out⟩
      · rw [if_neg h6] at h
        obtain rfl := Option.some.inj h
        have hb6 : decide ((6 : Int) < (l0.length : Int)) = false := decide_eq_false (by omega)
        clear h h6
        go_wp2_with fail
        go_ret
        exact ⟨rfl, HB.out⟩
    | succ k2 =>
      have hlt : i < l0.length := by omega
      have hb : decide ((i : Int) < (l0.length : Int)) = true := decide_eq_true (by omega)
      have hb2 : decide (i < l0.length) = true := decide_eq_true hlt
      obtain ⟨ad, e1, hx0, hx1, hx2⟩ := at_T90 (Kd.C_below HR0.out HB.out) (i : Int) (by omega) (by omega)
      cases e1
      have hrd : rd_T90 l0 (i : Int) = l0.getD i z90 := by rw [rd_T90, Int.toNat_natCast]
      rw [hrd, Int.toNat_natCast] at hx0 hx1 hx2
      have h := HE.out
      unfold checkGo at h
      generalize l0.getD i z90 = x at hx0 hx1 hx2 h
      obtain ⟨b, e1, h⟩ := Option.bind_eq_some_iff.mp h
      have E1 := Aside0.mk e1
      have HH := Aside0.mk h
      have ht := Kd.C_take HR0.out (Nat.le_of_lt hlt)
      have hln : (l0.take i).length = i := by rw [List.length_take]; omega
      have ht2 := Kd.C_below ht (below_alloc HB.out (.cells #[.string x.f0, .int .i64 x.f1, .bool x.f2] 90))
      rw [hln] at ht2
      have HC := Aside0.mk (col_ContainsFunc.calls (nameIs x.f0) 81 _ (fun _ _ => by kernel_rfl) (some ad) c0 i (l0.take i) _ (check_pred x.f0 x.f1 x.f2 wr.heap.size _ (Mem.alloc_new wr (.cells #[.string x.f0, .int .i64 x.f1, .bool x.f2] 90))) ht2 hln (by omega))
      have HK := Aside0.mk (Mem.alloc_new wr (.cells #[.string x.f0, .int .i64 x.f1, .bool x.f2] 90))
      have HB2 := Aside0.mk (below_alloc HB.out (.cells #[.string x.f0, .int .i64 x.f1, .bool x.f2] 90))
      clear h e1 hrd HE ht ht2 hln
      generalize colAt (nameIs x.f0) (l0.take i) 0 = v at HH HC
      go_wp2_with fail
      refine HC.out.mono ?_
      rintro e w2 ⟨rfl, b2⟩
      have HB3 := Aside0.mk (below_step HB2.out b2)
      have bk := blk_below HK.out b2
      have g0 : w2.cell? ⟨wr.heap.size, 0, none⟩ = some (.string x.f0) := (blk_cell bk 0).trans rfl
      have g1 : w2.cell? ⟨wr.heap.size, 1, none⟩ = some (.int .i64 x.f1) := (blk_cell bk 1).trans rfl
      clear hx0 hx1 hx2 HC HB2 HK b2
      by_cases hv : 0 ≤ v
      · have h := HH.out
        rw [if_pos (Or.inl hv)] at h
        obtain rfl := Option.some.inj h
        have hbv : decide (0 ≤ v) = true := decide_eq_true hv
        rw [hbv]
        clear h hv bk
        go_wp2_with fail
        go_ret
        exact ⟨rfl, HB3.out⟩
      have hbv : decide (0 ≤ v) = false := decide_eq_false hv
      rw [hbv]
      have BK := Aside0.mk bk
      clear bk
      go_wp2_with fail
      refine (schema_Name.calls x.f0 b _ E1.out).mono ?_
      rintro e w3 ⟨rfl, b3⟩
      have HB4 := Aside0.mk (below_step HB3.out b3)
      have bk := blk_below BK.out b3
      have g1 : w3.cell? ⟨wr.heap.size, 1, none⟩ = some (.int .i64 x.f1) := (blk_cell bk 1).trans rfl
      clear g0 b3 bk HB3 BK
      cases b with
      | false =>
        have h := HH.out
        rw [if_pos (Or.inr (Or.inl rfl))] at h
        obtain rfl := Option.some.inj h
        clear h
        go_wp2_with fail
        go_ret
        exact ⟨rfl, HB4.out⟩
      | true =>
        by_cases h1 : x.f1 < 1
        · have h := HH.out
          rw [if_pos (Or.inr (Or.inr (Or.inl h1)))] at h
          obtain rfl := Option.some.inj h
          have hb1 : decide (x.f1 < 1) = true := decide_eq_true h1
          clear h h1
          go_wp2_with fail
          go_ret
          exact ⟨rfl, HB4.out⟩
        have hb1 : decide (x.f1 < 1) = false := decide_eq_false h1
        by_cases h3 : 3 < x.f1
        · have h := HH.out
          rw [if_pos (Or.inr (Or.inr (Or.inr h3)))] at h
          obtain rfl := Option.some.inj h
          have hb3 : decide (3 < x.f1) = true := decide_eq_true h3
          clear h h1 h3
          go_wp2_with fail
          go_ret
          exact ⟨rfl, HB4.out⟩
        have hb3 : decide (3 < x.f1) = false := decide_eq_false h3
        have h := HH.out
        rw [if_neg (by rintro (h9 | h9 | h9 | h9) <;> first | omega | cases h9)] at h
        have HQ := Aside0.mk h
        clear h h1 h3
        go_wp2_with fail
        go_roundg k2
        case measure => omega
        case rel => exact ⟨i + 1, by go_num, by omega, HQ, HB4⟩
end Go.Proofs.Ytebalgjkabnldaa.X
