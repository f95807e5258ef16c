/- The contract of schema.Find: where a column is. -/
import Derived.Test.YtebalgjkabnldaaColAt
import Derived.Test.YtebalgjkabnldaaCheck
namespace Go.Proofs.Ytebalgjkabnldaa.X
open Go.RowKit Go.Proofs.YtebalgjkabnldaaW.PrintWords Go.Proofs.YtebalgjkabnldaaW.PrintLast Go.Proofs.YtebalgjkabnldaaW.PrintMore
attribute [local go_sem] max2_int min2_int max_two min_two max_three min_three max_four min_four
set_option linter.unusedVariables false
set_option linter.unusedSimpArgs false
set_option maxHeartbeats 8000000 in
set_option maxRecDepth 100000 in
theorem find_pred (s : ByteArray) (b : Nat) (w : World) (hb : w.heap[b]? = some (.cells #[.string s] 9 (0, 0))) : ColPred 77 #[.pointer (some ⟨b, 0, none⟩)] (nameIs s) w := by
  intro W x hW
  have hu := Try.underlying90
  have hx : (W.alloc (.cells #[.string x.f0, .int .i64 x.f1, .bool x.f2] 90)).cell? ⟨b, 0, none⟩ = some (.string s) := (blk_cell (blk_alloc (blk_below hb hW) _) 0).trans rfl
  show Calls Try.prog _ #[.agg #[.string x.f0, .int .i64 x.f1, .bool x.f2], .pointer (some ⟨b, 0, none⟩)] W _
  have HB := Aside0.mk (below_alloc hW (.cells #[.string x.f0, .int .i64 x.f1, .bool x.f2] 90))
  unfold nameIs
  clear hb hW
  go_enter Try.func77, Try.ntmps77
  go_wp2_with fail
  go_ret
  exact ⟨rfl, HB.out⟩
def schema_Find.f (l : List S90) (s : ByteArray) : Option (Int × Bool) := if 0 ≤ colAt (nameIs s) l 0 then some (colAt (nameIs s) l 0, true) else some (0, false)
set_option maxHeartbeats 8000000 in
set_option maxRecDepth 100000 in
theorem schema_Find.calls (A0 : Option Addr) (c0 : Nat) (l0 : List S90) (a1 : ByteArray) (r1 : Int) (r2 : Bool) (w : World) (hr0 : Kd.C k90 w A0 l0.length l0) (hc0 : l0.length ≤ c0) (h : schema_Find.f l0 a1 = some (r1, r2)) :
    Calls Try.prog 45 #[.slice A0 l0.length c0, .string a1] w fun e w' => e = .returned (.tuple #[.int .i64 r1, .bool r2]) ∧ Below w.heap.size w w' := by
  unfold schema_Find.f at h
  have HB := Aside0.mk (below_alloc (Below.refl w.heap.size w) (.cells #[.string a1] 9))
  have HC := Aside0.mk (col_IndexFunc.calls (nameIs a1) 77 _ (fun _ _ => by kernel_rfl) A0 c0 l0.length l0 _ (find_pred a1 w.heap.size _ (Mem.alloc_new w (.cells #[.string a1] 9))) (Kd.C_below hr0 HB.out) rfl hc0)
  clear hr0
  generalize colAt (nameIs a1) l0 0 = v at HC h
  have HH := Aside0.mk h
  clear h
  go_enter Try.func45, Try.ntmps45
  go_wp2_with fail
  refine HC.out.mono ?_
  rintro e w2 ⟨rfl, b2⟩
  by_cases hv : 0 ≤ v
  · have h := HH.out
    rw [if_pos hv] at h
    simp only [Option.some.injEq, Prod.mk.injEq] at h
    obtain ⟨rfl, rfl⟩ := h
    have hb1 : decide (0 ≤ v) = true := decide_eq_true hv
    have hb2 : decide (v < 0) = false := decide_eq_false (by omega)
    have hmx : max v 0 = v := by omega
    go_wp2_with fail
    go_ret2
    exact ⟨rfl, below_step HB.out b2⟩
  · have h := HH.out
    rw [if_neg hv] at h
    simp only [Option.some.injEq, Prod.mk.injEq] at h
    obtain ⟨rfl, rfl⟩ := h
    have hb1 : decide (0 ≤ v) = false := decide_eq_false hv
    have hb2 : decide (v < 0) = true := decide_eq_true (by omega)
    have hmx : max v 0 = 0 := by omega
    go_wp2_with fail
    go_ret2
    exact ⟨rfl, below_step HB.out b2⟩
end Go.Proofs.Ytebalgjkabnldaa.X
