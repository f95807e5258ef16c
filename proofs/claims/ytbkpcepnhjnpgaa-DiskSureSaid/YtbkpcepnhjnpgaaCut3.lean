/- 's[lo:hi:hi]' of a row that leads on: its address is given a name. -/
import Derived.Test.YtbkpcepnhjnpgaaMem2
namespace Go.Proofs.Ytbkpcepnhjnpgaa.Mem
open Go.RowKit Go.Proofs.YtbkpcepnhjnpgaaW.PrintWords Go.Proofs.YtbkpcepnhjnpgaaW.PrintLast Go.Proofs.YtbkpcepnhjnpgaaW.PrintMore
set_option linter.unusedVariables false
section
variable {P : Program} {α : Type} {d : Kd α} {w : World} {A : Option Addr} {c : Nat} {ok : Nat → Prop} {xs : List α}
theorem cut3 (t e : TypeId) {i : TypeInfo} (ht : P.underlying t = some (.slice e)) (hi : P.info? e = some i) (hsz : i.size = d.sz) {lo hi' : Nat} (hF : Kd.F d w ok A xs.length xs) (h1 : lo ≤ hi') (h2 : hi' ≤ xs.length) (hc : xs.length ≤ c) :
    ∃ A' : Option Addr, (∀ W : World, (Instr.slice t (.slice A xs.length c) (some (.int .i64 (lo : Int))) (some (.int .i64 (hi' : Int))) (some (.int .i64 (hi' : Int)))).run P W = .ok (.slice A' (hi' - lo) (hi' - lo)) W) ∧ Kd.F d w ok A' (hi' - lo) ((xs.take hi').drop lo) := by
  have hel : P.elem t = e := by simp [Program.elem, ht]
  have hu : P.underlying t = some (.slice (P.elem t)) := by rw [hel]; exact ht
  have hrun : ∀ W : World, (Instr.slice t (.slice A xs.length c) (some (.int .i64 (lo : Int))) (some (.int .i64 (hi' : Int))) (some (.int .i64 (hi' : Int)))).run P W = .ok (.slice (if hi' = lo then A else A.map (·.add (lo * d.sz))) (hi' - lo) (hi' - lo)) W := by
    intro W
    rw [run_slice_lhm (P := P) (w := W) t A xs.length c hu .i64 .i64 .i64 (lo : Int) (hi' : Int) (hi' : Int) (by omega) (by omega) (by omega) (by omega), hel]
    simp [sizeOf, typeInfo, hi, hsz, sliced, Result.andThen]
  have hl : ((xs.take hi').drop lo).length = hi' - lo := by rw [List.length_drop, List.length_take]; omega
  refine ⟨_, hrun, ?_⟩
  by_cases he : hi' = lo
  · subst he
    rw [if_pos rfl, List.drop_eq_nil_of_le (by rw [List.length_take]; omega), Nat.sub_self]
    have := Kd.F_take hF (m := 0) (Nat.zero_le _)
    simpa using this
  · rw [if_neg he]
    have h3 := Kd.F_mid (c := xs.length + hi') hF h1 h2 (by omega)
    rw [if_neg (by omega), hl] at h3
    exact h3
end
end Go.Proofs.Ytbkpcepnhjnpgaa.Mem
