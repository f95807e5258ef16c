/- The contract of vint.Text: a text's bytes, behind how many there are; they lie in memory that this call has made. -/
import Derived.Test.YtebalgjkabnldaaX10
import Derived.Test.YtebalgjkabnldaaX15
import Derived.Test.YtebalgjkabnldaaMem2
import Derived.Lib.ConvBytes
import Derived.Lib.Hide
namespace Go.Proofs.Ytebalgjkabnldaa.X
open Go.RowKit Go.Proofs.YtebalgjkabnldaaW.PrintWords Go.Proofs.YtebalgjkabnldaaW.PrintLast Go.Proofs.YtebalgjkabnldaaW.PrintMore
set_option linter.unusedVariables false
set_option linter.unusedSimpArgs false
def vint_Text.f (k : Nat) (a0 : ByteArray) : Option (List Int) := (vint_Num.f k (a0.size : Int)).bind fun b => if a0.size ≤ 9223372036854775807 then vint_joined.f [b, bytesOf a0] else none
theorem vint_Text.mono : ∀ a0 k, LeO (vint_Text.f k a0) (vint_Text.f (k + 1) a0) := by
  intro a0 k r h
  unfold vint_Text.f at h ⊢
  obtain ⟨b, hb, h⟩ := Option.bind_eq_some_iff.mp h
  rw [vint_Num.mono _ _ _ hb]
  exact h
set_option maxHeartbeats 8000000 in
set_option maxRecDepth 1000000 in
theorem vint_Text.calls (k : Nat) (a0 : ByteArray) (r : List Int) (w : World) (h : vint_Text.f k a0 = some r) :
    Calls Try.prog 68 #[.string a0] w fun e w' => ∃ v0_ : Value, e = .returned v0_ ∧ Kd.V (Kd.int .u8) 5 w' w.heap.size (fun k_ => w.heap.size ≤ k_) v0_ r ∧ Below w.heap.size w w' := by
  unfold vint_Text.f at h
  obtain ⟨b, hb, h⟩ := Option.bind_eq_some_iff.mp h
  by_cases hm : a0.size ≤ 9223372036854775807
  case neg => rw [if_neg hm] at h; cases h
  rw [if_pos hm] at h
  have HN := Aside0.mk hb
  have HJ := Aside0.mk h
  clear hb h
  have hw : IntKind.u64.wrap (a0.size : Int) = (a0.size : Int) := by rw [IntKind.wrap_u64]; omega
  have kc := fun (W : World) => Lib.run_convert_string_bytes (P := Try.prog) W 9 22 5 a0 Try.underlying9 Try.underlying22 Try.underlying5
  go_enter Try.func68, Try.ntmps68
  go_wp2_with fail
  refine (vint_Num.calls k (a0.size : Int) b _ HN.out).mono ?_
  rintro e w1 ⟨v1, rfl, R1, b1⟩
  obtain ⟨A1, c1, rfl, hc1, C1⟩ := Kd.R_reads R1
  have HC1 := Aside0.mk C1
  clear R1 C1
  go_wp2_with fail
  have bW : Below w1.heap.size w1 (Lib.bytesWorld w1 5 a0) := Mem.below_bytes w1 5 a0
  have C2 : Kd.C (Kd.int .u8) (Lib.bytesWorld w1 5 a0) (some ⟨w1.heap.size, 0, none⟩) (bytesOf a0).length (bytesOf a0) := by
    rw [bytesOf_length]; exact Kd.C_of_reads (d := (0 : Int)) (readsInt_of.mp (bytes_reads w1 5 a0 hm))
  have hcap : a0.size ≤ grownCap w1 a0.size 0 5 := by simpa using grownCap_ge w1 a0.size 0 5
  have C1 := Kd.C_below HC1.out bW
  generalize Lib.bytesWorld w1 5 a0 = w2 at bW C2 C1 ⊢
  generalize grownCap w1 a0.size 0 5 = c2 at hcap ⊢
  have bl := bytesOf_length a0
  rw [← bl] at hcap
  have C3 : Kd.C (Kd.slice 5 (Kd.int .u8)) (w2.alloc (.cells #[.slice A1 b.length c1, .slice (some ⟨w1.heap.size, 0, none⟩) a0.size c2] 22)) (some ⟨w2.heap.size, 0, none⟩) 2 [b, bytesOf a0] := by
    refine Mem.C_rows (xs := [b, bytesOf a0]) (Mem.alloc_new _ _) (by simp) (fun i hi => ?_)
    match i, hi with
    | 0, _ => exact ⟨A1, c1, rfl, hc1, Kd.C_alloc C1 _⟩
    | 1, _ => exact ⟨some ⟨w1.heap.size, 0, none⟩, c2, by rw [← bl]; rfl, hcap, Kd.C_alloc C2 _⟩
  refine (vint_joined.calls _ 2 [b, bytesOf a0] r _ C3 (Nat.le_refl _) HJ.out).mono ?_
  rintro e w3 ⟨v3, rfl, V3, b3⟩
  have B := below_step (below_alloc (below_step b1 bW) _) b3
  have HV := Aside0.mk (Kd.V_mono V3 (fun k hk => Nat.le_trans (below_size (below_alloc (below_step b1 bW) _)) hk))
  go_wp2_with fail
  go_ret
  exact ⟨_, rfl, HV.out, B⟩
end Go.Proofs.Ytebalgjkabnldaa.X
