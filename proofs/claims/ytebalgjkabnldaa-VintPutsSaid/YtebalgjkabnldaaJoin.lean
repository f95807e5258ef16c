/- The contract of bytes.Join without a separator: the parts' bytes, one behind the other; they lie in memory that this call has made. -/
import Derived.Test.YtebalgjkabnldaaX0
import Derived.Test.YtebalgjkabnldaaMem2
import Derived.Test.YtebalgjkabnldaaBuf
import Derived.Lib.SliceRun
import Derived.Deep.LoopGhost
import Derived.Laws.Externs
import Derived.Lib.Hide
namespace Go.Proofs.Ytebalgjkabnldaa.X
open Go.RowKit Go.Proofs.YtebalgjkabnldaaW.PrintWords Go.Proofs.YtebalgjkabnldaaW.PrintLast Go.Proofs.YtebalgjkabnldaaW.PrintMore
set_option linter.unusedVariables false
set_option linter.unusedSimpArgs false
open Go.Proofs.Ytebalgjkabnldaa.Buf
def bytes_Join.f (l0 : List (List Int)) (l1 : List Int) : Option (List Int) := if l1 = [] ∧ 2 ≤ l0.length ∧ l0.flatten.length < 140737488355328 then some l0.flatten else none
theorem join_take (l0 : List (List Int)) (i : Nat) (h : i < l0.length) : (l0.take (i + 1)).flatten = (l0.take i).flatten ++ l0[i] := by
  rw [List.take_succ_eq_append_getElem h, List.flatten_append, List.flatten_singleton]
theorem join_le (l0 : List (List Int)) (i : Nat) : (l0.take i).flatten.length ≤ l0.flatten.length := by
  conv => rhs; rw [← List.take_append_drop i l0, List.flatten_append, List.length_append]
  omega
set_option maxHeartbeats 8000000 in
set_option maxRecDepth 1000000 in
theorem bytes_Join.calls (A0 : Option Addr) (c0 : Nat) (l0 : List (List Int)) (A1 : Option Addr) (c1 : Nat) (l1 : List Int) (r : List Int) (w : World) (hr0 : Kd.C (Kd.slice 5 (Kd.int .u8)) w A0 l0.length l0) (hc0 : l0.length ≤ c0) (hr1 : Kd.C (Kd.int .u8) w A1 l1.length l1) (hc1 : l1.length ≤ c1) (h : bytes_Join.f l0 l1 = some r) :
    Calls Try.prog 91 #[.slice A0 l0.length c0, .slice A1 l1.length c1] w fun e w' => ∃ v0_ : Value, e = .returned v0_ ∧ Kd.V (Kd.int .u8) 5 w' w.heap.size (fun k_ => w.heap.size ≤ k_) v0_ r ∧ Below w.heap.size w w' := by
  unfold bytes_Join.f at h
  by_cases hf : l1 = [] ∧ 2 ≤ l0.length ∧ l0.flatten.length < 140737488355328
  case neg => rw [if_neg hf] at h; cases h
  rw [if_pos hf] at h
  obtain rfl := Option.some.inj h
  clear h
  obtain ⟨rfl, h2, hlen⟩ := hf
  have hmax := Kd.C_max hr0
  have HR0 := Aside0.mk hr0
  have HLEN := Aside0.mk hlen
  have f0 : ((l0.length : Int) == 0) = false := beq_eq_false_iff_ne.2 (by omega)
  have f1 : ((l0.length : Int) == 1) = false := beq_eq_false_iff_ne.2 (by omega)
  clear hr0 hr1 hc1 hlen
  obtain ⟨⟨b, o, sp⟩, _, _, rfl, hcx, _⟩ := Mem.at_row HR0.out 0 (by omega)
  have hsp : sp = none := by
    cases sp with
    | none => rfl
    | some z => simp [Addr.add, World.cell?] at hcx; split at hcx <;> simp at hcx
  subst hsp
  clear hcx
  have u5 := Try.underlying22
  have z5 : ∀ w, (Go.sizeOf 5).run Try.prog w = .ok 1 w := fun w => by kernel_rfl
  have hs5 : (Try.prog.info? 5).map (·.size) = some 1 := by kernel_rfl
  have hcells : ∀ i : Nat, (hi : i < l0.length) → ∃ Ai ci, w.cell? ⟨b, o + i, none⟩ = some (.slice Ai (l0[i]).length ci) ∧ (Kd.int .u8).C w Ai (l0[i]).length (l0[i]) := fun i hi => by
    obtain ⟨ad', Ai, ci, e, hc, _, hC⟩ := Mem.at_row HR0.out i hi
    cases e
    rw [Mem.add_plain2] at hc
    exact ⟨Ai, ci, hc, hC⟩
  have HC := Aside0.mk hcells
  clear hcells
  obtain ⟨A00, c00, hcell0, hC00⟩ := HC.out 0 (by omega)
  have HC00 := Aside0.mk hC00
  clear hC00
  go_enter Try.func91, Try.ntmps91
  go_wp2_with fail
  go_loopg [5, 44] l0.length (fun g s5 s44 wr => w = wr ∧ ∃ i : Nat, i ≤ l0.length ∧ g = l0.length - i ∧ s44 = .int .i64 i ∧ s5 = .int .i64 (((l0.take i).flatten.length : Nat) : Int))
  case atStart => exact ⟨rfl, 0, Nat.zero_le _, rfl, rfl, rfl⟩
  case round =>
    obtain ⟨rfl, i, hi, rfl, rfl, rfl⟩ := hrel
    by_cases hlt : i < l0.length
    · obtain ⟨Ai, ci, hcell, _⟩ := HC.out i hlt
      have hs1 : (l0.take (i + 1)).flatten.length = (l0.take i).flatten.length + (l0[i]).length := by rw [join_take l0 i hlt, List.length_append]
      have hs2 := join_le l0 (i + 1)
      have hL := HLEN.out
      generalize (l0.take i).flatten.length = acc at hs1 ⊢
      generalize (l0[i]).length = m at hs1 hcell
      have hb : ¬ (9223372036854775807 - ((acc : Nat) : Int) < (m : Int)) := by omega
      go_wp2_with fail
      go_roundg (l0.length - (i + 1))
      case measure => omega
      case rel => exact ⟨rfl, i + 1, by omega, rfl, by go_num, by rw [hs1]; go_num⟩
    · obtain rfl : i = l0.length := by omega
      rw [List.take_length]
      have hL := HLEN.out
      obtain ⟨T, hT⟩ : ∃ T, l0.flatten.length = T := ⟨_, rfl⟩
      rw [hT] at hL ⊢
      obtain ⟨cs, hrunM, hle, _⟩ := Lib.run_makeNoZero (P := Try.prog) w #[3] 22 5 u5 T (by omega)
      have hcall : (callFunc 92 #[.int .i64 (T : Int)]).run Try.prog w = .ok (.value (.slice (some ⟨w.heap.size, 0, none⟩) T cs.size)) ((w.alloc (.cells cs 5)).drewN 2) := by
        rw [run_callFunc_extern Try.func92 (by kernel_rfl) (by kernel_rfl) (by kernel_rfl) (e := Extern.BytealgMakeNoZero.makeNoZero #[3] #[22]) (by kernel_rfl), hrunM]
        rfl
      clear hrunM
      have i0 : (0 : Int) ≤ (T : Int) := by omega
      have i1 : (T : Int) ≤ (cs.size : Int) := by omega
      have B0 := Buf.start w cs 5 T 2 hle
      have hc0' : ((w.alloc (.cells cs 5)).drewN 2).cell? ⟨b, o, none⟩ = some (.slice A00 (l0[0]).length c00) := Lib.Below.cellOf B0.below hcell0 (Nat.le_refl _)
      have h1 := join_take l0 0 (by omega)
      have hle0 := join_le l0 (0 + 1)
      rw [h1, hT] at hle0
      rw [List.take_zero, List.flatten_nil, List.nil_append] at h1 hle0
      obtain ⟨w1, hr1, B1⟩ := copy_part (P := Try.prog) w _ w.heap.size T [] (l0[0]) A00 c00 22 3 5 u5 hs5 (Nat.le_refl _) B0 HC00.out (by simpa using hle0)
      rw [List.length_nil, Lib.tailV_zero] at hr1
      rw [List.nil_append] at B1
      go_wp2_with (at_builtin; refine Lib.wpList_copy_run _ rfl _ _ 22 22 rfl _ _ rfl rfl hr1 ?_)
      have HB1 : Aside0 (Buf w w1 w.heap.size T (l0.take 1).flatten) := ⟨by rw [h1]; exact B1⟩
      have HL1 := congrArg List.length h1
      clear B1 B0 hr1 hcall hc0' hcell0 h1
      go_loopg [9, 72] (l0.length - 1) (fun g2 s9 s72 wr => ∃ (j : Nat), j ≤ l0.length - 1 ∧ l0.length - 1 - j ≤ g2 ∧ s72 = .int .i64 j ∧ s9 = .int .i64 ((l0.take (1 + j)).flatten.length : Nat) ∧ Aside0 (Buf w wr w.heap.size T (l0.take (1 + j)).flatten))
      case atStart => exact ⟨0, Nat.zero_le _, by omega, rfl, by rw [HL1], HB1⟩
      case round =>
        obtain ⟨j, hj, hg2, rfl, rfl, HB⟩ := hrel
        by_cases hjn : j < l0.length - 1
        · have hjz : (j : Int) < ((l0.length - 1 : Nat) : Int) := by omega
          obtain ⟨A2, c2, hcell, hC2⟩ := HC.out (1 + j) (by omega)
          have hs1 := join_take l0 (1 + j) (by omega)
          have hs2 := join_le l0 (1 + j + 1)
          rw [hs1, hT, List.length_append] at hs2
          have hL2 := congrArg List.length hs1
          rw [List.length_append] at hL2
          have HS1 := Aside0.mk hs1
          have HL2 := Aside0.mk hL2
          clear hs1 hL2
          have hcw : wr.cell? ⟨b, o + 1 + j, none⟩ = some (.slice A2 (l0[1 + j]).length c2) := by
            have := Lib.Below.cellOf HB.out.below hcell (Nat.le_refl _)
            rwa [show o + (1 + j) = o + 1 + j by omega] at this
          have hfit := HB.out.fits
          have hsl1 : ∀ W, (Instr.slice 22 (.slice (some ⟨w.heap.size, 0, none⟩) T T) (some (.int .i64 ((l0.take (1 + j)).flatten.length : Int))) none none).run Try.prog W = .ok (Lib.tailV w.heap.size T (l0.take (1 + j)).flatten.length) W := fun W => Lib.run_slice_tailV W 22 5 u5 z5 _ T (l0.take (1 + j)).flatten.length hfit
          obtain ⟨w2, hr2, B2⟩ := copy_part (P := Try.prog) w wr w.heap.size T (l0.take (1 + j)).flatten [] A1 c1 22 3 5 u5 hs5 (Nat.le_refl _) HB.out ⟨rfl, by simp, fun hh => absurd hh (by simp)⟩ (by simpa using hfit)
          rw [List.append_nil] at B2
          rw [List.length_nil, show ((0 : Nat) : Int) = 0 from rfl] at hr2
          obtain ⟨w3, hr3, B3⟩ := copy_part (P := Try.prog) w w2 w.heap.size T (l0.take (1 + j)).flatten (l0[1 + j]) A2 c2 22 3 5 u5 hs5 (Nat.le_refl _) B2 hC2 hs2
          have HB3 : Aside0 (Buf w w3 w.heap.size T (l0.take (1 + j + 1)).flatten) := ⟨by rw [HS1.out]; exact B3⟩
          clear B2 B3 hcell hC2 HB
          generalize (l0.take (1 + j)).flatten.length = bp at hs2 HL2 hfit hsl1 hr2 hr3 ⊢
          generalize (l0[1 + j]).length = m at hs2 HL2 hcw hr3
          go_wp2_with (at_builtin; first | refine Lib.wpList_copy_run _ rfl _ _ 22 22 rfl _ _ rfl rfl hr2 ?_ | refine Lib.wpList_copy_run _ rfl _ _ 22 22 rfl _ _ rfl rfl hr3 ?_)
          go_roundg (l0.length - 1 - (j + 1))
          case measure => omega
          case rel => exact ⟨j + 1, by omega, Nat.le_refl _, by go_num, by rw [show 1 + (j + 1) = 1 + j + 1 by omega, HL2.out]; go_num, by rw [show 1 + (j + 1) = 1 + j + 1 by omega]; exact HB3⟩
        · obtain rfl : j = l0.length - 1 := by omega
          have hjz : ¬ (((l0.length - 1 : Nat) : Int) < ((l0.length - 1 : Nat) : Int)) := by omega
          have HB2 := HB.out
          rw [show 1 + (l0.length - 1) = l0.length by omega, List.take_length] at HB2
          clear HB
          go_wp2_with fail
          go_ret
          exact ⟨_, rfl, Buf.V HB2 hT (by omega), HB2.below⟩
end Go.Proofs.Ytebalgjkabnldaa.X
