/- The contract of world.Name: may a text be an object's name? -/
import Derived.Test.YtbkpcepnhjnpgaaDev
namespace Go.Proofs.Ytbkpcepnhjnpgaa.X
open Go.RowKit Go.Proofs.YtbkpcepnhjnpgaaW.PrintWords Go.Proofs.YtbkpcepnhjnpgaaW.PrintLast Go.Proofs.YtbkpcepnhjnpgaaW.PrintMore
set_option linter.unusedVariables false
set_option linter.unusedSimpArgs false
def okW (c : Int) : Bool := (decide (97 ≤ c) && decide (c ≤ 122)) || (decide (48 ≤ c) && decide (c ≤ 57)) || !(c != 47) || !(c != 46)
def nameW (s : ByteArray) : Nat → Nat → Bool
  | 0, _ => true
  | n + 1, i => okW (((s.data.toList.getD i 0).toNat : Nat) : Int) && nameW s n (i + 1)
def wname (s : ByteArray) : Bool := nameW s s.size 0 && (decide (1 ≤ s.size) && decide (s.size ≤ 24))
theorem fr_bytes (w : World) (e : TypeId) (s : ByteArray) : Fr (fun _ => True) w (Lib.bytesWorld w e s) := Fr.of_below (Mem.below_bytes w e s) (fun k hk _ => hk)
set_option maxHeartbeats 8000000 in
set_option maxRecDepth 100000 in
theorem world_Name.calls (s : ByteArray) (w : World) (hm : s.size ≤ 9223372036854775807) :
    Calls Try.prog 61 #[.string s] w fun e w' => e = .returned (.bool (wname s)) ∧ Fr (fun _ => True) w w' := by
  have kc := fun (W : World) => Lib.run_convert_string_bytes (P := Try.prog) W 9 35 5 s Try.underlying9 Try.underlying35 Try.underlying5
  obtain ⟨r, hr⟩ : ∃ r, wname s = r := ⟨_, rfl⟩
  rw [hr]
  have HR := Aside0.mk hr
  have HM := Aside0.mk hm
  clear hr hm
  go_enter Try.func61, Try.ntmps61
  go_wp2_with fail
  have HF := Aside0.mk (fr_bytes w 5 s)
  have HC := Aside0.mk (fun j hj => Lib.bytesWorld_cell w 5 s j hj)
  have HZ := Aside0.mk (Lib.bytesWorld_size w 5 s)
  have hcap : Aside0 (s.size ≤ grownCap w s.size 0 5) := ⟨by simpa using grownCap_ge w s.size 0 5⟩
  generalize Lib.bytesWorld w 5 s = w1 at HF HC HZ ⊢
  generalize grownCap w s.size 0 5 = cc at hcap ⊢
  obtain ⟨m, hmm⟩ : ∃ m, s.size = m := ⟨_, rfl⟩
  have HMM := Aside0.mk hmm
  rw [hmm] at HM HC hcap ⊢
  obtain ⟨tz, htz⟩ : ∃ tz : Bool, (s.toList == ([] : List UInt8)) = tz := ⟨_, rfl⟩
  have HTZ := Aside0.mk (show tz = decide (m = 0) by
    rw [← htz, ← hmm, Bool.eq_iff_iff, beq_iff_eq, decide_eq_true_eq, ByteArray.toList_eq]
    constructor
    · intro h; have := congrArg List.length h; simpa using this
    · intro h; exact List.eq_nil_of_length_eq_zero (by simpa using h))
  obtain ⟨t4, ht4⟩ : ∃ t : Bool, decide ((m : Int) ≤ 24) = t := ⟨_, rfl⟩
  have HT4 := Aside0.mk ht4
  have HTT := Aside0.mk htz
  clear htz hmm kc
  go_loopg [10] (m + 1) (fun kq v10 w' => ∃ (i : Nat), v10 = .int .i64 (i : Int) ∧ w' = w1 ∧ Aside0 (kq + i = m + 1) ∧ Aside0 (i ≤ m) ∧ Aside0 (nameW s m 0 = nameW s (m - i) i))
  case atStart => exact ⟨0, rfl, rfl, ⟨by omega⟩, ⟨by omega⟩, ⟨rfl⟩⟩
  case round =>
    obtain ⟨i, rfl, rfl, HK, HI, HQ⟩ := hrel
    cases gk with
    | zero => have h1 := HK.out; have h2 := HI.out; omega
    | succ k2 =>
    by_cases hi : i < m
    · have c1 : decide ((i : Int) < (m : Int)) = true := decide_eq_true (by omega)
      have c1b : decide (i < m) = true := decide_eq_true hi
      have hi0 : (0 : Int) ≤ (i : Int) := Int.natCast_nonneg _
      have hi1 : (i : Int) < (m : Int) := by omega
      have hcell := HC.out i hi
      have hq := HQ.out
      rw [show m - i = (m - (i + 1)) + 1 by omega, nameW] at hq
      obtain ⟨c, hc⟩ : ∃ c : Int, (((s.data.toList.getD i 0).toNat : Nat) : Int) = c := ⟨_, rfl⟩
      rw [hc] at hcell hq
      have HIL := Aside0.mk hi
      have HW := Aside0.mk (show wrap64 ((i : Int) + 1) = ((i + 1 : Nat) : Int) by have := HM.out; unfold wrap64; omega)
      obtain ⟨b1, hb1⟩ : ∃ b_ : Bool, decide ((97 : Int) ≤ c) = b_ := ⟨_, rfl⟩
      obtain ⟨b2, hb2⟩ : ∃ b_ : Bool, decide (c ≤ 122) = b_ := ⟨_, rfl⟩
      obtain ⟨b3, hb3⟩ : ∃ b_ : Bool, decide ((48 : Int) ≤ c) = b_ := ⟨_, rfl⟩
      obtain ⟨b4, hb4⟩ : ∃ b_ : Bool, decide (c ≤ 57) = b_ := ⟨_, rfl⟩
      obtain ⟨b5, hb5⟩ : ∃ b_ : Bool, (c != 47) = b_ := ⟨_, rfl⟩
      obtain ⟨b6, hb6⟩ : ∃ b_ : Bool, (c != 46) = b_ := ⟨_, rfl⟩
      have hok : okW c = ((b1 && b2) || (b3 && b4) || !b5 || !b6) := by unfold okW; rw [hb1, hb2, hb3, hb4, hb5, hb6]
      rw [hok] at hq
      have HQ2 := Aside0.mk hq
      have hp : (b5 = false → b1 = false ∧ b2 = true ∧ b3 = false ∧ b4 = true ∧ b6 = true) ∧ (b6 = false → b1 = false ∧ b2 = true ∧ b3 = false ∧ b4 = true) ∧ (b1 = true → b3 = true ∧ b4 = false) ∧ (b4 = true → b2 = true ∧ b1 = false) ∧ (b2 = false → b1 = true) ∧ (b3 = false → b4 = true) := by
        rw [← hb1, ← hb2, ← hb3, ← hb4, ← hb5, ← hb6]
        simp only [decide_eq_true_eq, decide_eq_false_iff_not, bne_iff_ne, bne_eq_false_iff_eq]
        omega
      clear hi hc hq HQ hok
      cases b1 <;> cases b2 <;> cases b3 <;> cases b4 <;> cases b5 <;> cases b6 <;> first
        | (exact absurd hp (by decide))
        | (clear hp
           go_wp2_with fail
           first
           | (go_ret
              have h1 := HR.out
              have h2 := HQ2.out
              unfold wname at h1
              rw [HMM.out, h2] at h1
              exact ⟨by rw [← h1]; rfl, HF.out⟩)
           | (rw [HW.out]
              go_roundg k2
              case measure => exact Nat.lt_succ_self _
              case rel => exact ⟨i + 1, rfl, rfl, ⟨by have := HK.out; omega⟩, ⟨by have := HIL.out; omega⟩, ⟨by have h2 := HQ2.out; simpa using h2⟩⟩))
    · have c1 : decide ((i : Int) < (m : Int)) = false := decide_eq_false (by omega)
      have c1b : decide (i < m) = false := decide_eq_false hi
      have hie : i = m := by have := HI.out; omega
      have HQ3 := Aside0.mk (show nameW s m 0 = true by rw [HQ.out, hie, Nat.sub_self]; rfl)
      clear hi hie HQ
      have htz := HTT.out
      cases tz <;> cases t4 <;> (
        go_wp2_with fail
        go_ret
        have h1 := HR.out
        have h4 := HT4.out
        have h5 := HTZ.out
        unfold wname at h1
        rw [HMM.out, HQ3.out] at h1
        refine ⟨?_, HF.out⟩
        rw [← h1]
        show Ending.returned (Value.bool _) = _
        congr 2
        try rw [HMM.out]
        rw [Bool.eq_iff_iff]
        simp at h4 h5 ⊢
        omega)
end Go.Proofs.Ytbkpcepnhjnpgaa.X
