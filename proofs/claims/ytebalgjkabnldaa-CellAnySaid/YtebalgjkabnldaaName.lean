/- The contract of schema.Name: may a text be a name? -/
import Derived.Test.YtebalgjkabnldaaX12
import Derived.Laws.RangeAny
import Derived.Test.YtebalgjkabnldaaMem
import Derived.Lib.Hide
namespace Go.Proofs.Ytebalgjkabnldaa.X
open Go.RowKit Go.Proofs.YtebalgjkabnldaaW.PrintWords Go.Proofs.YtebalgjkabnldaaW.PrintLast Go.Proofs.YtebalgjkabnldaaW.PrintMore
set_option linter.unusedVariables false
set_option linter.unusedSimpArgs false
/-- May the character c stand at the place i of a name? -/
def okCh (i : Nat) (c : Nat) : Bool := (decide (97 ≤ c) && decide (c ≤ 122)) || (decide (i ≠ 0) && ((decide (48 ≤ c) && decide (c ≤ 57)) || decide (c = 95)))
def nameL (s : ByteArray) : Nat → Nat → Bool
  | 0, _ => true
  | n + 1, i => okCh i (s.get! i).toNat && nameL s n (i + 1)
def schema_Name.f (s : ByteArray) : Option Bool := if s.size = 0 ∨ 12 < s.size then some false else (schema_word.f s).bind fun b => if b = true then some false else some (nameL s s.size 0)
theorem okCh_high (i c : Nat) (h : 128 ≤ c) : okCh i c = false := by
  have h1 : ¬ c ≤ 122 := by omega
  have h2 : ¬ c ≤ 57 := by omega
  have h3 : ¬ c = 95 := by omega
  simp [okCh, h1, h2, h3]
set_option maxHeartbeats 8000000 in
set_option maxRecDepth 100000 in
theorem schema_Name.calls (s : ByteArray) (r : Bool) (w : World) (h : schema_Name.f s = some r) :
    Calls Try.prog 47 #[.string s] w fun e w' => e = .returned (.bool r) ∧ Below w.heap.size w w' := by
  unfold schema_Name.f at h
  by_cases h0 : s.size = 0
  · rw [if_pos (Or.inl h0)] at h
    obtain rfl := Option.some.inj h
    obtain rfl : s = ⟨#[]⟩ := by cases s with | mk d => congr; exact Array.eq_empty_of_size_eq_zero h0
    clear h h0
    go_enter Try.func47, Try.ntmps47
    go_wp2_with fail
    go_ret
    exact ⟨rfl, Below.refl _ _⟩
  have hb0 : (s.toList == ([] : List UInt8)) = false := by
    rw [beq_eq_false_iff_ne]
    intro he
    have := congrArg List.length he
    rw [ByteArray.toList_eq] at this
    exact h0 (by simpa using this)
  by_cases h1 : 12 < s.size
  · rw [if_pos (Or.inr h1)] at h
    obtain rfl := Option.some.inj h
    have hb1 : decide ((12 : Int) < (s.size : Int)) = true := decide_eq_true (by omega)
    clear h
    go_enter Try.func47, Try.ntmps47
    go_wp2_with fail
    go_ret
    exact ⟨rfl, Below.refl _ _⟩
  have hb1 : decide ((12 : Int) < (s.size : Int)) = false := decide_eq_false (by omega)
  rw [if_neg (by omega)] at h
  obtain ⟨b, e1, h⟩ := Option.bind_eq_some_iff.mp h
  have E1 := Aside0.mk e1
  have HH := Aside0.mk h
  clear h e1
  go_enter Try.func47, Try.ntmps47
  go_wp2_with fail
  refine (schema_word.calls s b _ E1.out).mono ?_
  rintro e w1 ⟨rfl, ⟨nd, rfl⟩⟩
  cases b with
  | true =>
    have h := HH.out
    rw [if_pos rfl] at h
    obtain rfl := Option.some.inj h
    clear h
    go_wp2_with fail
    go_ret
    exact ⟨rfl, pw_below_drewN (Below.refl _ _) _⟩
  | false =>
    have h := HH.out
    rw [if_neg (by decide)] at h
    have HR := Aside0.mk (Option.some.inj h)
    clear h
    go_wp2_with fail
    clear HH E1 h
    go_loopg [3] s.size (fun kq v3 w' => ∃ (i : Nat), kq + i = s.size ∧ w' = (w.drewN nd).iter s i ∧ Aside0 (nameL s kq i = r))
    case atStart => exact ⟨0, rfl, rfl, HR⟩
    case round =>
      clear HR
      obtain ⟨i, hi, rfl, HQ⟩ := hrel
      have HB : ∀ j, Below w.heap.size w ((w.drewN nd).iter s j) := fun j => below_alloc (pw_below_drewN (Below.refl _ _) nd) _
      have HB' := Aside0.mk HB
      clear HB
      cases gk with
      | zero =>
        obtain rfl : i = s.size := by omega
        obtain rfl : true = r := HQ.out
        have hnx : ∀ ty, (Instr.next (.pointer (some ⟨w.heap.size, 0, none⟩)) true ty).run Try.prog ((w.drewN nd).iter s s.size) = .ok (.tuple #[.bool false]) ((w.drewN nd).iter s s.size) := fun ty => run_next_end (w.drewN nd) s s.size ty (by omega)
        go_wp2_with fail
        go_ret
        exact ⟨rfl, HB'.out _⟩
      | succ k2 =>
        have hlt : i < s.size := by omega
        have hget : s.get! i = s[i]'hlt := get_at s i hlt
        have hr := HQ.out
        rw [nameL, hget] at hr
        by_cases hc : (s[i]'hlt).toNat < 128
        · have hnx : ∀ ty, (Instr.next (.pointer (some ⟨w.heap.size, 0, none⟩)) true ty).run Try.prog ((w.drewN nd).iter s i) = .ok (.tuple #[.bool true, .int .i64 (i : Int), .int .i32 (((s[i]'hlt).toNat : Nat) : Int)]) ((w.drewN nd).iter s (i + 1)) := fun ty => by
            have h9 := run_next_any (P := Try.prog) (w.drewN nd) s i ty hlt
            rw [decode_ascii s i hlt hc] at h9
            exact h9
          clear hget HQ
          generalize (s[i]'hlt).toNat = c at hnx hr hc
          obtain ⟨b1, hb1, hd1⟩ : ∃ b_ : Bool, decide ((97 : Int) ≤ (c : Int)) = b_ ∧ decide (97 ≤ c) = b_ := ⟨_, rfl, by rw [decide_eq_decide]; omega⟩
          obtain ⟨b2, hb2, hd2⟩ : ∃ b_ : Bool, decide ((c : Int) ≤ 122) = b_ ∧ decide (c ≤ 122) = b_ := ⟨_, rfl, by rw [decide_eq_decide]; omega⟩
          obtain ⟨b3, hb3, hd3⟩ : ∃ b_ : Bool, decide ((48 : Int) ≤ (c : Int)) = b_ ∧ decide (48 ≤ c) = b_ := ⟨_, rfl, by rw [decide_eq_decide]; omega⟩
          obtain ⟨b4, hb4, hd4⟩ : ∃ b_ : Bool, decide ((c : Int) ≤ 57) = b_ ∧ decide (c ≤ 57) = b_ := ⟨_, rfl, by rw [decide_eq_decide]; omega⟩
          obtain ⟨b5, hb5, hd5⟩ : ∃ b_ : Bool, ((c : Int) == 95) = b_ ∧ decide (c = 95) = b_ := ⟨_, rfl, by rw [show ((c : Int) == 95) = decide ((c : Int) = 95) from rfl, decide_eq_decide]; omega⟩
          obtain ⟨b6, hb6, hd6⟩ : ∃ b_ : Bool, ((i : Int) == 0) = b_ ∧ decide (i ≠ 0) = !b_ := ⟨_, rfl, by rw [show ((i : Int) == 0) = decide ((i : Int) = 0) from rfl, ← decide_not, decide_eq_decide]; omega⟩
          have hp : (b5 = true → b1 = false ∧ b2 = true ∧ b3 = true ∧ b4 = false) ∧ (b1 = true → b3 = true ∧ b4 = false) ∧ (b4 = true → b2 = true ∧ b1 = false) ∧ (b2 = false → b1 = true) ∧ (b3 = false → b4 = true) := by
            rw [← hd1, ← hd2, ← hd3, ← hd4, ← hd5]
            simp only [decide_eq_true_eq, decide_eq_false_iff_not]
            omega
          simp only [okCh, hd1, hd2, hd3, hd4, hd5, hd6] at hr
          have HQ := Aside0.mk hr
          clear hr hd1 hd2 hd3 hd4 hd5 hd6 hc
          cases b1 <;> cases b2 <;> cases b3 <;> cases b4 <;> cases b5 <;> first
            | (exact absurd hp (by decide))
            | (clear hp
               cases b6 <;> (
                 have hr := HQ.out
                 simp only [Bool.and_self, Bool.and_true, Bool.and_false, Bool.true_and, Bool.false_and, Bool.or_true, Bool.or_false, Bool.true_or, Bool.false_or, Bool.not_true, Bool.not_false] at hr
                 have HQ2 := Aside0.mk hr
                 clear hr HQ
                 go_wp2_with fail
                 first
                   | (go_roundg k2
                      case measure => omega
                      case rel => exact ⟨i + 1, by omega, rfl, HQ2⟩)
                   | (obtain rfl : false = r := HQ2.out
                      go_ret
                      exact ⟨rfl, HB'.out _⟩)))
        · have hh := decode_high s i hlt (by omega)
          have hle := decode_le s i
          have hnx : ∀ ty, (Instr.next (.pointer (some ⟨w.heap.size, 0, none⟩)) true ty).run Try.prog ((w.drewN nd).iter s i) = .ok (.tuple #[.bool true, .int .i64 (i : Int), .int .i32 ((Utf8.decode s i).1 : Int)]) ((w.drewN nd).iter s (i + (Utf8.decode s i).2)) := fun ty => run_next_any (P := Try.prog) (w.drewN nd) s i ty hlt
          rw [okCh_high i _ (by omega)] at hr
          obtain rfl : false = r := hr
          have HB2 := Aside0.mk (HB'.out (i + (Utf8.decode s i).2))
          generalize (Utf8.decode s i).1 = c at hnx hh
          generalize i + (Utf8.decode s i).2 = i2 at hnx HB2
          have hb1 : decide ((97 : Int) ≤ (c : Int)) = true := decide_eq_true (by omega)
          have hb2 : decide ((c : Int) ≤ 122) = false := decide_eq_false (by omega)
          have hb3 : decide ((48 : Int) ≤ (c : Int)) = true := decide_eq_true (by omega)
          have hb4 : decide ((c : Int) ≤ 57) = false := decide_eq_false (by omega)
          have hb5 : ((c : Int) == 95) = false := beq_eq_false_iff_ne.mpr (by omega)
          obtain ⟨b6, hb6⟩ : ∃ b_ : Bool, ((i : Int) == 0) = b_ := ⟨_, rfl⟩
          clear hh hle HQ hget hc HB'
          cases b6 <;> (
            go_wp2_with fail
            go_ret
            exact ⟨rfl, HB2.out⟩)
end Go.Proofs.Ytebalgjkabnldaa.X
