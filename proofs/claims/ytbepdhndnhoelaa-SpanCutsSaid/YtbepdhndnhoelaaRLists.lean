/- The contract of firkinref03.Lists: are lists of bytes the same? -/
import Derived.Test.YtbepdhndnhoelaaX0
import Derived.Test.YtbepdhndnhoelaaMem2
import Derived.Lib.Hide
namespace Go.Proofs.Ytbepdhndnhoelaa.X
open Go.RowKit Go.Proofs.YtbepdhndnhoelaaW.PrintWords Go.Proofs.YtbepdhndnhoelaaW.PrintLast Go.Proofs.YtbepdhndnhoelaaW.PrintMore
set_option linter.unusedVariables false
set_option linter.unusedSimpArgs false
def listsGo : List (List Int) → List (List Int) → Bool
  | [], [] => true
  | x :: a, y :: b => if (strOfNums x).toList = (strOfNums y).toList then listsGo a b else false
  | _, _ => false
theorem listsGo_len : ∀ (a b : List (List Int)), a.length ≠ b.length → listsGo a b = false
  | [], [], h => absurd rfl h
  | [], _ :: _, _ => rfl
  | _ :: _, [], _ => rfl
  | x :: a, y :: b, h => by
    rw [listsGo, listsGo_len a b (fun h9 => h (by simp [h9]))]
    split <;> rfl
def firkinref03_Lists.f (l0 l1 : List (List Int)) : Option Bool := some (listsGo l0 l1)
set_option maxHeartbeats 8000000 in
set_option maxRecDepth 100000 in
theorem firkinref03_Lists.calls (A0 : Option Addr) (c0 : Nat) (l0 : List (List Int)) (A1 : Option Addr) (c1 : Nat) (l1 : List (List Int)) (r : Bool) (w : World) (hr0 : Kd.C (Kd.slice 5 (Kd.int .u8)) w A0 l0.length l0) (hc0 : l0.length ≤ c0) (hr1 : Kd.C (Kd.slice 5 (Kd.int .u8)) w A1 l1.length l1) (hc1 : l1.length ≤ c1) (h : firkinref03_Lists.f l0 l1 = some r) :
    Calls Try.prog 14 #[.slice A0 l0.length c0, .slice A1 l1.length c1] w fun e w' => e = .returned (.bool r) ∧ Drawn0 w w' := by
  unfold firkinref03_Lists.f at h
  have hq := Option.some.inj h
  clear h
  have hm0 := Kd.C_max hr0
  have hm1 := Kd.C_max hr1
  have HR0 := Aside0.mk hr0
  have HR1 := Aside0.mk hr1
  clear hr0 hr1
  by_cases hl : l0.length ≠ l1.length
  · rw [listsGo_len _ _ hl] at hq
    subst hq
    have hb1 : ((l0.length : Int) != (l1.length : Int)) = true := by rw [bne_iff_ne]; omega
    have hb2 : (l0.length != l1.length) = true := by rw [bne_iff_ne]; exact hl
    clear hl
    go_enter Try.func14, Try.ntmps14
    go_wp2_with fail
    go_ret
    exact ⟨rfl, ⟨0, rfl⟩⟩
  have hl : l0.length = l1.length := by omega
  have hb1 : ((l0.length : Int) != (l1.length : Int)) = false := by rw [bne_eq_false_iff_eq]; omega
  have hb2 : (l0.length != l1.length) = false := by rw [bne_eq_false_iff_eq]; exact hl
  have HL := Aside0.mk hl
  have HQ := Aside0.mk hq
  clear hl hq
  go_enter Try.func14, Try.ntmps14
  go_wp2_with fail
  clear hb1 hb2
  go_loopg [5] l0.length (fun kq v5 w' => ∃ (i : Nat) (nd : Nat), v5 = .int .i64 (i : Int) ∧ kq + i = l0.length ∧ Aside0 (listsGo (l0.drop i) (l1.drop i) = r) ∧ w' = w.drewN nd)
  case atStart => exact ⟨0, 0, rfl, rfl, HQ, rfl⟩
  case round =>
    clear HQ
    obtain ⟨i, nd, rfl, hi, HE, rfl⟩ := hrel
    cases gk with
    | zero =>
      obtain rfl : i = l0.length := by omega
      have hb : decide ((l0.length : Int) < (l0.length : Int)) = false := decide_eq_false (by omega)
      have hb2 : decide (l0.length < l0.length) = false := decide_eq_false (by omega)
      have he := HE.out
      rw [List.drop_eq_nil_of_le (Nat.le_refl _), List.drop_eq_nil_of_le (by have := HL.out; omega)] at he
      obtain rfl : true = r := he
      go_wp2_with fail
      go_ret
      exact ⟨rfl, ⟨nd, rfl⟩⟩
    | succ k2 =>
      have hlt : i < l0.length := by omega
      have hlt1 : i < l1.length := by have := HL.out; omega
      have hb : decide ((i : Int) < (l0.length : Int)) = true := decide_eq_true (by omega)
      have hb2 : decide (i < l0.length) = true := decide_eq_true hlt
      have hb3 : decide ((i : Int) < (l1.length : Int)) = true := decide_eq_true (by omega)
      obtain ⟨ad, Ai, ci, rfl, hx, hci, Ci⟩ := Mem.at_row HR0.out i hlt
      obtain ⟨bd, Bi, di, rfl, hy, hdi, Di⟩ := Mem.at_row HR1.out i hlt1
      have he := HE.out
      rw [List.drop_eq_getElem_cons hlt, List.drop_eq_getElem_cons hlt1, listsGo] at he
      generalize l0[i] = x at hx hci Ci he
      generalize l1[i] = y at hy hdi Di he
      have hcx : ∀ q, (convert 42 9 (.slice Ai x.length ci)).run Try.prog (w.drewN q) = .ok (.string (strOfNums x)) (w.drewN q) := fun q => Kd.C_string (P := Try.prog) Try.underlying42 Try.underlying5 Try.underlying9 (Kd.C_drewN Ci q)
      have hcy : ∀ q, (convert 42 9 (.slice Bi y.length di)).run Try.prog (w.drewN q) = .ok (.string (strOfNums y)) (w.drewN q) := fun q => Kd.C_string (P := Try.prog) Try.underlying42 Try.underlying5 Try.underlying9 (Kd.C_drewN Di q)
      clear Ci Di
      by_cases hs : (strOfNums x).toList = (strOfNums y).toList
      · rw [if_pos hs] at he
        have HE2 := Aside0.mk he
        have hbs : ((strOfNums x).toList == (strOfNums y).toList) = true := by rw [hs]; exact beq_self_eq_true _
        have hbs2 : ((strOfNums x).toList != (strOfNums y).toList) = false := by rw [hs]; simp
        clear he hs HE
        go_wp2_with fail
        go_quiet (fail)
        go_wp2_with fail
        go_roundg k2
        case measure => omega
        case rel => exact ⟨i + 1, _, by go_num, by omega, HE2, rfl⟩
      · rw [if_neg hs] at he
        subst he
        have hbs : ((strOfNums x).toList == (strOfNums y).toList) = false := beq_eq_false_iff_ne.mpr hs
        have hbs2 : ((strOfNums x).toList != (strOfNums y).toList) = true := by rw [bne_iff_ne]; exact hs
        clear hs HE
        go_wp2_with fail
        go_quiet (fail)
        go_wp2_with fail
        go_ret
        exact ⟨rfl, ⟨nd + nq, World.drewN_drewN _ _ _⟩⟩
end Go.Proofs.Ytbepdhndnhoelaa.X
