/- The contract of span.Part: a range's bytes, a part of the pages' bytes laid together. -/
import Derived.Test.YtbepdhndnhoelaaConcat
import Derived.Test.YtbepdhndnhoelaaMem2
import Derived.Lib.Hide
namespace Go.Proofs.Ytbepdhndnhoelaa.X
open Go.RowKit Go.Proofs.YtbepdhndnhoelaaW.PrintWords Go.Proofs.YtbepdhndnhoelaaW.PrintLast Go.Proofs.YtbepdhndnhoelaaW.PrintMore
set_option linter.unusedVariables false
set_option linter.unusedSimpArgs false
def span_Part.f (a0 : Int) (a1 : Int) (a2 : Int) (l3 : List (List Int)) : Option (List Int × Bool) :=
  if a0 < 0 ∨ a1 < 0 ∨ a2 < 0 ∨ a2 > 1048576 then some ([], false) else (slices_Concat_byte.f l3).bind fun all =>
    if wrap64 (a0 - wrap64 (a2 * 192)) < 0 ∨ wrap64 (a0 - wrap64 (a2 * 192)) > (all.length : Int) ∨ a1 > wrap64 ((all.length : Int) - wrap64 (a0 - wrap64 (a2 * 192))) then some ([], false)
    else some ((all.take ((wrap64 (a0 - wrap64 (a2 * 192))).toNat + a1.toNat)).drop (wrap64 (a0 - wrap64 (a2 * 192))).toNat, true)
theorem part_cut {W : World} {ok : Nat → Prop} {P : Program} {d : Kd Int} {A : Option Addr} {xs : List Int} {c : Nat} (t e : TypeId) (kl kh : IntKind) {i : TypeInfo} (ht : P.underlying t = some (.slice e)) (hi : P.info? e = some i) (hsz : i.size = d.sz) {lo hi' : Nat} (hF : Kd.F d W ok A xs.length xs) (h1 : lo ≤ hi') (h2 : hi' ≤ xs.length) (hc : xs.length ≤ c) :
    ∃ A' : Option Addr, (∀ W : World, (Instr.slice t (.slice A xs.length c) (some (.int kl (lo : Int))) (some (.int kh (hi' : Int))) none).run P W = .ok (.slice A' (hi' - lo) (c - lo)) W) ∧ Kd.F d W ok A' (hi' - lo) ((xs.take hi').drop lo) ∧ ((xs.take hi').drop lo).length = hi' - lo ∧ hi' - lo ≤ c - lo := by
  have h3 := fun W => cut_mid (P := P) t e kl kh ht hi d.sz hsz A xs.length c (lo : Int) (hi' : Int) (by omega) (by omega) (by omega) hc W
  have h4 := Kd.F_mid hF h1 h2 hc
  have hl : ((xs.take hi').drop lo).length = hi' - lo := by rw [List.length_drop, List.length_take]; omega
  rw [hl] at h4
  simp only [Int.toNat_natCast] at h3
  exact ⟨_, h3, h4, hl, by omega⟩
set_option maxHeartbeats 8000000 in
set_option maxRecDepth 1000000 in
theorem span_Part.calls (a0 : Int) (a1 : Int) (a2 : Int) (A3 : Option Addr) (c3 : Nat) (l3 : List (List Int)) (r1 : List Int) (r2 : Bool) (w : World) (hr3 : Kd.C (Kd.slice 5 (Kd.int .u8)) w A3 l3.length l3) (hc3 : l3.length ≤ c3) (h : span_Part.f a0 a1 a2 l3 = some (r1, r2)) :
    Calls Try.prog 17 #[.int .i64 a0, .int .i64 a1, .int .i64 a2, .slice A3 l3.length c3] w fun e w' => ∃ v0_ : Value, e = .returned (.tuple #[v0_, .bool r2]) ∧ Kd.V (Kd.int .u8) 5 w' w.heap.size (fun k_ => w.heap.size ≤ k_) v0_ r1 ∧ Below w.heap.size w w' := by
  unfold span_Part.f at h
  have HR3 := Aside0.mk hr3
  clear hr3
  obtain ⟨b1, hb1⟩ : ∃ b_ : Bool, decide (a0 < 0) = b_ := ⟨_, rfl⟩
  obtain ⟨b2, hb2⟩ : ∃ b_ : Bool, decide (a1 < 0) = b_ := ⟨_, rfl⟩
  obtain ⟨b3, hb3⟩ : ∃ b_ : Bool, decide (a2 < 0) = b_ := ⟨_, rfl⟩
  obtain ⟨b4, hb4⟩ : ∃ b_ : Bool, decide (a2 > 1048576) = b_ := ⟨_, rfl⟩
  have hx : (a0 < 0 ∨ a1 < 0 ∨ a2 < 0 ∨ a2 > 1048576) ↔ (b1 || b2 || b3 || b4) = true := by
    rw [← hb1, ← hb2, ← hb3, ← hb4]; simp only [Bool.or_eq_true, decide_eq_true_eq, or_assoc]
  by_cases ht : (b1 || b2 || b3 || b4) = true
  · rw [if_pos (hx.mpr ht)] at h
    simp only [Option.some.injEq, Prod.mk.injEq] at h
    obtain ⟨rfl, rfl⟩ := h
    clear hx
    cases b1 <;> cases b2 <;> cases b3 <;> cases b4 <;> first
      | (exact absurd ht (by decide))
      | (clear ht
         go_enter Try.func17, Try.ntmps17
         go_wp2_with fail
         go_ret2
         exact ⟨_, rfl, Kd.V_nil _ _ _ _ _, Below.refl _ _⟩)
  rw [if_neg (fun h9 => ht (hx.mp h9))] at h
  obtain ⟨all, e1, h⟩ := Option.bind_eq_some_iff.mp h
  have E1 := Aside0.mk e1
  have HPOS : Aside0 (0 ≤ a0 ∧ 0 ≤ a1 ∧ 0 ≤ a2 ∧ a2 ≤ 1048576) := ⟨by have h9 : ¬ (a0 < 0 ∨ a1 < 0 ∨ a2 < 0 ∨ a2 > 1048576) := fun h9 => ht (hx.mp h9); omega⟩
  obtain ⟨fr, hfr⟩ : ∃ fr, wrap64 (a0 - wrap64 (a2 * 192)) = fr := ⟨_, rfl⟩
  rw [hfr] at h
  have hff : b1 = false ∧ b2 = false ∧ b3 = false ∧ b4 = false := by cases b1 <;> cases b2 <;> cases b3 <;> cases b4 <;> simp_all
  obtain ⟨rfl, rfl, rfl, rfl⟩ := hff
  clear ht hx e1
  obtain ⟨q1, hq1⟩ : ∃ b_ : Bool, decide (fr < 0) = b_ := ⟨_, rfl⟩
  obtain ⟨q2, hq2⟩ : ∃ b_ : Bool, decide (fr > (all.length : Int)) = b_ := ⟨_, rfl⟩
  obtain ⟨q3, hq3⟩ : ∃ b_ : Bool, decide (a1 > wrap64 ((all.length : Int) - fr)) = b_ := ⟨_, rfl⟩
  have hx : (fr < 0 ∨ fr > (all.length : Int) ∨ a1 > wrap64 ((all.length : Int) - fr)) ↔ (q1 || q2 || q3) = true := by
    rw [← hq1, ← hq2, ← hq3]; simp only [Bool.or_eq_true, decide_eq_true_eq, or_assoc]
  by_cases ht : (q1 || q2 || q3) = true
  · rw [if_pos (hx.mpr ht)] at h
    simp only [Option.some.injEq, Prod.mk.injEq] at h
    obtain ⟨rfl, rfl⟩ := h
    clear hx
    cases q1 <;> cases q2 <;> cases q3 <;> first
      | (exact absurd ht (by decide))
      | (clear ht
         go_enter Try.func17, Try.ntmps17
         go_wp2_with fail
         refine (slices_Concat_byte.calls A3 c3 l3 all w HR3.out hc3 E1.out).mono ?_
         rintro e w1 ⟨v1, rfl, R1, B1⟩
         have HB1 := Aside0.mk B1
         obtain ⟨A1, c1, rfl, hc1, C1⟩ := Kd.R_reads R1
         clear R1 C1 B1
         go_wp2_with fail
         go_ret2
         exact ⟨_, rfl, Kd.V_nil _ _ _ _ _, HB1.out⟩)
  rw [if_neg (fun h9 => ht (hx.mp h9))] at h
  have hff : q1 = false ∧ q2 = false ∧ q3 = false := by cases q1 <;> cases q2 <;> cases q3 <;> simp_all
  obtain ⟨rfl, rfl, rfl⟩ := hff
  have g1 : ¬ fr < 0 := of_decide_eq_false hq1
  have g2 : ¬ fr > (all.length : Int) := of_decide_eq_false hq2
  have g3 : ¬ a1 > wrap64 ((all.length : Int) - fr) := of_decide_eq_false hq3
  have hp := HPOS.out
  obtain ⟨m, rfl⟩ : ∃ m : Nat, fr = (m : Int) := ⟨fr.toNat, by omega⟩
  obtain ⟨n, rfl⟩ : ∃ n : Nat, a1 = (n : Int) := ⟨a1.toNat, by omega⟩
  simp only [Int.toNat_natCast, Option.some.injEq, Prod.mk.injEq] at h
  obtain ⟨rfl, rfl⟩ := h
  have HG : Aside0 (all.length < 140737488355328 ∧ m + n ≤ all.length) := ⟨by
    have h9 := E1.out
    unfold slices_Concat_byte.f at h9
    split at h9
    · rename_i h8
      obtain rfl := Option.some.inj h9
      refine ⟨h8, ?_⟩
      generalize l3.flatten.length = L at *
      unfold wrap64 at g3; omega
    · cases h9⟩
  have hs : wrap64 ((m : Int) + (n : Int)) = ((m + n : Nat) : Int) := by have := HG.out; unfold wrap64; omega
  have hq2b : decide (all.length < m) = false := decide_eq_false (by omega)
  clear ht hx hp g1 g2 g3
  obtain ⟨i5, hi5, hsz5⟩ : ∃ i, Try.prog.info? 5 = some i ∧ i.size = (Kd.int .u8).sz := by
    obtain ⟨i, hi, hz⟩ := Option.map_eq_some_iff.1 info5
    simp only [Prod.mk.injEq] at hz
    exact ⟨i, hi, hz.2.1⟩
  go_enter Try.func17, Try.ntmps17
  go_wp2_with fail
  refine (slices_Concat_byte.calls A3 c3 l3 all w HR3.out hc3 E1.out).mono ?_
  rintro e w1 ⟨v1, rfl, R1, B1⟩
  have HB1 := Aside0.mk B1
  obtain ⟨A1, c1, rfl, hc1, C1⟩ := Kd.R_reads R1
  obtain ⟨A', hcut, hF, hl, hcc⟩ := part_cut (P := Try.prog) (d := Kd.int .u8) 42 5 .i64 .i64 Try.underlying42 hi5 hsz5 (lo := m) (hi' := m + n) (Kd.R_F (Kd.R_bound R1)) (by omega) HG.out.2 hc1
  have hmn : m + n - m = n := by omega
  have hcut2 : ∀ W : World, (Instr.slice 42 (.slice A1 all.length c1) (some (.int .i64 (m : Int))) (some (.int .i64 ((m : Int) + (n : Int)))) none).run Try.prog W = .ok (.slice A' n (c1 - m)) W := fun W => by have := hcut W; rw [hmn, Int.natCast_add] at this; exact this
  rw [hmn] at hF hl hcc
  clear hmn hcut
  have HF := Aside0.mk hF
  have HL := Aside0.mk hl
  have HCC := Aside0.mk hcc
  clear R1 C1 B1 hF hl hcc hi5
  go_wp2_with fail
  go_ret2
  refine ⟨_, rfl, ?_, HB1.out⟩
  have := Kd.V_mk (d := Kd.int .u8) (e := 5) (base := w.heap.size) (xs := (all.take (m + n)).drop m) (A := A') (c := c1 - m) (by rw [HL.out]; exact HCC.out) (by rw [HL.out]; exact HF.out)
  rw [HL.out] at this
  exact Kd.V_mono this (fun k hk => hk.2.1)
end Go.Proofs.Ytbepdhndnhoelaa.X
