/- The contract of dead.Get: which of n rows are gone, and an error's number. -/
import Derived.Test.YthcmokglgepgjaaX8
import Derived.Test.YthcmokglgepgjaaX6
import Derived.Test.YthcmokglgepgjaaX7
import Derived.Test.YthcmokglgepgjaaFrameGet
namespace Go.Proofs.Ythcmokglgepgjaa.X
open Go.RowKit Go.Proofs.YthcmokglgepgjaaW.PrintWords Go.Proofs.YthcmokglgepgjaaW.PrintLast Go.Proofs.YthcmokglgepgjaaW.PrintMore
set_option linter.unusedVariables false
set_option linter.unusedSimpArgs false
def dead_Get.f (k : Nat) (l0 : List Int) (a1 : Int) : Option (List Bool × Int) := (frame_Get.f k l0).bind fun x => if x.2.2 ≠ 0 then some ([], x.2.2) else (vint_Source_Below.f x.1 false 201).bind fun m => (vint_Source_Left.f m.2.1 m.2.2).bind fun n => (vint_Source_Take.f n.2.1 n.2.2 n.1).bind fun t => (bitv_Unpack.f k t.1 m.1).bind fun u => if t.2.2 = true ∨ u.2 = false ∨ m.1 ≠ a1 ∨ x.2.1 ≠ (l0.length : Int) then some ([], 2) else some (u.1, 0)
theorem dead_Get.mono : ∀ a0 a1 k, LeO (dead_Get.f k a0 a1) (dead_Get.f (k + 1) a0 a1) := by
  intro a0 a1 k
  unfold dead_Get.f
  repeat' first
      | (with_reducible exact frame_Get.mono _ _)
      | (with_reducible exact bitv_Unpack.mono _ _ _)
      | (with_reducible exact LeO.refl _)
      | (with_reducible exact LeO.none _)
      | (with_reducible refine LeO.ite ?_ ?_)
      | (with_reducible refine LeO.bind ?_ (fun _ => ?_))
      | exact bitv_Unpack.mono _ _ _
set_option maxHeartbeats 8000000 in
set_option maxRecDepth 100000 in
theorem dead_Get.calls (k : Nat) (A0 : Option Addr) (c0 : Nat) (l0 : List Int) (a1 : Int) (r1 : List Bool) (r2 : Int) (w : World) (hr0 : Kd.C (Kd.int .u8) w A0 l0.length l0) (hc0 : l0.length ≤ c0) (h : dead_Get.f k l0 a1 = some (r1, r2)) :
    Calls Try.prog 25 #[.slice A0 l0.length c0, .int .i64 a1] w fun e w' => ∃ v0_ : Value, e = .returned (.tuple #[v0_, .int .i64 r2]) ∧ Kd.R Kd.bool 4 w' w.heap.size (fun _ => True) v0_ r1 ∧ Below w.heap.size w w' := by
  unfold dead_Get.f at h
  obtain ⟨⟨x, sz, er⟩, e1, h⟩ := Option.bind_eq_some_iff.mp h
  have E1 := Aside0.mk e1
  have HR0 := Aside0.mk hr0
  have hm0 := Kd.C_max hr0
  clear e1 hr0
  by_cases her : er ≠ 0
  · rw [if_pos her] at h
    simp only [Option.some.injEq, Prod.mk.injEq] at h
    obtain ⟨rfl, rfl⟩ := h
    have hb1 : (er != 0) = true := by rw [bne_iff_ne]; exact her
    clear her
    go_enter Try.func25, Try.ntmps25
    go_wp2_with fail
    refine (frame_Get.calls k A0 c0 l0 x sz er w HR0.out hc0 E1.out).mono ?_
    rintro e w1 ⟨v1, rfl, R1, b1⟩
    go_wp2_with fail
    go_ret2
    exact ⟨_, rfl, Kd.R_nil _ _ _ _ _, b1⟩
  rw [if_neg her] at h
  have her : er = 0 := by omega
  subst her
  obtain ⟨⟨m, l1, q1⟩, e2, h⟩ := Option.bind_eq_some_iff.mp h
  obtain ⟨⟨n, l2, q2⟩, e3, h⟩ := Option.bind_eq_some_iff.mp h
  obtain ⟨⟨t, l3, q3⟩, e4, h⟩ := Option.bind_eq_some_iff.mp h
  obtain ⟨⟨u, ok⟩, e5, h⟩ := Option.bind_eq_some_iff.mp h
  have E2 := Aside0.mk e2
  have E3 := Aside0.mk e3
  have E4 := Aside0.mk e4
  have E5 := Aside0.mk e5
  have HH := Aside0.mk h
  clear e2 e3 e4 e5 h
  go_enter Try.func25, Try.ntmps25
  go_wp2_with fail
  refine (frame_Get.calls k A0 c0 l0 x sz 0 w HR0.out hc0 E1.out).mono ?_
  rintro e w1 ⟨v1, rfl, R1, b1⟩
  obtain ⟨A1, c1, rfl, hc1, C1⟩ := Kd.R_reads R1
  have HC1 := Aside0.mk C1
  have HB1 := Aside0.mk b1
  clear R1 C1 b1
  go_wp2_with fail
  refine (vint_From.calls2 A1 c1 x w1 w1 (Below.refl _ _) HC1.out hc1).mono ?_
  rintro e w2 ⟨g, rfl, s2, B2, _, _⟩
  go_wp2_with fail
  refine (vint_Source_Below.calls g x false 201 m l1 q1 w1 _ s2 B2 E2.out).mono ?_
  rintro e w3 ⟨rfl, s3, B3, _⟩
  clear s2 B2
  go_wp2_with fail
  refine (vint_Source_Left.calls g l1 q1 n l2 q2 w1 _ s3 B3 E3.out).mono ?_
  rintro e w4 ⟨rfl, s4, B4, _⟩
  clear s3 B3
  go_wp2_with fail
  refine (vint_Source_Take.calls g l2 q2 n t l3 q3 w1 _ s4 B4 E4.out).mono ?_
  rintro e w5 ⟨v5, rfl, R5, s5, B5, _⟩
  obtain ⟨A5, c5, rfl, hc5, C5⟩ := Kd.R_reads R5
  have HS5 := Aside0.mk s5
  have HB5 := Aside0.mk (below_step HB1.out B5)
  have HC5 := Aside0.mk C5
  clear s4 B4 R5 C5 s5 B5 HC1 HB1
  go_wp2_with fail
  refine (bitv_Unpack.calls k A5 c5 t m u ok _ HC5.out hc5 E5.out).mono ?_
  rintro e w6 ⟨v6, rfl, R6, b6⟩
  have s6 := IsS90.below HS5.out b6
  have HB6 := Aside0.mk (below_step HB5.out b6)
  have HR6 := Aside0.mk (Kd.R_lower R6 (below_size HB5.out))
  clear R6 b6 HC5 HS5
  go_wp2_with fail
  refine (vint_Source_Ok.same g l3 q3 w1 _ s6).mono ?_
  rintro e w7 ⟨rfl, rfl⟩
  clear s6
  obtain ⟨b3, hb3⟩ : ∃ b_ : Bool, (m != a1) = b_ := ⟨_, rfl⟩
  obtain ⟨b4, hb4⟩ : ∃ b_ : Bool, (sz != (l0.length : Int)) = b_ := ⟨_, rfl⟩
  have HX : Aside0 ((q3 = true ∨ ok = false ∨ m ≠ a1 ∨ sz ≠ (l0.length : Int)) ↔ (q3 || (!ok || (b3 || b4))) = true) := ⟨by rw [← hb3, ← hb4]; cases q3 <;> cases ok <;> simp⟩
  have h := HH.out
  clear HH
  cases q3 <;> cases ok <;> cases b3 <;> cases b4 <;> first
    | (rw [if_neg (fun h9 => by have := HX.out.mp h9; revert this; decide)] at h
       simp only [Option.some.injEq, Prod.mk.injEq] at h
       obtain ⟨rfl, rfl⟩ := h
       clear HX
       go_wp2_with fail
       go_ret2
       exact ⟨_, rfl, HR6.out, HB6.out⟩)
    | (rw [if_pos (HX.out.mpr (by decide))] at h
       simp only [Option.some.injEq, Prod.mk.injEq] at h
       obtain ⟨rfl, rfl⟩ := h
       clear HX
       go_wp2_with fail
       go_ret2
       exact ⟨_, rfl, Kd.R_nil _ _ _ _ _, HB6.out⟩)
end Go.Proofs.Ythcmokglgepgjaa.X
