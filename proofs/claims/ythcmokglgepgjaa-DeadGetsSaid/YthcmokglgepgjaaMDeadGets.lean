/- DeadGets: for every input the call returns true, and each argument reads behind the call as it read before it. No condition. (Part 4 of 4: this session's texts, laid together by wip/merge.py.) -/
import Derived.Test.YthcmokglgepgjaaX0
import Derived.Test.YthcmokglgepgjaaMem2
import Derived.Lib.Hide
import Derived.Laws.BitsAllLaws
import Derived.Test.YthcmokglgepgjaaEnc0
import Derived.Test.YthcmokglgepgjaaRound
import Derived.Lib.Bytes
import Derived.Test.YthcmokglgepgjaaRows
import Derived.Test.YthcmokglgepgjaaOpens
import Derived.WalkKit
import Derived.ProofKit
import Derived.OpenShut
import Derived.ShutString
import Derived.ChangeOld
import Derived.Below
import Derived.SizedLaws
import Derived.Test.YthcmokglgepgjaaMDeadGets0
import Derived.Test.YthcmokglgepgjaaMDeadGets1
import Derived.Test.YthcmokglgepgjaaMDeadGets2
-- Printed for this claim by a program of this session (wip/xprint.py) over the kit's printer; Lean checks it.
namespace Go.Proofs.Ythcmokglgepgjaa.X
open Go.RowKit Go.Proofs.YthcmokglgepgjaaW.PrintWords Go.Proofs.YthcmokglgepgjaaW.PrintLast Go.Proofs.YthcmokglgepgjaaW.PrintMore
attribute [local go_sem] max2_int min2_int max_two min_two max_three min_three max_four min_four   -- for this text's walks alone
set_option linter.unusedVariables false
set_option linter.unusedSimpArgs false

/-! ### firkinref01_S_Below: function 50 -/
def firkinref01_S_Below.f (s0_0 : List Int) (s0_1 : Bool) (a1 : Int) : Option (Int × List Int × Bool) := (firkinref01_S_Num.f s0_0 s0_1).bind fun bt197 => (if bt197.2.2 = true then ((firkinref01_S_Fail.f bt197.2.1 bt197.2.2).bind fun bt200 => (some (0, bt200.1, bt200.2))) else (if a1 < 1 then ((firkinref01_S_Fail.f bt197.2.1 bt197.2.2).bind fun bt202 => (some (0, bt202.1, bt202.2))) else (if bt197.1 ≥ (IntKind.u64.wrap (a1)) then ((firkinref01_S_Fail.f bt197.2.1 bt197.2.2).bind fun bt204 => (some (0, bt204.1, bt204.2))) else (some (wrap64 (bt197.1), bt197.2.1, bt197.2.2)))))
set_option maxHeartbeats 8000000 in
set_option maxRecDepth 100000 in
theorem firkinref01_S_Below.calls (g : Nat) (s0_0 : List Int) (s0_1 : Bool) (a1 : Int) (r1 : Int) (r2 : List Int) (r3 : Bool) (w0 w : World) (hI : IsS74 w0 w g s0_0 s0_1) (hB : Below w0.heap.size w0 w) (h : firkinref01_S_Below.f s0_0 s0_1 a1 = some (r1, r2, r3)) :
    Calls Try.prog 50 #[.pointer (some ⟨g, 0, none⟩), .int .i64 a1] w fun e w' => e = .returned (.int .i64 r1) ∧ IsS74 w0 w' g r2 r3 ∧ Below w0.heap.size w0 w' ∧ KeepBut w w' g none := by
  have HI0 := Aside0.mk hI
  have HK := Aside0.mk (KeepBut.refl w g none)
  have HL := Aside0.mk hB.size
  clear hI
  have HW0 := Aside0.mk hB.size
  have HB := Aside0.mk hB
  clear hB
  have H : ((firkinref01_S_Num.f s0_0 s0_1).bind fun bt197 => (if bt197.2.2 = true then ((firkinref01_S_Fail.f bt197.2.1 bt197.2.2).bind fun bt200 => (some (0, bt200.1, bt200.2))) else (if a1 < 1 then ((firkinref01_S_Fail.f bt197.2.1 bt197.2.2).bind fun bt202 => (some (0, bt202.1, bt202.2))) else (if bt197.1 ≥ (IntKind.u64.wrap (a1)) then ((firkinref01_S_Fail.f bt197.2.1 bt197.2.2).bind fun bt204 => (some (0, bt204.1, bt204.2))) else (some (wrap64 (bt197.1), bt197.2.1, bt197.2.2)))))) = some (r1, r2, r3) := h
  clear h
  replace H := Option.bind_eq_some_iff.mp H
  obtain ⟨⟨t197, t198, t199⟩, A30, H⟩ := H
  replace H : (if t199 = true then ((firkinref01_S_Fail.f t198 t199).bind fun bt200 => (some (0, bt200.1, bt200.2))) else (if a1 < 1 then ((firkinref01_S_Fail.f t198 t199).bind fun bt202 => (some (0, bt202.1, bt202.2))) else (if t197 ≥ (IntKind.u64.wrap (a1)) then ((firkinref01_S_Fail.f t198 t199).bind fun bt204 => (some (0, bt204.1, bt204.2))) else (some (wrap64 (t197), t198, t199))))) = some (r1, r2, r3) := H
  have A3 := Aside0.mk A30
  clear A30
  by_cases c4 : t199 = true
  · subst c4
    have H1 : ((firkinref01_S_Fail.f t198 true).bind fun bt200 => (some (0, bt200.1, bt200.2))) = some (r1, r2, r3) := by rw [if_pos rfl] at H; exact H
    clear H
    have H := H1
    clear H1
    replace H := Option.bind_eq_some_iff.mp H
    obtain ⟨⟨t200, t201⟩, A50, H⟩ := H
    replace H : (some (0, t200, t201)) = some (r1, r2, r3) := H
    have A5 := Aside0.mk A50
    clear A50
    simp only [Option.some.injEq, Prod.mk.injEq] at H
    obtain ⟨rfl, rfl, rfl⟩ := H
    go_enter Try.func50, Try.ntmps50
    go_wp2_with (first | ((with_reducible refine gate_callee (f := 71) rfl ?_); refine goesL_ (some 7) rfl rfl Try.func71 (by kernel_rfl) rfl #[.pointer (some ⟨g, 0, none⟩)] rfl (by (try simp only [List.map_toArray, List.map_cons, List.map_nil]); first | done | rfl | (simp only [List.length_drop, List.length_take]; rfl)) ?_; (with_reducible refine (firkinref01_S_Num.calls g s0_0 s0_1 t197 t198 true w0 _ ?side1 ?side2 A3.out).mono ?_); (case side1 => repeat (first | (with_reducible first | exact HI0.out | apply IsS74.alloc | apply IsS74.drewN | apply IsS74.drew | apply IsS74.set_0 | apply IsS74.set_1) | exact HI0.out)); (case side2 => repeat (first | (with_reducible first | exact HB.out | apply below_alloc | apply pw_below_drewN | apply below_drew1 | refine below_set ?_ (IsS74.ge HI0.out)) | exact HB.out)); rintro e w6 ⟨rfl, hi, hb, hk⟩; refine ⟨_, rfl, ?_⟩; have n0_ := Aside0.mk (KeepBut.trans (by repeat (first | (with_reducible first | exact HK.out | apply KeepBut.set_ | apply keep_drewN | apply keep_drew | apply keep_alloc) | exact HK.out)) hk (.inl rfl)); have n1_ := Aside0.mk (hb); have n2_ := Aside0.mk (hi); clear HK; clear HB; clear HI0; have HK := n0_; have HB := n1_; have HI0 := n2_; clear n0_ n1_ n2_; (try clear hb); (try clear hb2); (try clear hk); (try clear hi); obtain ⟨ASz7_0, cSz7_0, HGz7, hgz7, ⟨HSz7_0, _⟩⟩ := HI0.out; have hcz7_0 := cellS74_0 HGz7; have hcz7_1 := cellS74_1 HGz7; have hfz7_0 := blk_frozen HGz7 0; have hfz7_1 := blk_frozen HGz7 1; clear HGz7 hgz7) | ((with_reducible refine gate_callee (f := 72) rfl ?_); refine goesL_ (some 23) rfl rfl Try.func72 (by kernel_rfl) rfl #[.pointer (some ⟨g, 0, none⟩)] rfl (by (try simp only [List.map_toArray, List.map_cons, List.map_nil]); first | done | rfl | (simp only [List.length_drop, List.length_take]; rfl)) ?_; (with_reducible refine (firkinref01_S_Fail.calls g t198 true t200 t201 w0 _ ?side1 ?side2 A5.out).mono ?_); (case side1 => repeat (first | (with_reducible first | exact HI0.out | apply IsS74.alloc | apply IsS74.drewN | apply IsS74.drew | apply IsS74.set_0 | apply IsS74.set_1) | exact HI0.out)); (case side2 => repeat (first | (with_reducible first | exact HB.out | apply below_alloc | apply pw_below_drewN | apply below_drew1 | refine below_set ?_ (IsS74.ge HI0.out)) | exact HB.out)); rintro e w8 ⟨rfl, hi, hb, hk⟩; refine ⟨_, rfl, ?_⟩; have n0_ := Aside0.mk (KeepBut.trans (by repeat (first | (with_reducible first | exact HK.out | apply KeepBut.set_ | apply keep_drewN | apply keep_drew | apply keep_alloc) | exact HK.out)) hk (.inl rfl)); have n1_ := Aside0.mk (hb); have n2_ := Aside0.mk (hi); clear HK; clear HB; clear HI0; have HK := n0_; have HB := n1_; have HI0 := n2_; clear n0_ n1_ n2_; (try clear hb); (try clear hb2); (try clear hk); (try clear hi)))
    go_ret
    exact ⟨by first | rfl | (simp [errW_none, errW_some] <;> rfl) | (simp [*, errW_none, errW_some] <;> rfl), by repeat (first | (with_reducible first | exact HI0.out | apply IsS74.alloc | apply IsS74.drewN | apply IsS74.drew | apply IsS74.set_0 | apply IsS74.set_1) | exact HI0.out), by repeat (first | (with_reducible first | exact HB.out | apply below_alloc | apply pw_below_drewN | apply below_drew1 | refine below_set ?_ (IsS74.ge HI0.out)) | exact HB.out), by repeat (first | (with_reducible first | exact HK.out | apply KeepBut.set_ | apply keep_drewN | apply keep_drew | apply keep_alloc) | exact HK.out)⟩
  · replace c4 := Bool.eq_false_iff.mpr c4
    subst c4
    have H1 : (if a1 < 1 then ((firkinref01_S_Fail.f t198 false).bind fun bt202 => (some (0, bt202.1, bt202.2))) else (if t197 ≥ (IntKind.u64.wrap (a1)) then ((firkinref01_S_Fail.f t198 false).bind fun bt204 => (some (0, bt204.1, bt204.2))) else (some (wrap64 (t197), t198, false)))) = some (r1, r2, r3) := by rw [if_neg (show ¬ (false = true) by decide)] at H; exact H
    clear H
    have H := H1
    clear H1
    by_cases c9 : a1 < 1
    · rw [if_pos c9] at H
      have c9b0 : decide (a1 < 1) = true := decide_eq_true c9
      clear c9
      replace H := Option.bind_eq_some_iff.mp H
      obtain ⟨⟨t202, t203⟩, A100, H⟩ := H
      replace H : (some (0, t202, t203)) = some (r1, r2, r3) := H
      have A10 := Aside0.mk A100
      clear A100
      simp only [Option.some.injEq, Prod.mk.injEq] at H
      obtain ⟨rfl, rfl, rfl⟩ := H
      go_enter Try.func50, Try.ntmps50
      go_wp2_with (first | ((with_reducible refine gate_callee (f := 71) rfl ?_); refine goesL_ (some 7) rfl rfl Try.func71 (by kernel_rfl) rfl #[.pointer (some ⟨g, 0, none⟩)] rfl (by (try simp only [List.map_toArray, List.map_cons, List.map_nil]); first | done | rfl | (simp only [List.length_drop, List.length_take]; rfl)) ?_; (with_reducible refine (firkinref01_S_Num.calls g s0_0 s0_1 t197 t198 false w0 _ ?side1 ?side2 A3.out).mono ?_); (case side1 => repeat (first | (with_reducible first | exact HI0.out | apply IsS74.alloc | apply IsS74.drewN | apply IsS74.drew | apply IsS74.set_0 | apply IsS74.set_1) | exact HI0.out)); (case side2 => repeat (first | (with_reducible first | exact HB.out | apply below_alloc | apply pw_below_drewN | apply below_drew1 | refine below_set ?_ (IsS74.ge HI0.out)) | exact HB.out)); rintro e w11 ⟨rfl, hi, hb, hk⟩; refine ⟨_, rfl, ?_⟩; have n0_ := Aside0.mk (KeepBut.trans (by repeat (first | (with_reducible first | exact HK.out | apply KeepBut.set_ | apply keep_drewN | apply keep_drew | apply keep_alloc) | exact HK.out)) hk (.inl rfl)); have n1_ := Aside0.mk (hb); have n2_ := Aside0.mk (hi); clear HK; clear HB; clear HI0; have HK := n0_; have HB := n1_; have HI0 := n2_; clear n0_ n1_ n2_; (try clear hb); (try clear hb2); (try clear hk); (try clear hi); obtain ⟨ASz12_0, cSz12_0, HGz12, hgz12, ⟨HSz12_0, _⟩⟩ := HI0.out; have hcz12_0 := cellS74_0 HGz12; have hcz12_1 := cellS74_1 HGz12; have hfz12_0 := blk_frozen HGz12 0; have hfz12_1 := blk_frozen HGz12 1; clear HGz12 hgz12) | ((with_reducible refine gate_callee (f := 72) rfl ?_); refine goesL_ (some 23) rfl rfl Try.func72 (by kernel_rfl) rfl #[.pointer (some ⟨g, 0, none⟩)] rfl (by (try simp only [List.map_toArray, List.map_cons, List.map_nil]); first | done | rfl | (simp only [List.length_drop, List.length_take]; rfl)) ?_; (with_reducible refine (firkinref01_S_Fail.calls g t198 false t202 t203 w0 _ ?side1 ?side2 A10.out).mono ?_); (case side1 => repeat (first | (with_reducible first | exact HI0.out | apply IsS74.alloc | apply IsS74.drewN | apply IsS74.drew | apply IsS74.set_0 | apply IsS74.set_1) | exact HI0.out)); (case side2 => repeat (first | (with_reducible first | exact HB.out | apply below_alloc | apply pw_below_drewN | apply below_drew1 | refine below_set ?_ (IsS74.ge HI0.out)) | exact HB.out)); rintro e w13 ⟨rfl, hi, hb, hk⟩; refine ⟨_, rfl, ?_⟩; have n0_ := Aside0.mk (KeepBut.trans (by repeat (first | (with_reducible first | exact HK.out | apply KeepBut.set_ | apply keep_drewN | apply keep_drew | apply keep_alloc) | exact HK.out)) hk (.inl rfl)); have n1_ := Aside0.mk (hb); have n2_ := Aside0.mk (hi); clear HK; clear HB; clear HI0; have HK := n0_; have HB := n1_; have HI0 := n2_; clear n0_ n1_ n2_; (try clear hb); (try clear hb2); (try clear hk); (try clear hi)))
      go_ret
      exact ⟨by first | rfl | (simp [errW_none, errW_some] <;> rfl) | (simp [*, errW_none, errW_some] <;> rfl), by repeat (first | (with_reducible first | exact HI0.out | apply IsS74.alloc | apply IsS74.drewN | apply IsS74.drew | apply IsS74.set_0 | apply IsS74.set_1) | exact HI0.out), by repeat (first | (with_reducible first | exact HB.out | apply below_alloc | apply pw_below_drewN | apply below_drew1 | refine below_set ?_ (IsS74.ge HI0.out)) | exact HB.out), by repeat (first | (with_reducible first | exact HK.out | apply KeepBut.set_ | apply keep_drewN | apply keep_drew | apply keep_alloc) | exact HK.out)⟩
    · rw [if_neg c9] at H
      have c9b0 : decide (a1 < 1) = false := decide_eq_false c9
      clear c9
      by_cases c14 : t197 ≥ (IntKind.u64.wrap (a1))
      · rw [if_pos c14] at H
        have c14b0 : decide ((IntKind.u64.wrap (a1)) ≤ t197) = true := decide_eq_true c14
        clear c14
        replace H := Option.bind_eq_some_iff.mp H
        obtain ⟨⟨t204, t205⟩, A150, H⟩ := H
        replace H : (some (0, t204, t205)) = some (r1, r2, r3) := H
        have A15 := Aside0.mk A150
        clear A150
        simp only [Option.some.injEq, Prod.mk.injEq] at H
        obtain ⟨rfl, rfl, rfl⟩ := H
        go_enter Try.func50, Try.ntmps50
        go_wp2_with (first | ((with_reducible refine gate_callee (f := 71) rfl ?_); refine goesL_ (some 7) rfl rfl Try.func71 (by kernel_rfl) rfl #[.pointer (some ⟨g, 0, none⟩)] rfl (by (try simp only [List.map_toArray, List.map_cons, List.map_nil]); first | done | rfl | (simp only [List.length_drop, List.length_take]; rfl)) ?_; (with_reducible refine (firkinref01_S_Num.calls g s0_0 s0_1 t197 t198 false w0 _ ?side1 ?side2 A3.out).mono ?_); (case side1 => repeat (first | (with_reducible first | exact HI0.out | apply IsS74.alloc | apply IsS74.drewN | apply IsS74.drew | apply IsS74.set_0 | apply IsS74.set_1) | exact HI0.out)); (case side2 => repeat (first | (with_reducible first | exact HB.out | apply below_alloc | apply pw_below_drewN | apply below_drew1 | refine below_set ?_ (IsS74.ge HI0.out)) | exact HB.out)); rintro e w16 ⟨rfl, hi, hb, hk⟩; refine ⟨_, rfl, ?_⟩; have n0_ := Aside0.mk (KeepBut.trans (by repeat (first | (with_reducible first | exact HK.out | apply KeepBut.set_ | apply keep_drewN | apply keep_drew | apply keep_alloc) | exact HK.out)) hk (.inl rfl)); have n1_ := Aside0.mk (hb); have n2_ := Aside0.mk (hi); clear HK; clear HB; clear HI0; have HK := n0_; have HB := n1_; have HI0 := n2_; clear n0_ n1_ n2_; (try clear hb); (try clear hb2); (try clear hk); (try clear hi); obtain ⟨ASz17_0, cSz17_0, HGz17, hgz17, ⟨HSz17_0, _⟩⟩ := HI0.out; have hcz17_0 := cellS74_0 HGz17; have hcz17_1 := cellS74_1 HGz17; have hfz17_0 := blk_frozen HGz17 0; have hfz17_1 := blk_frozen HGz17 1; clear HGz17 hgz17) | ((with_reducible refine gate_callee (f := 72) rfl ?_); refine goesL_ (some 23) rfl rfl Try.func72 (by kernel_rfl) rfl #[.pointer (some ⟨g, 0, none⟩)] rfl (by (try simp only [List.map_toArray, List.map_cons, List.map_nil]); first | done | rfl | (simp only [List.length_drop, List.length_take]; rfl)) ?_; (with_reducible refine (firkinref01_S_Fail.calls g t198 false t204 t205 w0 _ ?side1 ?side2 A15.out).mono ?_); (case side1 => repeat (first | (with_reducible first | exact HI0.out | apply IsS74.alloc | apply IsS74.drewN | apply IsS74.drew | apply IsS74.set_0 | apply IsS74.set_1) | exact HI0.out)); (case side2 => repeat (first | (with_reducible first | exact HB.out | apply below_alloc | apply pw_below_drewN | apply below_drew1 | refine below_set ?_ (IsS74.ge HI0.out)) | exact HB.out)); rintro e w18 ⟨rfl, hi, hb, hk⟩; refine ⟨_, rfl, ?_⟩; have n0_ := Aside0.mk (KeepBut.trans (by repeat (first | (with_reducible first | exact HK.out | apply KeepBut.set_ | apply keep_drewN | apply keep_drew | apply keep_alloc) | exact HK.out)) hk (.inl rfl)); have n1_ := Aside0.mk (hb); have n2_ := Aside0.mk (hi); clear HK; clear HB; clear HI0; have HK := n0_; have HB := n1_; have HI0 := n2_; clear n0_ n1_ n2_; (try clear hb); (try clear hb2); (try clear hk); (try clear hi)))
        go_ret
        exact ⟨by first | rfl | (simp [errW_none, errW_some] <;> rfl) | (simp [*, errW_none, errW_some] <;> rfl), by repeat (first | (with_reducible first | exact HI0.out | apply IsS74.alloc | apply IsS74.drewN | apply IsS74.drew | apply IsS74.set_0 | apply IsS74.set_1) | exact HI0.out), by repeat (first | (with_reducible first | exact HB.out | apply below_alloc | apply pw_below_drewN | apply below_drew1 | refine below_set ?_ (IsS74.ge HI0.out)) | exact HB.out), by repeat (first | (with_reducible first | exact HK.out | apply KeepBut.set_ | apply keep_drewN | apply keep_drew | apply keep_alloc) | exact HK.out)⟩
      · rw [if_neg c14] at H
        have c14b0 : decide ((IntKind.u64.wrap (a1)) ≤ t197) = false := decide_eq_false c14
        clear c14
        simp only [Option.some.injEq, Prod.mk.injEq] at H
        obtain ⟨rfl, rfl, rfl⟩ := H
        go_enter Try.func50, Try.ntmps50
        go_wp2_with (first | ((with_reducible refine gate_callee (f := 71) rfl ?_); refine goesL_ (some 7) rfl rfl Try.func71 (by kernel_rfl) rfl #[.pointer (some ⟨g, 0, none⟩)] rfl (by (try simp only [List.map_toArray, List.map_cons, List.map_nil]); first | done | rfl | (simp only [List.length_drop, List.length_take]; rfl)) ?_; (with_reducible refine (firkinref01_S_Num.calls g s0_0 s0_1 t197 t198 false w0 _ ?side1 ?side2 A3.out).mono ?_); (case side1 => repeat (first | (with_reducible first | exact HI0.out | apply IsS74.alloc | apply IsS74.drewN | apply IsS74.drew | apply IsS74.set_0 | apply IsS74.set_1) | exact HI0.out)); (case side2 => repeat (first | (with_reducible first | exact HB.out | apply below_alloc | apply pw_below_drewN | apply below_drew1 | refine below_set ?_ (IsS74.ge HI0.out)) | exact HB.out)); rintro e w19 ⟨rfl, hi, hb, hk⟩; refine ⟨_, rfl, ?_⟩; have n0_ := Aside0.mk (KeepBut.trans (by repeat (first | (with_reducible first | exact HK.out | apply KeepBut.set_ | apply keep_drewN | apply keep_drew | apply keep_alloc) | exact HK.out)) hk (.inl rfl)); have n1_ := Aside0.mk (hb); have n2_ := Aside0.mk (hi); clear HK; clear HB; clear HI0; have HK := n0_; have HB := n1_; have HI0 := n2_; clear n0_ n1_ n2_; (try clear hb); (try clear hb2); (try clear hk); (try clear hi); obtain ⟨ASz20_0, cSz20_0, HGz20, hgz20, ⟨HSz20_0, _⟩⟩ := HI0.out; have hcz20_0 := cellS74_0 HGz20; have hcz20_1 := cellS74_1 HGz20; have hfz20_0 := blk_frozen HGz20 0; have hfz20_1 := blk_frozen HGz20 1; clear HGz20 hgz20))
        go_ret
        exact ⟨by first | rfl | (simp [errW_none, errW_some] <;> rfl) | (simp [*, errW_none, errW_some] <;> rfl), by repeat (first | (with_reducible first | exact HI0.out | apply IsS74.alloc | apply IsS74.drewN | apply IsS74.drew | apply IsS74.set_0 | apply IsS74.set_1) | exact HI0.out), by repeat (first | (with_reducible first | exact HB.out | apply below_alloc | apply pw_below_drewN | apply below_drew1 | refine below_set ?_ (IsS74.ge HI0.out)) | exact HB.out), by repeat (first | (with_reducible first | exact HK.out | apply KeepBut.set_ | apply keep_drewN | apply keep_drew | apply keep_alloc) | exact HK.out)⟩

end Go.Proofs.Ythcmokglgepgjaa.X
/- The contract of (*firkinref01.S).Take: the first bytes, in memory of their own; or it failed. -/
namespace Go.Proofs.Ythcmokglgepgjaa.X
open Go.RowKit Go.Proofs.YthcmokglgepgjaaW.PrintWords Go.Proofs.YthcmokglgepgjaaW.PrintLast Go.Proofs.YthcmokglgepgjaaW.PrintMore
set_option linter.unusedVariables false
set_option linter.unusedSimpArgs false
def rtakeS (l : List Int) (bad : Bool) (n : Int) : List Int × List Int × Bool :=
  if bad = true ∨ n < 0 ∨ (l.length : Int) < n then ([], [], true) else (l.take n.toNat, l.drop n.toNat, false)
def firkinref01_S_Take.f (l : List Int) (bad : Bool) (n : Int) : Option (List Int × List Int × Bool) := if l.length < 1000000000000 then some (rtakeS l bad n) else none
set_option maxHeartbeats 8000000 in
set_option maxRecDepth 100000 in
theorem firkinref01_S_Take.calls (g : Nat) (s0_0 : List Int) (s0_1 : Bool) (a1 : Int) (r1 : List Int) (r2 : List Int) (r3 : Bool) (w0 w : World) (hI : IsS74 w0 w g s0_0 s0_1) (hB : Below w0.heap.size w0 w) (h : firkinref01_S_Take.f s0_0 s0_1 a1 = some (r1, r2, r3)) :
    Calls Try.prog 51 #[.pointer (some ⟨g, 0, none⟩), .int .i64 a1] w fun e w' => ∃ v0_ : Value, e = .returned v0_ ∧ Kd.R (Kd.int .u8) 5 w' w.heap.size (fun _ => True) v0_ r1 ∧ IsS74 w0 w' g r2 r3 ∧ Below w0.heap.size w0 w' ∧ KeepBut w w' g none := by
  unfold firkinref01_S_Take.f at h
  by_cases hf : s0_0.length < 1000000000000
  case neg => rw [if_neg hf] at h; cases h
  rw [if_pos hf] at h
  have h := Option.some.inj h
  unfold rtakeS at h
  have HF := Aside0.mk hf
  have HI := Aside0.mk hI
  obtain ⟨A1, c1, hb1, hg1, hr1, hc1⟩ := hI
  have h0 : w.cell? ⟨g, 0, none⟩ = some (.slice A1 s0_0.length c1) := (blk_cell hb1 0).trans rfl
  have h1 : w.cell? ⟨g, 1, none⟩ = some (.bool s0_1) := (blk_cell hb1 1).trans rfl
  have HB1 := Aside0.mk hb1
  clear hf hb1
  have hu := Try.underlying74
  by_cases ht : s0_1 = true ∨ a1 < 0 ∨ (s0_0.length : Int) < a1
  · rw [if_pos ht] at h
    simp only [Prod.mk.injEq] at h
    obtain ⟨rfl, rfl, rfl⟩ := h
    obtain ⟨bn, hbn⟩ : ∃ b_ : Bool, decide (a1 < 0) = b_ := ⟨_, rfl⟩
    obtain ⟨bl, hbl⟩ : ∃ b_ : Bool, decide ((s0_0.length : Int) < a1) = b_ := ⟨_, rfl⟩
    have hx : (s0_1 || bn || bl) = true := by rw [← hbn, ← hbl]; simp only [Bool.or_eq_true, decide_eq_true_eq]; exact (or_assoc).mpr ht
    clear ht
    cases s0_1 <;> cases bn <;> cases bl <;> first
      | (exact absurd hx (by decide))
      | (clear hx
         go_enter Try.func51, Try.ntmps51
         go_wp2_with fail
         refine (firkinref01_S_Fail.calls g s0_0 _ [] true w0 _ HI.out hB rfl).mono ?_
         rintro e w2 ⟨rfl, hI2, hB2, hK2⟩
         go_wp2_with fail
         go_ret
         exact ⟨_, rfl, Kd.R_nil _ _ _ _ _, hI2, hB2, hK2⟩)
  · rw [if_neg ht] at h
    simp only [Prod.mk.injEq] at h
    obtain ⟨rfl, rfl, rfl⟩ := h
    have hbad : s0_1 = false := by cases s0_1 <;> simp_all
    subst hbad
    obtain ⟨m, rfl⟩ : ∃ m : Nat, a1 = (m : Int) := ⟨a1.toNat, by omega⟩
    rw [Int.toNat_natCast]
    have hm : m ≤ s0_0.length := by omega
    have hbn : decide ((m : Int) < 0) = false := decide_eq_false (by omega)
    have hbl : decide ((s0_0.length : Int) < (m : Int)) = false := decide_eq_false (by omega)
    have hbl2 : decide (s0_0.length < m) = false := decide_eq_false (by omega)
    have hlm : (s0_0.take m).length = m := by rw [List.length_take]; omega
    have HCT : Aside0 (Kd.C (Kd.int .u8) w A1 m (s0_0.take m)) := ⟨by have := Kd.C_take (Kd.C_below hr1 hB) hm; rwa [hlm] at this⟩
    have HLM := Aside0.mk hlm
    clear ht hlm
    obtain ⟨i5, hi5, hsz5⟩ : ∃ i, Try.prog.info? 5 = some i ∧ i.size = (Kd.int .u8).sz := by
      obtain ⟨i, hi, hz⟩ := Option.map_eq_some_iff.1 info5
      simp only [Prod.mk.injEq] at hz
      exact ⟨i, hi, hz.2.1⟩
    obtain ⟨A', hcut, hCd, hld, hcd⟩ := Mem.cut_from' (P := Try.prog) (d := Kd.int .u8) 22 5 .i64 Try.underlying22 hi5 hsz5 (m := m) hr1 hm hc1
    have HD := Aside0.mk hCd
    have HLD := Aside0.mk hld
    clear hCd hld hi5
    go_enter Try.func51, Try.ntmps51
    go_wp2_with (first | ((with_reducible refine gate_dst (N := 25) rfl ?_); refine Kd.R_lit (Kd.int .u8) _ 5 ?hg (N := 25) ?hd (xs := ([] : List Int)) (inner := []) (ok := fun _ => True) (okp := fun _ => True) ?hr ?hp (fun _ hk => hk) trivial (Below.refl _ _) (Nat.le_refl _) (by simp) ?_; (case hd => rfl); (case hg => rfl); (case hr => first | (go_simp; done) | (go_simp; rfl)); (case hp => exact (Reps.none _ _)); intro v205 w2 ho3 hb hg_ hnew_; clear hg_ hnew_; have HO := Aside0.mk ho3; have HB := Aside0.mk hb; have h0b : w2.cell? ⟨g, 0, none⟩ = some (.slice A1 s0_0.length c1) := (blk_cell (blk_below HB1.out hb) 0).trans rfl; clear ho3 hb) | ((with_reducible refine gate_builtin (b := .append) (xs := #[.tmp 25, .tmp 31]) rfl ?_); at_builtin; refine Kd.R_append_rows (Kd.int .u8) (w0 := w) w.heap.size rfl (.tmp 25) (.tmp 31) 22 5 (.int .u8 0) 1 rfl Try.underlying22 info5 rfl (by decide) (by omega) v205 [] (s0_0.take m) _ _ _ (fun _ => True) (fun _ => False) rfl rfl HO.out (Kd.C_below HCT.out HB.out) (fun _ _ h => h) (fun _ h => h.elim) (fun _ _ => trivial) HB.out (below_size HB.out) (by have := HF.out; rw [List.length_nil]; omega) ?_; intro v4 w4 ho hb hg hat; have HO4 := Aside0.mk ho; have HB4 := Aside0.mk hb; have h0c : w4.cell? ⟨g, 0, none⟩ = some (.slice A1 s0_0.length c1) := (blk_cell (blk_below HB1.out hb) 0).trans rfl; have f0c := blk_frozen (blk_below HB1.out hb) 0; clear HO HB ho hb hg hat))
    go_ret
    have h2 := blk_set (blk_below HB1.out HB4.out) 0 (.slice A' (s0_0.length - m) (c1 - m))
    have HG : Aside0 (g < w.heap.size) := ⟨blk_lt HB1.out⟩
    refine ⟨_, rfl, ?_, ⟨A', c1 - m, ?_, hg1, ?_, ?_⟩, below_set (below_step hB HB4.out) hg1, KeepBut.set_ (KeepBut.of_below HB4.out g none) 0 _⟩
    · have h5 := Kd.R_far (p := ⟨g, 0, none⟩) (Kd.R_bound HO4.out) (fun k hk => by have := HG.out; have := hk.2.1; show k ≠ g; omega) (.slice A' (s0_0.length - m) (c1 - m))
      rw [List.nil_append] at h5
      exact Kd.R_mono h5 (fun _ _ => trivial)
    · rw [HLD.out]; simpa using h2
    · rw [HLD.out]; exact HD.out
    · rw [HLD.out]; exact hcd
end Go.Proofs.Ythcmokglgepgjaa.X
/- The contract of firkinref03.Get: the bytes of the frame that bytes begin with, how many bytes that has, and an error's number. -/
namespace Go.Proofs.Ythcmokglgepgjaa.X
open Go.RowKit Go.Proofs.YthcmokglgepgjaaW.PrintWords Go.Proofs.YthcmokglgepgjaaW.PrintLast Go.Proofs.YthcmokglgepgjaaW.PrintMore
set_option linter.unusedVariables false
set_option linter.unusedSimpArgs false
/-- The number that four bytes are, the lowest first. -/
def four4 : List Int → Int
  | [a, b, c, d] => (a + b * 256 + c * 65536 + d * 16777216)
  | _ => 0
def IsByte (x : Int) : Prop := 0 ≤ x ∧ x < 256
instance (x : Int) : Decidable (IsByte x) := by unfold IsByte; infer_instance
def firkinref03_Get.f (k : Nat) (l0 : List Int) : Option (List Int × Int × Int) := (firkinref01_S_Below.f l0 false 1048577).bind fun a => (firkinref01_S_Take.f a.2.1 a.2.2 4).bind fun s => (firkinref01_S_Take.f s.2.1 s.2.2 a.1).bind fun x => if x.2.2 = true then some ([], 0, 2) else if s.1.length = 4 ∧ ∀ z ∈ s.1, IsByte z then (firkinref02_Of.f k x.1).bind fun t => if four4 s.1 = t then some (x.1, (l0.length : Int) - (x.2.1.length : Int), 0) else some ([], 0, 13) else none
theorem firkinref03_Get.mono : ∀ a0 k, LeO (firkinref03_Get.f k a0) (firkinref03_Get.f (k + 1) a0) := by
  intro a0 k
  unfold firkinref03_Get.f
  repeat' first
      | (with_reducible exact firkinref02_Of.mono _ _)
      | (with_reducible exact LeO.refl _)
      | (with_reducible exact LeO.none _)
      | (with_reducible refine LeO.ite ?_ ?_)
      | (with_reducible refine LeO.bind ?_ (fun _ => ?_))
      | exact firkinref02_Of.mono _ _
set_option maxHeartbeats 8000000 in
set_option maxRecDepth 100000 in
theorem firkinref03_Get.calls (k : Nat) (A0 : Option Addr) (c0 : Nat) (l0 : List Int) (r1 : List Int) (r2 : Int) (r3 : Int) (w : World) (hr0 : Kd.C (Kd.int .u8) w A0 l0.length l0) (hc0 : l0.length ≤ c0) (h : firkinref03_Get.f k l0 = some (r1, r2, r3)) :
    Calls Try.prog 19 #[.slice A0 l0.length c0] w fun e w' => ∃ v0_ : Value, e = .returned (.tuple #[v0_, .int .i64 r2, .int .i64 r3]) ∧ Kd.R (Kd.int .u8) 5 w' w.heap.size (fun _ => True) v0_ r1 ∧ Below w.heap.size w w' := by
  unfold firkinref03_Get.f at h
  obtain ⟨⟨n, l1, b1⟩, e1, h⟩ := Option.bind_eq_some_iff.mp h
  obtain ⟨⟨s, l2, b2⟩, e2, h⟩ := Option.bind_eq_some_iff.mp h
  obtain ⟨⟨x, l3, b3⟩, e3, h⟩ := Option.bind_eq_some_iff.mp h
  have HH := Aside0.mk h
  have E1 := Aside0.mk e1
  have E2 := Aside0.mk e2
  have E3 := Aside0.mk e3
  have HR0 := Aside0.mk hr0
  have hm0 := Kd.C_max hr0
  have hu := Try.underlying74
  clear h e1 e2 e3 hr0
  go_enter Try.func19, Try.ntmps19
  go_wp2_with fail
  have s1 := IsS74.new w w A0 c0 l0 false (Below.refl _ _) ⟨HR0.out, hc0⟩
  have B1 := below_alloc (Below.refl w.heap.size w) (.cells #[.slice A0 l0.length c0, .bool false] 74)
  refine (firkinref01_S_Below.calls w.heap.size l0 false 1048577 n l1 b1 w _ s1 B1 E1.out).mono ?_
  rintro e w2 ⟨rfl, s2, B2, K2⟩
  clear s1 B1 K2
  go_wp2_with fail
  refine (firkinref01_S_Take.calls w.heap.size l1 b1 4 s l2 b2 w _ s2 B2 E2.out).mono ?_
  rintro e w3 ⟨v3, rfl, R3, s3, B3, K3⟩
  have hg2 := IsS74.lt s2
  have R3' := Kd.R_bound R3
  clear s2 K3
  go_wp2_with fail
  refine (firkinref01_S_Take.calls w.heap.size l2 b2 n x l3 b3 w _ s3 B3 E3.out).mono ?_
  rintro e w4 ⟨v4, rfl, R4, s4, B4, K4⟩
  have hg3 := IsS74.lt s3
  have R3'' := Kd.R_keep R3' K4 (fun k hk => by have := hk.2.1; omega)
  have HR4 := Aside0.mk (Kd.R_lower (Kd.R_mono (ok' := fun _ => True) (Kd.R_bound R4) (fun k hk => trivial)) (below_size B3))
  have HB4 := Aside0.mk B4
  obtain ⟨A3, c3, rfl, hc3, C3⟩ := Kd.R_reads R3''
  have HC3 := Aside0.mk C3
  obtain ⟨A5, c5, hb5, hg5, hr5, hc5⟩ := s4
  have h0 : w4.cell? ⟨w.heap.size, 0, none⟩ = some (.slice A5 l3.length c5) := (blk_cell hb5 0).trans rfl
  have h1 : w4.cell? ⟨w.heap.size, 1, none⟩ = some (.bool b3) := (blk_cell hb5 1).trans rfl
  have hm3 := Kd.C_max hr5
  clear s3 B3 K4 R3 R3' R3'' R4 B2 hg2 hg3 C3 B4 hb5 hr5
  cases b3 with
  | true =>
    have h := HH.out
    simp only [if_true, Option.some.injEq, Prod.mk.injEq] at h
    obtain ⟨rfl, rfl, rfl⟩ := h
    go_wp2_with fail
    go_ret3
    exact ⟨_, rfl, Kd.R_nil _ _ _ _ _, HB4.out⟩
  | false =>
    have h := HH.out
    rw [if_neg (by decide)] at h
    by_cases hs : s.length = 4 ∧ ∀ z ∈ s, IsByte z
    case neg => rw [if_neg hs] at h; cases h
    rw [if_pos hs] at h
    obtain ⟨a, b, c, d, rfl⟩ : ∃ a b c d, s = [a, b, c, d] := by
      match s, hs.1 with
      | [a, b, c, d], _ => exact ⟨a, b, c, d, rfl⟩
    obtain ⟨ha0, ha1⟩ := hs.2 a (by simp)
    obtain ⟨hb0, hb1⟩ := hs.2 b (by simp)
    obtain ⟨hcc0, hcc1⟩ := hs.2 c (by simp)
    obtain ⟨hd0, hd1⟩ := hs.2 d (by simp)
    obtain ⟨t, e5, h⟩ := Option.bind_eq_some_iff.mp h
    have E5 := Aside0.mk e5
    have HH2 := Aside0.mk h
    obtain ⟨ad, rfl, hx0⟩ := Kd.at_int HC3.out 0 (by omega) (by simp)
    obtain ⟨ad', e', hx1⟩ := Kd.at_int HC3.out 1 (by omega) (by simp)
    cases e'
    obtain ⟨ad', e', hx2⟩ := Kd.at_int HC3.out 2 (by omega) (by simp)
    cases e'
    obtain ⟨ad', e', hx3⟩ := Kd.at_int HC3.out 3 (by omega) (by simp)
    cases e'
    have hx0 : w4.cell? ad = some (.int .u8 a) := by have h9 : w4.cell? (ad.add 0) = some (.int .u8 a) := hx0; simpa [Addr.add] using h9
    have hx1 : w4.cell? ⟨ad.block, ad.off + 1, none⟩ = some (.int .u8 b) := hx1
    have hx2 : w4.cell? ⟨ad.block, ad.off + 2, none⟩ = some (.int .u8 c) := hx2
    have hx3 : w4.cell? ⟨ad.block, ad.off + 3, none⟩ = some (.int .u8 d) := hx3
    clear h e5 hs HH
    go_upto_region 7 with (fail)
    go_cut [9] (fun v9 wx => v9 = .int .u32 (four4 [a, b, c, d]) ∧ ∃ nd, wx = w4.drewN nd)
    case first =>
      go_quiet (fail)
      go_wp2_with fail
      go_meet
      case rel =>
        refine ⟨congrArg (Value.int .u32) ?_, _, rfl⟩
        show _ = a + b * 256 + c * 65536 + d * 16777216
        omega
    case rest =>
      obtain ⟨rfl, nd, rfl⟩ := hcut
      obtain ⟨A4, c4, rfl, hc4, C4⟩ := Kd.R_reads HR4.out
      have C4' := Kd.C_drewN C4 nd
      have g0 : (w4.drewN nd).cell? ⟨w.heap.size, 0, none⟩ = some (.slice A5 l3.length c5) := h0
      generalize hf4 : four4 [a, b, c, d] = f at *
      have HF4 := Aside0.mk hf4
      clear hf4 hx0 hx1 hx2 hx3 C4 h0 h1
      go_wp2_with fail
      refine (firkinref02_Of.calls k A4 c4 x t _ C4' hc4 E5.out).mono ?_
      rintro e w6 ⟨rfl, ⟨nd2, rfl⟩⟩
      have g1 : (w4.drewN (nd + nd2)).cell? ⟨w.heap.size, 0, none⟩ = some (.slice A5 l3.length c5) := g0
      have HR6 : Aside0 (∀ q, Kd.R (Kd.int .u8) 5 (w4.drewN q) w.heap.size (fun _ => True) (.slice A4 x.length c4) x) := ⟨fun q => Kd.R_drewN HR4.out q⟩
      have HB6 : Aside0 (∀ q, Below w.heap.size w (w4.drewN q)) := ⟨fun q => pw_below_drewN HB4.out q⟩
      clear C4' g0
      by_cases he : f = t
      · have h := HH2.out
        rw [if_pos he] at h
        simp only [Option.some.injEq, Prod.mk.injEq] at h
        obtain ⟨rfl, rfl, rfl⟩ := h
        have hb1 : (f == t) = true := beq_iff_eq.mpr he
        have hb2 : (f != t) = false := by rw [he]; simp
        clear he
        go_upto_region 10 with (fail)
        have HR7 := Aside0.mk (HR6.out (nd + nd2))
        have HB7 := Aside0.mk (HB6.out (nd + nd2))
        clear HR6 HB6
        generalize w4.drewN (nd + nd2) = w7 at g1 HR7 HB7 ⊢
        go_quiet (fail)
        go_wp2_with fail
        go_ret3
        exact ⟨_, rfl, Kd.R_drewN HR7.out _, pw_below_drewN HB7.out _⟩
      · have h := HH2.out
        rw [if_neg he] at h
        simp only [Option.some.injEq, Prod.mk.injEq] at h
        obtain ⟨rfl, rfl, rfl⟩ := h
        have hb1 : (f == t) = false := beq_eq_false_iff_ne.mpr he
        have hb2 : (f != t) = true := by rw [bne_iff_ne]; exact he
        clear he
        go_wp2_with fail
        go_ret3
        exact ⟨_, rfl, Kd.R_nil _ _ _ _ _, HB6.out _⟩
end Go.Proofs.Ythcmokglgepgjaa.X
/- The contract of firkinref14.Get: which of n rows are gone, and an error's number. -/
namespace Go.Proofs.Ythcmokglgepgjaa.X
open Go.RowKit Go.Proofs.YthcmokglgepgjaaW.PrintWords Go.Proofs.YthcmokglgepgjaaW.PrintLast Go.Proofs.YthcmokglgepgjaaW.PrintMore
set_option linter.unusedVariables false
set_option linter.unusedSimpArgs false
def firkinref14_Get.f (k : Nat) (l0 : List Int) (a1 : Int) : Option (List Bool × Int) := (firkinref03_Get.f k l0).bind fun x => if x.2.2 ≠ 0 then some ([], x.2.2) else (firkinref01_S_Below.f x.1 false 201).bind fun m => (firkinref04_Unpack.f k m.2.1 m.1).bind fun u => if x.2.1 ≠ (l0.length : Int) ∨ m.2.2 = true ∨ m.1 ≠ a1 ∨ u.2 = false then some ([], 2) else some (u.1, 0)
theorem firkinref14_Get.mono : ∀ a0 a1 k, LeO (firkinref14_Get.f k a0 a1) (firkinref14_Get.f (k + 1) a0 a1) := by
  intro a0 a1 k
  unfold firkinref14_Get.f
  repeat' first
      | (with_reducible exact firkinref03_Get.mono _ _)
      | (with_reducible exact firkinref04_Unpack.mono _ _ _)
      | (with_reducible exact LeO.refl _)
      | (with_reducible exact LeO.none _)
      | (with_reducible refine LeO.ite ?_ ?_)
      | (with_reducible refine LeO.bind ?_ (fun _ => ?_))
      | exact firkinref04_Unpack.mono _ _ _
set_option maxHeartbeats 8000000 in
set_option maxRecDepth 100000 in
theorem firkinref14_Get.calls (k : Nat) (A0 : Option Addr) (c0 : Nat) (l0 : List Int) (a1 : Int) (r1 : List Bool) (r2 : Int) (w : World) (hr0 : Kd.C (Kd.int .u8) w A0 l0.length l0) (hc0 : l0.length ≤ c0) (h : firkinref14_Get.f k l0 a1 = some (r1, r2)) :
    Calls Try.prog 29 #[.slice A0 l0.length c0, .int .i64 a1] w fun e w' => ∃ v0_ : Value, e = .returned (.tuple #[v0_, .int .i64 r2]) ∧ Kd.R Kd.bool 4 w' w.heap.size (fun _ => True) v0_ r1 ∧ Below w.heap.size w w' := by
  unfold firkinref14_Get.f at h
  obtain ⟨⟨x, sz, er⟩, e1, h⟩ := Option.bind_eq_some_iff.mp h
  have E1 := Aside0.mk e1
  have HR0 := Aside0.mk hr0
  have hm0 := Kd.C_max hr0
  have hu := Try.underlying74
  clear e1 hr0
  by_cases her : er ≠ 0
  · rw [if_pos her] at h
    simp only [Option.some.injEq, Prod.mk.injEq] at h
    obtain ⟨rfl, rfl⟩ := h
    have hb1 : (er != 0) = true := by rw [bne_iff_ne]; exact her
    clear her
    go_enter Try.func29, Try.ntmps29
    go_wp2_with fail
    refine (firkinref03_Get.calls k A0 c0 l0 x sz er w HR0.out hc0 E1.out).mono ?_
    rintro e w1 ⟨v1, rfl, R1, b1⟩
    go_wp2_with fail
    go_ret2
    exact ⟨_, rfl, Kd.R_nil _ _ _ _ _, b1⟩
  rw [if_neg her] at h
  have her : er = 0 := by omega
  subst her
  obtain ⟨⟨m, l1, q1⟩, e2, h⟩ := Option.bind_eq_some_iff.mp h
  obtain ⟨⟨u, ok⟩, e5, h⟩ := Option.bind_eq_some_iff.mp h
  have E2 := Aside0.mk e2
  have E5 := Aside0.mk e5
  have HH := Aside0.mk h
  clear e2 e5 h
  go_enter Try.func29, Try.ntmps29
  go_wp2_with fail
  refine (firkinref03_Get.calls k A0 c0 l0 x sz 0 w HR0.out hc0 E1.out).mono ?_
  rintro e w1 ⟨v1, rfl, R1, b1⟩
  obtain ⟨A1, c1, rfl, hc1, C1⟩ := Kd.R_reads R1
  have HS2 := Aside0.mk (IsS74.new w1 w1 A1 c1 x false (Below.refl _ _) ⟨C1, hc1⟩)
  have HB2 := Aside0.mk (below_alloc (Below.refl w1.heap.size w1) (.cells #[.slice A1 x.length c1, .bool false] 74))
  have HB1 := Aside0.mk b1
  clear R1 C1 b1
  go_wp2_with fail
  refine (firkinref01_S_Below.calls w1.heap.size x false 201 m l1 q1 w1 _ HS2.out HB2.out E2.out).mono ?_
  rintro e w3 ⟨rfl, s3, B3, _⟩
  obtain ⟨A5, c5, hb5, hg5, hr5, hc5⟩ := s3
  have h0 : w3.cell? ⟨w1.heap.size, 0, none⟩ = some (.slice A5 l1.length c5) := (blk_cell hb5 0).trans rfl
  have HC5 := Aside0.mk (Kd.C_below hr5 B3)
  have HBK := Aside0.mk hb5
  have HB5 := Aside0.mk (below_step HB1.out B3)
  have hm5 := Kd.C_max hr5
  clear HS2 HB2 hb5 hr5 B3 HB1
  go_wp2_with fail
  refine (firkinref04_Unpack.calls k A5 c5 l1 m u ok _ HC5.out hc5 E5.out).mono ?_
  rintro e w6 ⟨v6, rfl, R6, b6⟩
  have bk6 := blk_below HBK.out b6
  have h1 : w6.cell? ⟨w1.heap.size, 1, none⟩ = some (.bool q1) := (blk_cell bk6 1).trans rfl
  have HB6 := Aside0.mk (below_step HB5.out b6)
  have HR6 := Aside0.mk (Kd.R_lower R6 (below_size HB5.out))
  clear R6 b6 HC5 HBK bk6 h0
  obtain ⟨b3, hb3⟩ : ∃ b_ : Bool, (m != a1) = b_ := ⟨_, rfl⟩
  obtain ⟨b4, hb4⟩ : ∃ b_ : Bool, (sz != (l0.length : Int)) = b_ := ⟨_, rfl⟩
  have HX : Aside0 ((sz ≠ (l0.length : Int) ∨ q1 = true ∨ m ≠ a1 ∨ ok = false) ↔ (q1 || (!ok || (b3 || b4))) = true) := ⟨by rw [← hb3, ← hb4]; cases q1 <;> cases ok <;> simp <;> (constructor <;> (intro h9; first | exact h9.symm | (rcases h9 with h9 | h9; exact Or.inr h9; exact Or.inl h9)))⟩
  have h := HH.out
  clear HH
  cases q1 <;> cases ok <;> cases b3 <;> cases b4 <;> first
    | (rw [if_neg (fun h9 => by have := HX.out.mp h9; revert this; decide)] at h
       simp only [Option.some.injEq, Prod.mk.injEq] at h
       obtain ⟨rfl, rfl⟩ := h
       clear HX
       go_wp2_with fail
       go_ret2
       exact ⟨_, rfl, HR6.out, HB6.out⟩)
    | (rw [if_pos (HX.out.mpr (by decide))] at h
       simp only [Option.some.injEq, Prod.mk.injEq] at h
       obtain ⟨rfl, rfl⟩ := h
       clear HX
       go_wp2_with fail
       go_ret2
       exact ⟨_, rfl, Kd.R_nil _ _ _ _ _, HB6.out⟩)
end Go.Proofs.Ythcmokglgepgjaa.X
-- Printed for this claim by a program of this session (wip/xprint.py) over the kit's printer; Lean checks it.
namespace Go.Proofs.Ythcmokglgepgjaa.X
open Go.RowKit Go.Proofs.YthcmokglgepgjaaW.PrintWords Go.Proofs.YthcmokglgepgjaaW.PrintLast Go.Proofs.YthcmokglgepgjaaW.PrintMore
attribute [local go_sem] max2_int min2_int max_two min_two max_three min_three max_four min_four   -- for this text's walks alone
set_option linter.unusedVariables false
set_option linter.unusedSimpArgs false

attribute [local go_sem high] eqA94
/-! ### firkinlaw14_DeadGets: function 8 -/
def firkinlaw14_DeadGets.f (k : Nat) (l0 : List Int) (a1 : Int) : Option (Bool) := if (l0.length : Int) > 200 then ((firkinlaw14_live.f k).bind fun t334 => (some t334)) else ((dead_Get.f k l0 a1).bind fun bt335 => ((firkinref14_Get.f k l0 a1).bind fun bt339 => ((firkinlaw14_num.f bt335.2).bind fun t343 => (if t343 = bt339.2 then ((firkinref04_Same.f k bt335.1 bt339.1).bind fun t344 => (if t344 = true then ((firkinlaw14_live.f k).bind fun t345 => (some t345)) else (some false))) else (some false)))))
theorem firkinlaw14_DeadGets.mono : ∀ a0 a1 k, LeO (firkinlaw14_DeadGets.f k a0 a1) (firkinlaw14_DeadGets.f (k + 1) a0 a1) := by
  intro a0 a1 k
  unfold firkinlaw14_DeadGets.f
  repeat' first
      | (with_reducible exact dead_Get.mono _ _ _)
      | (with_reducible exact firkinlaw14_live.mono _)
      | (with_reducible exact firkinref04_Same.mono _ _ _)
      | (with_reducible exact firkinref14_Get.mono _ _ _)
      | (with_reducible exact LeO.refl _)
      | (with_reducible exact LeO.none _)
      | (with_reducible refine LeO.ite ?_ ?_)
      | (with_reducible refine LeO.bind ?_ (fun _ => ?_))
      | exact dead_Get.mono _ _ _
      | exact firkinlaw14_live.mono _
      | exact firkinref04_Same.mono _ _ _
      | exact firkinref14_Get.mono _ _ _
      | exact LeO.none _
      | refine LeO.ite ?_ ?_
      | refine LeO.bind ?_ (fun _ => ?_)
set_option maxHeartbeats 8000000 in
set_option maxRecDepth 100000 in
theorem firkinlaw14_DeadGets.calls (k : Nat) (A0 : Option Addr) (c0 : Nat) (l0 : List Int) (a1 : Int) (r : Bool) (w : World) (hr0 : Kd.C (Kd.int .u8) w A0 l0.length l0) (hc0 : l0.length ≤ c0) (h : firkinlaw14_DeadGets.f k l0 a1 = some r) :
    Calls Try.prog 8 #[.slice A0 l0.length c0, .int .i64 a1] w fun e w' => e = .returned (.bool r) ∧ Below w.heap.size w w' := by
  have HR0 := Aside0.mk hr0
  have HC0 := Aside0.mk hc0
  clear hr0 hc0
  have HB := Aside0.mk (Below.refl w.heap.size w)
  have H : (if (l0.length : Int) > 200 then ((firkinlaw14_live.f k).bind fun t334 => (some t334)) else ((dead_Get.f k l0 a1).bind fun bt335 => ((firkinref14_Get.f k l0 a1).bind fun bt339 => ((firkinlaw14_num.f bt335.2).bind fun t343 => (if t343 = bt339.2 then ((firkinref04_Same.f k bt335.1 bt339.1).bind fun t344 => (if t344 = true then ((firkinlaw14_live.f k).bind fun t345 => (some t345)) else (some false))) else (some false)))))) = some r := h
  clear h
  by_cases c3 : (l0.length : Int) > 200
  · rw [if_pos c3] at H
    have c3b0 : decide (200 < (l0.length : Int)) = true := decide_eq_true c3
    have c3b1 : decide (200 < l0.length) = true := decide_eq_true (by omega)
    clear c3
    replace H := Option.bind_eq_some_iff.mp H
    obtain ⟨t334, A40, H⟩ := H
    replace H : (some t334) = some r := H
    have A4 := Aside0.mk A40
    clear A40
    obtain rfl := Option.some.inj H
    go_enter Try.func8, Try.ntmps8
    go_wp2_with (first | ((with_reducible refine gate_callee (f := 23) rfl ?_); refine goesL_ (some 12) rfl rfl Try.func23 (by kernel_rfl) rfl #[] rfl (by (try simp only [List.map_toArray, List.map_cons, List.map_nil]); first | done | rfl | (simp only [List.length_drop, List.length_take]; rfl)) ?_; (with_reducible refine (firkinlaw14_live.calls k  t334 _ A4.out).mono ?_); rintro e w5 ⟨rfl, hb⟩; refine ⟨_, rfl, ?_⟩; have n0_ := Aside0.mk (below_step (by repeat (first | (with_reducible first | exact HB.out | apply below_alloc | apply pw_below_drewN | apply below_drew1) | exact HB.out)) hb); clear HB; have HB := n0_; clear n0_; (try clear hb); (try clear hb2); (try clear hk); (try clear hi)))
    go_ret
    exact ⟨by first | rfl | (simp [errW_none, errW_some] <;> rfl) | (simp [*, errW_none, errW_some] <;> rfl), by repeat (first | (with_reducible first | exact HB.out | apply below_alloc | apply pw_below_drewN | apply below_drew1) | exact HB.out)⟩
  · rw [if_neg c3] at H
    have c3b0 : decide (200 < (l0.length : Int)) = false := decide_eq_false c3
    have c3b1 : decide (200 < l0.length) = false := decide_eq_false (by omega)
    clear c3
    replace H := Option.bind_eq_some_iff.mp H
    obtain ⟨⟨t335, t336⟩, A60, H⟩ := H
    replace H : ((firkinref14_Get.f k l0 a1).bind fun bt339 => ((firkinlaw14_num.f t336).bind fun t343 => (if t343 = bt339.2 then ((firkinref04_Same.f k t335 bt339.1).bind fun t344 => (if t344 = true then ((firkinlaw14_live.f k).bind fun t345 => (some t345)) else (some false))) else (some false)))) = some r := H
    have A6 := Aside0.mk A60
    clear A60
    replace H := Option.bind_eq_some_iff.mp H
    obtain ⟨⟨t339, t340⟩, A70, H⟩ := H
    replace H : ((firkinlaw14_num.f t336).bind fun t343 => (if t343 = t340 then ((firkinref04_Same.f k t335 t339).bind fun t344 => (if t344 = true then ((firkinlaw14_live.f k).bind fun t345 => (some t345)) else (some false))) else (some false))) = some r := H
    have A7 := Aside0.mk A70
    clear A70
    replace H := Option.bind_eq_some_iff.mp H
    obtain ⟨t343, A80, H⟩ := H
    replace H : (if t343 = t340 then ((firkinref04_Same.f k t335 t339).bind fun t344 => (if t344 = true then ((firkinlaw14_live.f k).bind fun t345 => (some t345)) else (some false))) else (some false)) = some r := H
    have A8 := Aside0.mk A80
    clear A80
    by_cases c9 : t343 = t340
    · rw [if_pos c9] at H
      have c9b0 : (t343 == t340) = true := beq_iff_eq.mpr c9
      have c9b1 : (t343 != t340) = false := bne_eq_false_iff_eq.mpr c9
      clear c9
      replace H := Option.bind_eq_some_iff.mp H
      obtain ⟨t344, A100, H⟩ := H
      replace H : (if t344 = true then ((firkinlaw14_live.f k).bind fun t345 => (some t345)) else (some false)) = some r := H
      have A10 := Aside0.mk A100
      clear A100
      by_cases c11 : t344 = true
      · subst c11
        have H1 : ((firkinlaw14_live.f k).bind fun t345 => (some t345)) = some r := by rw [if_pos rfl] at H; exact H
        clear H
        have H := H1
        clear H1
        replace H := Option.bind_eq_some_iff.mp H
        obtain ⟨t345, A120, H⟩ := H
        replace H : (some t345) = some r := H
        have A12 := Aside0.mk A120
        clear A120
        obtain rfl := Option.some.inj H
        go_enter Try.func8, Try.ntmps8
        go_wp2_with (first | ((with_reducible refine gate_callee (f := 25) rfl ?_); refine goesL_ (some 16) rfl rfl Try.func25 (by kernel_rfl) rfl #[.slice A0 l0.length c0, .int .i64 a1] rfl (by (try simp only [List.map_toArray, List.map_cons, List.map_nil]); first | done | rfl | (simp only [List.length_drop, List.length_take]; rfl)) ?_; (with_reducible refine (dead_Get.calls k _ _ l0 a1 t335 t336 _ ?side1 ?side2 A6.out).mono ?_); (case side1 => repeat (first | exact HR0.out | (with_reducible refine Kd.C_alloc ?_ _) | (with_reducible refine Kd.C_drewN ?_ _) | (with_reducible refine Kd.C_drew ?_))); (case side2 => exact HC0.out); rintro e w13 ⟨v337, rfl, ho0, hb⟩; refine ⟨_, rfl, ?_⟩; have n0_ := Aside0.mk (Kd.R_lower ho0 (below_size (by repeat (first | (with_reducible first | exact HB.out | apply below_alloc | apply pw_below_drewN | apply below_drew1) | exact HB.out)))); have n1_ := Aside0.mk (below_step (by repeat (first | (with_reducible first | exact HB.out | apply below_alloc | apply pw_below_drewN | apply below_drew1) | exact HB.out)) hb); clear HB; have HO338 := n0_; have HB := n1_; clear n0_ n1_; (try clear hb); (try clear hb2); (try clear hk); (try clear hi); (try clear ho0)) | ((with_reducible refine gate_callee (f := 29) rfl ?_); refine goesL_ (some 22) rfl rfl Try.func29 (by kernel_rfl) rfl #[.slice A0 l0.length c0, .int .i64 a1] rfl (by (try simp only [List.map_toArray, List.map_cons, List.map_nil]); first | done | rfl | (simp only [List.length_drop, List.length_take]; rfl)) ?_; (with_reducible refine (firkinref14_Get.calls k _ _ l0 a1 t339 t340 _ ?side1 ?side2 A7.out).mono ?_); (case side1 => repeat (first | exact (Kd.C_below HR0.out HB.out) | (with_reducible refine Kd.C_alloc ?_ _) | (with_reducible refine Kd.C_drewN ?_ _) | (with_reducible refine Kd.C_drew ?_))); (case side2 => exact HC0.out); rintro e w14 ⟨v341, rfl, ho0, hb⟩; refine ⟨_, rfl, ?_⟩; have n0_ := Aside0.mk (Kd.R_elder' (by (with_reducible repeat (first | apply Kd.R_alloc | apply Kd.R_drewN | apply Kd.R_drew)); exact HO338.out) (Kd.R_base ho0) hb); have n1_ := Aside0.mk (Kd.R_lower (Kd.R_new' ho0 (Kd.R_lt (by (with_reducible repeat (first | apply Kd.R_alloc | apply Kd.R_drewN | apply Kd.R_drew)); exact HO338.out))) (below_size (by repeat (first | (with_reducible first | exact HB.out | apply below_alloc | apply pw_below_drewN | apply below_drew1) | exact HB.out)))); have n2_ := Aside0.mk (below_step (by repeat (first | (with_reducible first | exact HB.out | apply below_alloc | apply pw_below_drewN | apply below_drew1) | exact HB.out)) hb); clear HO338; clear HB; have HO338 := n0_; have HO342 := n1_; have HB := n2_; clear n0_ n1_ n2_; (try clear hb); (try clear hb2); (try clear hk); (try clear hi); (try clear ho0)) | ((with_reducible refine gate_callee (f := 26) rfl ?_); refine goesL_ (some 26) rfl rfl Try.func26 (by kernel_rfl) rfl #[.int .i64 t336] rfl (by (try simp only [List.map_toArray, List.map_cons, List.map_nil]); first | done | rfl | (simp only [List.length_drop, List.length_take]; rfl)) ?_; (with_reducible refine (firkinlaw14_num.calls t336 t343 _ A8.out).mono ?_); rintro e w' ⟨rfl, ⟨nd, rfl⟩⟩; refine ⟨_, rfl, ?_⟩; obtain ⟨Ao15, co15, eo15⟩ := Kd.R_slice HO338.out; subst eo15; obtain ⟨Ao16, co16, eo16⟩ := Kd.R_slice HO342.out; subst eo16) | (go_at_call 28; (with_reducible refine (firkinref04_Same.calls k _ _ t335 _ _ t339 true _ ?side1 ?side2 ?side3 ?side4 A10.out).mono ?_); (case side1 => repeat (first | exact (Kd.R_reads' HO338.out).2.2 | (with_reducible refine Kd.C_alloc ?_ _) | (with_reducible refine Kd.C_drewN ?_ _) | (with_reducible refine Kd.C_drew ?_))); (case side2 => exact (Kd.R_reads' HO338.out).2.1); (case side3 => repeat (first | exact (Kd.R_reads' HO342.out).2.2 | (with_reducible refine Kd.C_alloc ?_ _) | (with_reducible refine Kd.C_drewN ?_ _) | (with_reducible refine Kd.C_drew ?_))); (case side4 => exact (Kd.R_reads' HO342.out).2.1); rintro e w' ⟨rfl, ⟨nd, rfl⟩⟩) | (go_at_call 23; (with_reducible refine (firkinlaw14_live.calls k  t345 _ A12.out).mono ?_); rintro e w17 ⟨rfl, hb⟩; have n0_ := Aside0.mk (Kd.R_below (by (with_reducible repeat (first | apply Kd.R_alloc | apply Kd.R_drewN | apply Kd.R_drew)); exact HO338.out) hb); have n1_ := Aside0.mk (Kd.R_below (by (with_reducible repeat (first | apply Kd.R_alloc | apply Kd.R_drewN | apply Kd.R_drew)); exact HO342.out) hb); have n2_ := Aside0.mk (below_step (by repeat (first | (with_reducible first | exact HB.out | apply below_alloc | apply pw_below_drewN | apply below_drew1) | exact HB.out)) hb); clear HO338; clear HO342; clear HB; have HO338 := n0_; have HO342 := n1_; have HB := n2_; clear n0_ n1_ n2_; (try clear hb); (try clear hb2); (try clear hk); (try clear hi); (try clear A12)))
        go_ret
        exact ⟨by first | rfl | (simp [errW_none, errW_some] <;> rfl) | (simp [*, errW_none, errW_some] <;> rfl), by repeat (first | (with_reducible first | exact HB.out | apply below_alloc | apply pw_below_drewN | apply below_drew1) | exact HB.out)⟩
      · replace c11 := Bool.eq_false_iff.mpr c11
        subst c11
        have H1 : (some false) = some r := by rw [if_neg (show ¬ (false = true) by decide)] at H; exact H
        clear H
        have H := H1
        clear H1
        obtain rfl := Option.some.inj H
        go_enter Try.func8, Try.ntmps8
        go_wp2_with (first | ((with_reducible refine gate_callee (f := 25) rfl ?_); refine goesL_ (some 16) rfl rfl Try.func25 (by kernel_rfl) rfl #[.slice A0 l0.length c0, .int .i64 a1] rfl (by (try simp only [List.map_toArray, List.map_cons, List.map_nil]); first | done | rfl | (simp only [List.length_drop, List.length_take]; rfl)) ?_; (with_reducible refine (dead_Get.calls k _ _ l0 a1 t335 t336 _ ?side1 ?side2 A6.out).mono ?_); (case side1 => repeat (first | exact HR0.out | (with_reducible refine Kd.C_alloc ?_ _) | (with_reducible refine Kd.C_drewN ?_ _) | (with_reducible refine Kd.C_drew ?_))); (case side2 => exact HC0.out); rintro e w18 ⟨v337, rfl, ho0, hb⟩; refine ⟨_, rfl, ?_⟩; have n0_ := Aside0.mk (Kd.R_lower ho0 (below_size (by repeat (first | (with_reducible first | exact HB.out | apply below_alloc | apply pw_below_drewN | apply below_drew1) | exact HB.out)))); have n1_ := Aside0.mk (below_step (by repeat (first | (with_reducible first | exact HB.out | apply below_alloc | apply pw_below_drewN | apply below_drew1) | exact HB.out)) hb); clear HB; have HO338 := n0_; have HB := n1_; clear n0_ n1_; (try clear hb); (try clear hb2); (try clear hk); (try clear hi); (try clear ho0)) | ((with_reducible refine gate_callee (f := 29) rfl ?_); refine goesL_ (some 22) rfl rfl Try.func29 (by kernel_rfl) rfl #[.slice A0 l0.length c0, .int .i64 a1] rfl (by (try simp only [List.map_toArray, List.map_cons, List.map_nil]); first | done | rfl | (simp only [List.length_drop, List.length_take]; rfl)) ?_; (with_reducible refine (firkinref14_Get.calls k _ _ l0 a1 t339 t340 _ ?side1 ?side2 A7.out).mono ?_); (case side1 => repeat (first | exact (Kd.C_below HR0.out HB.out) | (with_reducible refine Kd.C_alloc ?_ _) | (with_reducible refine Kd.C_drewN ?_ _) | (with_reducible refine Kd.C_drew ?_))); (case side2 => exact HC0.out); rintro e w19 ⟨v341, rfl, ho0, hb⟩; refine ⟨_, rfl, ?_⟩; have n0_ := Aside0.mk (Kd.R_elder' (by (with_reducible repeat (first | apply Kd.R_alloc | apply Kd.R_drewN | apply Kd.R_drew)); exact HO338.out) (Kd.R_base ho0) hb); have n1_ := Aside0.mk (Kd.R_lower (Kd.R_new' ho0 (Kd.R_lt (by (with_reducible repeat (first | apply Kd.R_alloc | apply Kd.R_drewN | apply Kd.R_drew)); exact HO338.out))) (below_size (by repeat (first | (with_reducible first | exact HB.out | apply below_alloc | apply pw_below_drewN | apply below_drew1) | exact HB.out)))); have n2_ := Aside0.mk (below_step (by repeat (first | (with_reducible first | exact HB.out | apply below_alloc | apply pw_below_drewN | apply below_drew1) | exact HB.out)) hb); clear HO338; clear HB; have HO338 := n0_; have HO342 := n1_; have HB := n2_; clear n0_ n1_ n2_; (try clear hb); (try clear hb2); (try clear hk); (try clear hi); (try clear ho0)) | ((with_reducible refine gate_callee (f := 26) rfl ?_); refine goesL_ (some 26) rfl rfl Try.func26 (by kernel_rfl) rfl #[.int .i64 t336] rfl (by (try simp only [List.map_toArray, List.map_cons, List.map_nil]); first | done | rfl | (simp only [List.length_drop, List.length_take]; rfl)) ?_; (with_reducible refine (firkinlaw14_num.calls t336 t343 _ A8.out).mono ?_); rintro e w' ⟨rfl, ⟨nd, rfl⟩⟩; refine ⟨_, rfl, ?_⟩; obtain ⟨Ao20, co20, eo20⟩ := Kd.R_slice HO338.out; subst eo20; obtain ⟨Ao21, co21, eo21⟩ := Kd.R_slice HO342.out; subst eo21) | (go_at_call 28; (with_reducible refine (firkinref04_Same.calls k _ _ t335 _ _ t339 false _ ?side1 ?side2 ?side3 ?side4 A10.out).mono ?_); (case side1 => repeat (first | exact (Kd.R_reads' HO338.out).2.2 | (with_reducible refine Kd.C_alloc ?_ _) | (with_reducible refine Kd.C_drewN ?_ _) | (with_reducible refine Kd.C_drew ?_))); (case side2 => exact (Kd.R_reads' HO338.out).2.1); (case side3 => repeat (first | exact (Kd.R_reads' HO342.out).2.2 | (with_reducible refine Kd.C_alloc ?_ _) | (with_reducible refine Kd.C_drewN ?_ _) | (with_reducible refine Kd.C_drew ?_))); (case side4 => exact (Kd.R_reads' HO342.out).2.1); rintro e w' ⟨rfl, ⟨nd, rfl⟩⟩))
        go_ret
        exact ⟨by first | rfl | (simp [errW_none, errW_some] <;> rfl) | (simp [*, errW_none, errW_some] <;> rfl), by repeat (first | (with_reducible first | exact HB.out | apply below_alloc | apply pw_below_drewN | apply below_drew1) | exact HB.out)⟩
    · rw [if_neg c9] at H
      have c9b0 : (t343 == t340) = false := beq_eq_false_iff_ne.mpr c9
      have c9b1 : (t343 != t340) = true := bne_iff_ne.mpr c9
      obtain rfl := Option.some.inj H
      go_enter Try.func8, Try.ntmps8
      go_wp2_with (first | ((with_reducible refine gate_callee (f := 25) rfl ?_); refine goesL_ (some 16) rfl rfl Try.func25 (by kernel_rfl) rfl #[.slice A0 l0.length c0, .int .i64 a1] rfl (by (try simp only [List.map_toArray, List.map_cons, List.map_nil]); first | done | rfl | (simp only [List.length_drop, List.length_take]; rfl)) ?_; (with_reducible refine (dead_Get.calls k _ _ l0 a1 t335 t336 _ ?side1 ?side2 A6.out).mono ?_); (case side1 => repeat (first | exact HR0.out | (with_reducible refine Kd.C_alloc ?_ _) | (with_reducible refine Kd.C_drewN ?_ _) | (with_reducible refine Kd.C_drew ?_))); (case side2 => exact HC0.out); rintro e w22 ⟨v337, rfl, ho0, hb⟩; refine ⟨_, rfl, ?_⟩; have n0_ := Aside0.mk (Kd.R_lower ho0 (below_size (by repeat (first | (with_reducible first | exact HB.out | apply below_alloc | apply pw_below_drewN | apply below_drew1) | exact HB.out)))); have n1_ := Aside0.mk (below_step (by repeat (first | (with_reducible first | exact HB.out | apply below_alloc | apply pw_below_drewN | apply below_drew1) | exact HB.out)) hb); clear HB; have HO338 := n0_; have HB := n1_; clear n0_ n1_; (try clear hb); (try clear hb2); (try clear hk); (try clear hi); (try clear ho0)) | ((with_reducible refine gate_callee (f := 29) rfl ?_); refine goesL_ (some 22) rfl rfl Try.func29 (by kernel_rfl) rfl #[.slice A0 l0.length c0, .int .i64 a1] rfl (by (try simp only [List.map_toArray, List.map_cons, List.map_nil]); first | done | rfl | (simp only [List.length_drop, List.length_take]; rfl)) ?_; (with_reducible refine (firkinref14_Get.calls k _ _ l0 a1 t339 t340 _ ?side1 ?side2 A7.out).mono ?_); (case side1 => repeat (first | exact (Kd.C_below HR0.out HB.out) | (with_reducible refine Kd.C_alloc ?_ _) | (with_reducible refine Kd.C_drewN ?_ _) | (with_reducible refine Kd.C_drew ?_))); (case side2 => exact HC0.out); rintro e w23 ⟨v341, rfl, ho0, hb⟩; refine ⟨_, rfl, ?_⟩; have n0_ := Aside0.mk (Kd.R_elder' (by (with_reducible repeat (first | apply Kd.R_alloc | apply Kd.R_drewN | apply Kd.R_drew)); exact HO338.out) (Kd.R_base ho0) hb); have n1_ := Aside0.mk (Kd.R_lower (Kd.R_new' ho0 (Kd.R_lt (by (with_reducible repeat (first | apply Kd.R_alloc | apply Kd.R_drewN | apply Kd.R_drew)); exact HO338.out))) (below_size (by repeat (first | (with_reducible first | exact HB.out | apply below_alloc | apply pw_below_drewN | apply below_drew1) | exact HB.out)))); have n2_ := Aside0.mk (below_step (by repeat (first | (with_reducible first | exact HB.out | apply below_alloc | apply pw_below_drewN | apply below_drew1) | exact HB.out)) hb); clear HO338; clear HB; have HO338 := n0_; have HO342 := n1_; have HB := n2_; clear n0_ n1_ n2_; (try clear hb); (try clear hb2); (try clear hk); (try clear hi); (try clear ho0)) | ((with_reducible refine gate_callee (f := 26) rfl ?_); refine goesL_ (some 26) rfl rfl Try.func26 (by kernel_rfl) rfl #[.int .i64 t336] rfl (by (try simp only [List.map_toArray, List.map_cons, List.map_nil]); first | done | rfl | (simp only [List.length_drop, List.length_take]; rfl)) ?_; (with_reducible refine (firkinlaw14_num.calls t336 t343 _ A8.out).mono ?_); rintro e w' ⟨rfl, ⟨nd, rfl⟩⟩; refine ⟨_, rfl, ?_⟩))
      go_ret
      exact ⟨by first | rfl | (simp [errW_none, errW_some] <;> rfl) | (simp [*, errW_none, errW_some] <;> rfl), by repeat (first | (with_reducible first | exact HB.out | apply below_alloc | apply pw_below_drewN | apply below_drew1) | exact HB.out)⟩

-- NOT PRINTED: function 57 (slices_Clone_bool_bool)

-- NOT PRINTED: function 30 (dead_More)

/-! ### firkinref14_More: function 31 -/
def firkinref14_More.l0 : Nat → List Int → List Bool → Int → Option (List Bool × Int)
  | 0, _, _, _ => none
  | k + 1, x1, x6, x7 => if x7 < (x1.length : Int) then (if 0 ≤ x7 then (if (rd x1 x7) < 0 then (some (([] : List Bool), 1)) else (if (rd x1 x7) ≥ (x6.length : Int) then (some (([] : List Bool), 1)) else (if 0 ≤ (rd x1 x7) then (if (rd x1 x7) < (x6.length : Int) then (firkinref14_More.l0 k x1 (x6.set ((rd x1 x7) : Int).toNat true) (wrap64 (x7 + 1))) else (none)) else (none)))) else (none)) else (some (x6, 0))
def firkinref14_More.f (k : Nat) (l0 : List Bool) (l1 : List Int) : Option (List Bool × Int) := if (l0.length : Int) > 200 then (some (([] : List Bool), 4)) else ((some (([] : List Bool) : List Bool)).bind fun y346 => (if y346.length + l0.length < 140737488355328 then (firkinref14_More.l0 k l1 (y346 ++ l0) 0) else (none)))
theorem firkinref14_More.mono_l : ∀ k, (∀ y0 y1 y2, LeO (firkinref14_More.l0 k y0 y1 y2) (firkinref14_More.l0 (k + 1) y0 y1 y2))
  | 0 => fun _ _ _ r h => by simp [firkinref14_More.l0] at h
  | k + 1 => by
    have ih0 := firkinref14_More.mono_l k
    · intro y0 y1 y2
      unfold firkinref14_More.l0
      repeat' first
      | (with_reducible exact ih0 _ _ _)
      | (with_reducible exact LeO.refl _)
      | (with_reducible exact LeO.none _)
      | (with_reducible refine LeO.ite ?_ ?_)
      | (with_reducible refine LeO.bind ?_ (fun _ => ?_))
      | exact ih0 _ _ _
      | exact LeO.none _
      | refine LeO.ite ?_ ?_
      | refine LeO.bind ?_ (fun _ => ?_)
theorem firkinref14_More.mono : ∀ a0 a1 k, LeO (firkinref14_More.f k a0 a1) (firkinref14_More.f (k + 1) a0 a1) := by
  intro a0 a1 k
  have ih0 := firkinref14_More.mono_l k
  unfold firkinref14_More.f
  repeat' first
      | (with_reducible exact ih0 _ _ _)
      | (with_reducible exact LeO.refl _)
      | (with_reducible exact LeO.none _)
      | (with_reducible refine LeO.ite ?_ ?_)
      | (with_reducible refine LeO.bind ?_ (fun _ => ?_))
      | exact ih0 _ _ _
      | exact LeO.none _
      | refine LeO.ite ?_ ?_
      | refine LeO.bind ?_ (fun _ => ?_)
set_option maxHeartbeats 8000000 in
set_option maxRecDepth 100000 in
theorem firkinref14_More.calls (k : Nat) (A0 : Option Addr) (c0 : Nat) (l0 : List Bool) (A1 : Option Addr) (c1 : Nat) (l1 : List Int) (r1 : List Bool) (r2 : Int) (w : World) (hr0 : Kd.C Kd.bool w A0 l0.length l0) (hc0 : l0.length ≤ c0) (hr1 : Kd.C (Kd.int .i64) w A1 l1.length l1) (hc1 : l1.length ≤ c1) (h : firkinref14_More.f k l0 l1 = some (r1, r2)) :
    Calls Try.prog 31 #[.slice A0 l0.length c0, .slice A1 l1.length c1] w fun e w' => ∃ v0_ : Value, e = .returned (.tuple #[v0_, .int .i64 r2]) ∧ Kd.R Kd.bool 4 w' w.heap.size (fun _ => True) v0_ r1 ∧ Below w.heap.size w w' := by
  have HR0 := Aside0.mk hr0
  have HC0 := Aside0.mk hc0
  clear hr0 hc0
  have HR1 := Aside0.mk hr1
  have HC1 := Aside0.mk hc1
  clear hr1 hc1
  have HB := Aside0.mk (Below.refl w.heap.size w)
  have H : (if (l0.length : Int) > 200 then (some (([] : List Bool), 4)) else ((some (([] : List Bool) : List Bool)).bind fun y346 => (if y346.length + l0.length < 140737488355328 then (firkinref14_More.l0 k l1 (y346 ++ l0) 0) else (none)))) = some (r1, r2) := h
  clear h
  by_cases c3 : (l0.length : Int) > 200
  · rw [if_pos c3] at H
    have c3b0 : decide (200 < (l0.length : Int)) = true := decide_eq_true c3
    have c3b1 : decide (200 < l0.length) = true := decide_eq_true (by omega)
    clear c3
    simp only [Option.some.injEq, Prod.mk.injEq] at H
    obtain ⟨rfl, rfl⟩ := H
    go_enter Try.func31, Try.ntmps31
    go_wp2
    go_ret2
    exact ⟨_, by first | rfl | (simp [errW_none, errW_some] <;> rfl) | (simp [*, errW_none, errW_some] <;> rfl), by first | exact Kd.R_nil _ _ _ _ _ | exact Kd.N_nil _ _ _ _ _ | exact Kd.V_nil _ _ _ _ _ | exact Kd.Q_nil _ _ _ _ _ | exact Kd.S_nil _ _ _ _ _, by repeat (first | (with_reducible first | exact HB.out | apply below_alloc | apply pw_below_drewN | apply below_drew1) | exact HB.out)⟩
  · rw [if_neg c3] at H
    have c3b0 : decide (200 < (l0.length : Int)) = false := decide_eq_false c3
    have c3b1 : decide (200 < l0.length) = false := decide_eq_false (by omega)
    clear c3
    obtain ⟨y346, hy346⟩ : ∃ y_ : List Bool, y_ = (([] : List Bool)) := ⟨_, rfl⟩
    replace H : (if y346.length + l0.length < 140737488355328 then (firkinref14_More.l0 k l1 (y346 ++ l0) 0) else (none)) = some (r1, r2) := by first | (rw [hy346]; with_reducible exact H) | (have H2_ := (Option.bind_some _ _).symm.trans H; rw [hy346]; with_reducible exact H2_) | (have H2_ := (Option.bind_some _ _).symm.trans H; with_reducible exact H2_) | with_reducible exact H | (rw [hy346]; exact H) | exact H
    have Ny346 := Aside0.mk hy346
    clear hy346
    by_cases c4 : y346.length + l0.length < 140737488355328
    · rw [if_pos c4] at H
      have LMc4 := Aside0.mk c4
      clear c4
      obtain ⟨y349, hy349⟩ : ∃ y_ : List Bool, y_ = (y346 ++ l0) := ⟨_, rfl⟩
      replace H : (firkinref14_More.l0 k l1 y349 0) = some (r1, r2) := by first | (rw [hy349]; with_reducible exact H) | (have H2_ := (Option.bind_some _ _).symm.trans H; rw [hy349]; with_reducible exact H2_) | (have H2_ := (Option.bind_some _ _).symm.trans H; with_reducible exact H2_) | with_reducible exact H | (rw [hy349]; exact H) | exact H
      have Ny349 := Aside0.mk hy349
      clear hy349
      have H' := Aside0.mk H
      clear H
      go_enter Try.func31, Try.ntmps31
      go_wp2_with (first | ((with_reducible refine gate_dst (N := 11) rfl ?_); (try (refine gate_guard (by rfl) ?_; dsimp only)); refine Kd.R_lit Kd.bool _ 4 ?hg (N := 11) ?hd (xs := ([] : List Bool)) (inner := []) (ok := fun _ => True) (okp := fun _ => True) ?hr ?hp (fun _ hk => hk) trivial (Below.refl _ _) (Nat.le_refl _) (by simp) ?_; (case hd => rfl); (case hg => rfl); (case hr => first | (go_simp; done) | (go_simp; rfl)); (case hp => exact (Reps.none _ _)); intro v347 w5 ho6 hb hg_ hnew_; clear hg_ hnew_; (first | rw [← Ny346.out] at ho6 | (simp only [Int.reduceToNat] at ho6; rw [← Ny346.out] at ho6)); have n0_ := Aside0.mk (Kd.R_lower ho6 (below_size (by repeat (first | (with_reducible first | exact HB.out | apply below_alloc | apply pw_below_drewN | apply below_drew1) | exact HB.out)))); have n1_ := Aside0.mk (below_step (by repeat (first | (with_reducible first | exact HB.out | apply below_alloc | apply pw_below_drewN | apply below_drew1) | exact HB.out)) hb); clear HB; have HO348 := n0_; have HB := n1_; clear n0_ n1_; clear hb ho6) | ((with_reducible refine gate_builtin (b := .append) (xs := #[.tmp 11, .tmp 12]) rfl ?_); (try (refine gate_guard (by rfl) ?_; dsimp only)); at_builtin; refine Kd.R_append_rows Kd.bool (w0 := w) w.heap.size rfl (.tmp 11) (.tmp 12) 41 4 (.bool false) 1 rfl Try.underlying41 info4 rfl (by decide) (by omega) v347 y346 l0 _ _ _ (fun _ => True) (fun _ => False) rfl rfl ?aO ?aR (fun _ _ h => h) (fun _ h => h.elim) ?aF ?aB ?aS ?aL ?_; (case aR => repeat (first | exact (Kd.C_below HR0.out HB.out) | (with_reducible refine Kd.C_alloc ?_ _) | (with_reducible refine Kd.C_drewN ?_ _) | (with_reducible refine Kd.C_drew ?_))); (case aB => exact (by repeat (first | (with_reducible first | exact HB.out | apply below_alloc | apply pw_below_drewN | apply below_drew1) | exact HB.out))); (case aF => exact (fun _ _ => trivial)); (case aO => exact (by (with_reducible repeat (first | apply Kd.R_alloc | apply Kd.R_drewN | apply Kd.R_drew)); exact HO348.out)); (case aS => exact (below_size (by repeat (first | (with_reducible first | exact HB.out | apply below_alloc | apply pw_below_drewN | apply below_drew1) | exact HB.out)))); (case aL => have := LMc4.out; omega); intro v350 w7 ho hb hg hat; rw [← Ny349.out] at ho; have n0_ := Aside0.mk (hb); have n1_ := Aside0.mk (ho); clear HB; clear HO348; have HB := n0_; have HO351 := n1_; clear n0_ n1_; clear ho hb hg hat))
      go_loopg [7] k (fun kq v7 w' => ∃ (x6_1 : List Bool) (x7_1 : Int), v7 = .int .i64 x7_1 ∧ Aside0 (firkinref14_More.l0 kq l1 x6_1 x7_1 = some (r1, r2)) ∧ Aside0 (kq ≤ k) ∧ Aside0 (Kd.R Kd.bool 4 w' w.heap.size (fun _ => True) v350 x6_1) ∧ Aside0 (Below w.heap.size w w'))
      case atStart => exact ⟨(y349), (0), (by first | rfl | (simp; done) | (simp [*]; done)), H', ⟨Nat.le_refl _⟩, ⟨by (with_reducible repeat (first | apply Kd.R_alloc | apply Kd.R_drewN | apply Kd.R_drew)); exact HO351.out⟩, ⟨by repeat (first | (with_reducible first | exact HB.out | apply below_alloc | apply pw_below_drewN | apply below_drew1) | exact HB.out)⟩⟩
      case round =>
        clear H'
        try clear c1
        try clear p2
        try clear c3
        try clear c3b0
        try clear c3b1
        try clear c4
        obtain ⟨x6_1, x7_1, rfl, HA, HK1, HO_6, HB⟩ := hrel
        cases gk with
        | zero => exact absurd HA.out (by simp [firkinref14_More.l0])
        | succ k1 =>
          have H := HA.out
          clear HA
          simp only [firkinref14_More.l0] at H
          by_cases c8 : x7_1 < (l1.length : Int)
          · rw [if_pos c8] at H
            have c8b0 : decide (x7_1 < (l1.length : Int)) = true := decide_eq_true c8
            clear c8
            by_cases c9 : 0 ≤ x7_1
            · rw [if_pos c9] at H
              have c9b0 : decide (0 ≤ x7_1) = true := decide_eq_true c9
              clear c9
              by_cases c10 : (rd l1 x7_1) < 0
              · rw [if_pos c10] at H
                have c10b0 : decide ((rd l1 x7_1) < 0) = true := decide_eq_true c10
                clear c10
                simp only [Option.some.injEq, Prod.mk.injEq] at H
                obtain ⟨rfl, rfl⟩ := H
                have p352 : 0 ≤ (x7_1 : Int) := of_decide_eq_true (by first | (with_reducible assumption) | assumption)
                have q352 : x7_1 < (l1.length : Int) := of_decide_eq_true (by first | (with_reducible assumption) | assumption)
                obtain ⟨ad352, e352, hx352_0⟩ := Kd.at_int HR1.out x7_1 p352 q352
                cases e352
                replace hx352_0 := (HB.out.cell (World.block_lt_of_cell? w _ hx352_0)).trans hx352_0
                replace p352 := eq_true p352
                replace q352 := eq_true q352
                go_wp2
                go_ret2
                exact ⟨_, by first | rfl | (simp [errW_none, errW_some] <;> rfl) | (simp [*, errW_none, errW_some] <;> rfl), by first | exact Kd.R_nil _ _ _ _ _ | exact Kd.N_nil _ _ _ _ _ | exact Kd.V_nil _ _ _ _ _ | exact Kd.Q_nil _ _ _ _ _ | exact Kd.S_nil _ _ _ _ _, by repeat (first | (with_reducible first | exact HB.out | apply below_alloc | apply pw_below_drewN | apply below_drew1) | exact HB.out)⟩
              · rw [if_neg c10] at H
                have c10b0 : decide ((rd l1 x7_1) < 0) = false := decide_eq_false c10
                clear c10
                by_cases c11 : (rd l1 x7_1) ≥ (x6_1.length : Int)
                · rw [if_pos c11] at H
                  have c11b0 : decide ((x6_1.length : Int) ≤ (rd l1 x7_1)) = true := decide_eq_true c11
                  clear c11
                  simp only [Option.some.injEq, Prod.mk.injEq] at H
                  obtain ⟨rfl, rfl⟩ := H
                  have p352 : 0 ≤ (x7_1 : Int) := of_decide_eq_true (by first | (with_reducible assumption) | assumption)
                  have q352 : x7_1 < (l1.length : Int) := of_decide_eq_true (by first | (with_reducible assumption) | assumption)
                  obtain ⟨ad352, e352, hx352_0⟩ := Kd.at_int HR1.out x7_1 p352 q352
                  cases e352
                  replace hx352_0 := (HB.out.cell (World.block_lt_of_cell? w _ hx352_0)).trans hx352_0
                  replace p352 := eq_true p352
                  replace q352 := eq_true q352
                  have p353 : 0 ≤ (x7_1 : Int) := of_decide_eq_true (by first | (with_reducible assumption) | assumption)
                  have q353 : x7_1 < (l1.length : Int) := of_decide_eq_true (by first | (with_reducible assumption) | assumption)
                  obtain ⟨ad353, e353, hx353_0⟩ := Kd.at_int HR1.out x7_1 p353 q353
                  obtain rfl : ad352 = ad353 := (by injection e353)
                  replace hx353_0 := (HB.out.cell (World.block_lt_of_cell? w _ hx353_0)).trans hx353_0
                  replace p353 := eq_true p353
                  replace q353 := eq_true q353
                  obtain ⟨Ao12, co12, eo12⟩ := Kd.R_slice HO_6.out
                  subst eo12
                  go_wp2
                  go_ret2
                  exact ⟨_, by first | rfl | (simp [errW_none, errW_some] <;> rfl) | (simp [*, errW_none, errW_some] <;> rfl), by first | exact Kd.R_nil _ _ _ _ _ | exact Kd.N_nil _ _ _ _ _ | exact Kd.V_nil _ _ _ _ _ | exact Kd.Q_nil _ _ _ _ _ | exact Kd.S_nil _ _ _ _ _, by repeat (first | (with_reducible first | exact HB.out | apply below_alloc | apply pw_below_drewN | apply below_drew1) | exact HB.out)⟩
                · rw [if_neg c11] at H
                  have c11b0 : decide ((x6_1.length : Int) ≤ (rd l1 x7_1)) = false := decide_eq_false c11
                  clear c11
                  by_cases c13 : 0 ≤ (rd l1 x7_1)
                  · rw [if_pos c13] at H
                    have c13b0 : decide (0 ≤ (rd l1 x7_1)) = true := decide_eq_true c13
                    clear c13
                    by_cases c14 : (rd l1 x7_1) < (x6_1.length : Int)
                    · rw [if_pos c14] at H
                      have c14b0 : decide ((rd l1 x7_1) < (x6_1.length : Int)) = true := decide_eq_true c14
                      clear c14
                      obtain ⟨y355, hy355⟩ : ∃ y_ : List Bool, y_ = (x6_1.set ((rd l1 x7_1) : Int).toNat true) := ⟨_, rfl⟩
                      replace H : (firkinref14_More.l0 k1 l1 y355 (wrap64 (x7_1 + 1))) = some (r1, r2) := by first | (rw [hy355]; with_reducible exact H) | (have H2_ := (Option.bind_some _ _).symm.trans H; rw [hy355]; with_reducible exact H2_) | (have H2_ := (Option.bind_some _ _).symm.trans H; with_reducible exact H2_) | with_reducible exact H | (rw [hy355]; exact H) | exact H
                      have Ny355 := Aside0.mk hy355
                      clear hy355
                      have H' := Aside0.mk H
                      clear H
                      have p352 : 0 ≤ (x7_1 : Int) := of_decide_eq_true (by first | (with_reducible assumption) | assumption)
                      have q352 : x7_1 < (l1.length : Int) := of_decide_eq_true (by first | (with_reducible assumption) | assumption)
                      obtain ⟨ad352, e352, hx352_0⟩ := Kd.at_int HR1.out x7_1 p352 q352
                      cases e352
                      replace hx352_0 := (HB.out.cell (World.block_lt_of_cell? w _ hx352_0)).trans hx352_0
                      replace p352 := eq_true p352
                      replace q352 := eq_true q352
                      have p353 : 0 ≤ (x7_1 : Int) := of_decide_eq_true (by first | (with_reducible assumption) | assumption)
                      have q353 : x7_1 < (l1.length : Int) := of_decide_eq_true (by first | (with_reducible assumption) | assumption)
                      obtain ⟨ad353, e353, hx353_0⟩ := Kd.at_int HR1.out x7_1 p353 q353
                      obtain rfl : ad352 = ad353 := (by injection e353)
                      replace hx353_0 := (HB.out.cell (World.block_lt_of_cell? w _ hx353_0)).trans hx353_0
                      replace p353 := eq_true p353
                      replace q353 := eq_true q353
                      obtain ⟨Ao16, co16, eo16⟩ := Kd.R_slice HO_6.out
                      subst eo16
                      have p354 : 0 ≤ (x7_1 : Int) := of_decide_eq_true (by first | (with_reducible assumption) | assumption)
                      have q354 : x7_1 < (l1.length : Int) := of_decide_eq_true (by first | (with_reducible assumption) | assumption)
                      obtain ⟨ad354, e354, hx354_0⟩ := Kd.at_int HR1.out x7_1 p354 q354
                      obtain rfl : ad352 = ad354 := (by injection e354)
                      replace hx354_0 := (HB.out.cell (World.block_lt_of_cell? w _ hx354_0)).trans hx354_0
                      replace p354 := eq_true p354
                      replace q354 := eq_true q354
                      have p15 : 0 ≤ ((rd l1 x7_1) : Int) := of_decide_eq_true (by first | (with_reducible assumption) | assumption)
                      have q15 : ((rd l1 x7_1) : Int) < ((x6_1.length : Int) : Int) := of_decide_eq_true (by first | (with_reducible assumption) | assumption)
                      obtain ⟨go15, co15, eo15, gb15, gl15, cl15, HG15⟩ := Kd.R_form HO_6.out (by omega)
                      (first | cases eo15 | (injection eo15 with ea_ en_ ec_; (first | subst ea_ | (injection ea_ with ea_; subst ea_)); subst ec_; clear en_))
                      have GB15 := Aside0.mk gb15
                      have GG15 := Aside0.mk HG15
                      clear gb15 gl15 HG15
                      obtain ⟨hx15_0, hf15_0⟩ := Kd.R_celln false HO_6.out ((rd l1 x7_1) : Int) p15 q15
                      replace p15 := eq_true p15
                      replace q15 := eq_true q15
                      have HP17 := Kd.R_putg HO_6.out ((rd l1 x7_1) : Int) true
                      go_wp2_with (first | ((with_reducible refine gate_store (t := 4) (p := 39) rfl ?_); refine store_event (t := 4) (p := 39) (v := ?vo_w18) (w1 := (wr.setCell ⟨go15, ((rd l1 x7_1) : Int).toNat, none⟩ (.bool true))) ?hg ?ho ?hn ?hr ?_; (case ho => rfl); (case hg => rfl); (case hn => rfl); (case hr => first | (go_simp; done) | (go_simp; rfl)); intro w18 hw; have hg : wr.grownBy w18 (some go15) := (by rw [hw]; exact HP17.2); have hp_ : Kd.R Kd.bool 4 w18 w.heap.size (fun _ => True) (.slice (some ⟨go15, 0, none⟩) x6_1.length co16) y355 := (by rw [hw, Ny355.out]; exact HP17.1); clear HP17; have n0_ := Aside0.mk (hp_); have n1_ := Aside0.mk ((by rw [hw]; exact below_set (HB.out) GB15.out : Below w.heap.size w w18)); clear HO_6; clear HB; have HO_6 := n0_; have HB := n1_; clear n0_ n1_; clear hg hw hp_))
                      go_roundg k1
                      case measure => have := HK1.out; omega
                      case rel => exact ⟨(y355), (wrap64 (x7_1 + 1)), (by first | rfl | (simp; done) | (simp [*]; done)), H', ⟨by have := HK1.out; omega⟩, ⟨by (with_reducible repeat (first | apply Kd.R_alloc | apply Kd.R_drewN | apply Kd.R_drew)); exact HO_6.out⟩, ⟨by repeat (first | (with_reducible first | exact HB.out | apply below_alloc | apply pw_below_drewN | apply below_drew1) | exact HB.out)⟩⟩
                    · rw [if_neg c14] at H
                      exact absurd H (by simp)
                  · rw [if_neg c13] at H
                    exact absurd H (by simp)
            · rw [if_neg c9] at H
              exact absurd H (by simp)
          · rw [if_neg c8] at H
            have c8b0 : decide (x7_1 < (l1.length : Int)) = false := decide_eq_false c8
            clear c8
            simp only [Option.some.injEq, Prod.mk.injEq] at H
            obtain ⟨rfl, rfl⟩ := H
            go_wp2
            go_ret2
            exact ⟨_, by first | rfl | (simp [errW_none, errW_some] <;> rfl) | (simp [*, errW_none, errW_some] <;> rfl), by (with_reducible repeat (first | apply Kd.R_alloc | apply Kd.R_drewN | apply Kd.R_drew)); exact HO_6.out, by repeat (first | (with_reducible first | exact HB.out | apply below_alloc | apply pw_below_drewN | apply below_drew1) | exact HB.out)⟩
    · rw [if_neg c4] at H
      exact absurd H (by simp)

-- NOT PRINTED: function 32 (dead_Live)

/-! ### firkinref09_All: function 58 -/
def firkinref09_All.l0 : Nat → List (S94) → List (S94) → Int → Option (Bool)
  | 0, _, _, _ => none
  | k + 1, x0, x1, x5 => if x5 < (x0.length : Int) then (if 0 ≤ x5 then (if x5 < (x1.length : Int) then (if (!(((rd_T94 x0 x5).f0) == ((rd_T94 x1 x5).f0)) || (!(((rd_T94 x0 x5).f1) == ((rd_T94 x1 x5).f1)) || (!((((rd_T94 x0 x5).f2).toList) == (((rd_T94 x1 x5).f2).toList))))) = true then (some false) else (firkinref09_All.l0 k x0 x1 (wrap64 (x5 + 1)))) else (none)) else (none)) else (some true)
def firkinref09_All.f (k : Nat) (l0 : List (S94)) (l1 : List (S94)) : Option (Bool) := if (l0.length : Int) = (l1.length : Int) then (firkinref09_All.l0 k l0 l1 0) else (some false)
theorem firkinref09_All.mono_l : ∀ k, (∀ y0 y1 y2, LeO (firkinref09_All.l0 k y0 y1 y2) (firkinref09_All.l0 (k + 1) y0 y1 y2))
  | 0 => fun _ _ _ r h => by simp [firkinref09_All.l0] at h
  | k + 1 => by
    have ih0 := firkinref09_All.mono_l k
    · intro y0 y1 y2
      unfold firkinref09_All.l0
      repeat' first
      | (with_reducible exact ih0 _ _ _)
      | (with_reducible exact LeO.refl _)
      | (with_reducible exact LeO.none _)
      | (with_reducible refine LeO.ite ?_ ?_)
      | (with_reducible refine LeO.bind ?_ (fun _ => ?_))
      | exact ih0 _ _ _
      | exact LeO.none _
      | refine LeO.ite ?_ ?_
      | refine LeO.bind ?_ (fun _ => ?_)
theorem firkinref09_All.mono : ∀ a0 a1 k, LeO (firkinref09_All.f k a0 a1) (firkinref09_All.f (k + 1) a0 a1) := by
  intro a0 a1 k
  have ih0 := firkinref09_All.mono_l k
  unfold firkinref09_All.f
  repeat' first
      | (with_reducible exact ih0 _ _ _)
      | (with_reducible exact LeO.refl _)
      | (with_reducible exact LeO.none _)
      | (with_reducible refine LeO.ite ?_ ?_)
      | (with_reducible refine LeO.bind ?_ (fun _ => ?_))
      | exact ih0 _ _ _
      | exact LeO.none _
      | refine LeO.ite ?_ ?_
      | refine LeO.bind ?_ (fun _ => ?_)
set_option maxHeartbeats 8000000 in
set_option maxRecDepth 100000 in
theorem firkinref09_All.calls (k : Nat) (A0 : Option Addr) (c0 : Nat) (l0 : List (S94)) (A1 : Option Addr) (c1 : Nat) (l1 : List (S94)) (r : Bool) (w : World) (hr0 : Kd.C k94 w A0 l0.length l0) (hc0 : l0.length ≤ c0) (hr1 : Kd.C k94 w A1 l1.length l1) (hc1 : l1.length ≤ c1) (h : firkinref09_All.f k l0 l1 = some r) :
    Calls Try.prog 58 #[.slice A0 l0.length c0, .slice A1 l1.length c1] w fun e w' => e = .returned (.bool r) ∧ Drawn0 w w' := by
  have hu94 := Try.underlying94
  have HR0 := Aside0.mk hr0
  have HC0 := Aside0.mk hc0
  clear hr0 hc0
  have HR1 := Aside0.mk hr1
  have HC1 := Aside0.mk hc1
  clear hr1 hc1
  have H : (if (l0.length : Int) = (l1.length : Int) then (firkinref09_All.l0 k l0 l1 0) else (some false)) = some r := h
  clear h
  by_cases c3 : (l0.length : Int) = (l1.length : Int)
  · rw [if_pos c3] at H
    have c3b0 : ((l0.length : Int) == (l1.length : Int)) = true := beq_iff_eq.mpr c3
    have c3b1 : ((l0.length : Int) != (l1.length : Int)) = false := bne_eq_false_iff_eq.mpr c3
    have c3b2 : (l0.length == l1.length) = true := by first | simpa using c3 | (simp at c3 ⊢; omega)
    clear c3
    have H' := Aside0.mk H
    clear H
    go_enter Try.func58, Try.ntmps58
    go_wp2
    repeat (go_quiet (fail); try go_wp2)
    go_loopg [5] k (fun kq v5 w' => ∃ (x5_1 : Int), v5 = .int .i64 x5_1 ∧ Aside0 (firkinref09_All.l0 kq l0 l1 x5_1 = some r) ∧ Aside0 (kq ≤ k) ∧ Drawn0 w w')
    case atStart => exact ⟨(0), (by first | rfl | (simp; done) | (simp [*]; done)), H', ⟨Nat.le_refl _⟩, by repeat (first | exact Drawn0.refl _ | apply Drawn0.step)⟩
    case round =>
      clear H'
      try clear c1
      try clear p2
      try clear c3
      try clear c3b0
      try clear c3b1
      try clear c3b2
      obtain ⟨x5_1, rfl, HA, HK1, ⟨m1, rfl⟩⟩ := hrel
      cases gk with
      | zero => exact absurd HA.out (by simp [firkinref09_All.l0])
      | succ k1 =>
        have H := HA.out
        clear HA
        simp only [firkinref09_All.l0] at H
        by_cases c4 : x5_1 < (l0.length : Int)
        · rw [if_pos c4] at H
          have c4b0 : decide (x5_1 < (l0.length : Int)) = true := decide_eq_true c4
          clear c4
          by_cases c5 : 0 ≤ x5_1
          · rw [if_pos c5] at H
            have c5b0 : decide (0 ≤ x5_1) = true := decide_eq_true c5
            clear c5
            by_cases c6 : x5_1 < (l1.length : Int)
            · rw [if_pos c6] at H
              have c6b0 : decide (x5_1 < (l1.length : Int)) = true := decide_eq_true c6
              clear c6
              by_cases c7 : (!(((rd_T94 l0 x5_1).f0) == ((rd_T94 l1 x5_1).f0)) || (!(((rd_T94 l0 x5_1).f1) == ((rd_T94 l1 x5_1).f1)) || (!((((rd_T94 l0 x5_1).f2).toList) == (((rd_T94 l1 x5_1).f2).toList))))) = true
              · rw [if_pos c7] at H
                have c7b0 : (!(((rd_T94 l0 x5_1).f0) == ((rd_T94 l1 x5_1).f0)) || (!(((rd_T94 l0 x5_1).f1) == ((rd_T94 l1 x5_1).f1)) || (!((((rd_T94 l0 x5_1).f2).toList) == (((rd_T94 l1 x5_1).f2).toList))))) = true := c7
                clear c7
                obtain rfl := Option.some.inj H
                have p357 : 0 ≤ (x5_1 : Int) := of_decide_eq_true (by first | (with_reducible assumption) | assumption)
                have q357 : x5_1 < (l0.length : Int) := of_decide_eq_true (by first | (with_reducible assumption) | assumption)
                obtain ⟨ad357, e357, hx357_0, hx357_1, hx357_2⟩ := at_T94 HR0.out x5_1 p357 q357
                cases e357
                replace p357 := eq_true p357
                replace q357 := eq_true q357
                have p358 : 0 ≤ (x5_1 : Int) := of_decide_eq_true (by first | (with_reducible assumption) | assumption)
                have q358 : x5_1 < (l1.length : Int) := of_decide_eq_true (by first | (with_reducible assumption) | assumption)
                obtain ⟨ad358, e358, hx358_0, hx358_1, hx358_2⟩ := at_T94 HR1.out x5_1 p358 q358
                cases e358
                replace p358 := eq_true p358
                replace q358 := eq_true q358
                go_wp2
                repeat (go_quiet (fail); try go_wp2)
                go_ret
                exact ⟨by first | rfl | (simp; done) | (simp [*]; done), by repeat (first | exact Drawn0.refl _ | apply Drawn0.step)⟩
              · rw [if_neg c7] at H
                have c7b0 : (!(((rd_T94 l0 x5_1).f0) == ((rd_T94 l1 x5_1).f0)) || (!(((rd_T94 l0 x5_1).f1) == ((rd_T94 l1 x5_1).f1)) || (!((((rd_T94 l0 x5_1).f2).toList) == (((rd_T94 l1 x5_1).f2).toList))))) = false := by simpa using c7
                clear c7
                have H' := Aside0.mk H
                clear H
                have p357 : 0 ≤ (x5_1 : Int) := of_decide_eq_true (by first | (with_reducible assumption) | assumption)
                have q357 : x5_1 < (l0.length : Int) := of_decide_eq_true (by first | (with_reducible assumption) | assumption)
                obtain ⟨ad357, e357, hx357_0, hx357_1, hx357_2⟩ := at_T94 HR0.out x5_1 p357 q357
                cases e357
                replace p357 := eq_true p357
                replace q357 := eq_true q357
                have p358 : 0 ≤ (x5_1 : Int) := of_decide_eq_true (by first | (with_reducible assumption) | assumption)
                have q358 : x5_1 < (l1.length : Int) := of_decide_eq_true (by first | (with_reducible assumption) | assumption)
                obtain ⟨ad358, e358, hx358_0, hx358_1, hx358_2⟩ := at_T94 HR1.out x5_1 p358 q358
                cases e358
                replace p358 := eq_true p358
                replace q358 := eq_true q358
                go_wp2
                repeat (go_quiet (fail); try go_wp2)
                go_roundg k1
                case measure => have := HK1.out; omega
                case rel => exact ⟨(wrap64 (x5_1 + 1)), (by first | rfl | (simp; done) | (simp [*]; done)), H', ⟨by have := HK1.out; omega⟩, by repeat (first | exact Drawn0.refl _ | apply Drawn0.step)⟩
            · rw [if_neg c6] at H
              exact absurd H (by simp)
          · rw [if_neg c5] at H
            exact absurd H (by simp)
        · rw [if_neg c4] at H
          have c4b0 : decide (x5_1 < (l0.length : Int)) = false := decide_eq_false c4
          clear c4
          obtain rfl := Option.some.inj H
          go_wp2
          repeat (go_quiet (fail); try go_wp2)
          go_ret
          exact ⟨by first | rfl | (simp; done) | (simp [*]; done), by repeat (first | exact Drawn0.refl _ | apply Drawn0.step)⟩
  · rw [if_neg c3] at H
    have c3b0 : ((l0.length : Int) == (l1.length : Int)) = false := beq_eq_false_iff_ne.mpr c3
    have c3b1 : ((l0.length : Int) != (l1.length : Int)) = true := bne_iff_ne.mpr c3
    have c3b2 : (l0.length == l1.length) = false := by first | simpa using c3 | (simp at c3 ⊢; omega)
    obtain rfl := Option.some.inj H
    go_enter Try.func58, Try.ntmps58
    go_wp2
    repeat (go_quiet (fail); try go_wp2)
    go_ret
    exact ⟨by first | rfl | (simp; done) | (simp [*]; done), by repeat (first | exact Drawn0.refl _ | apply Drawn0.step)⟩

/-! ### firkinref09_Rows: function 33 -/
def firkinref09_Rows.l0 : Nat → List (List (S94)) → List (List (S94)) → Int → Option (Bool)
  | 0, _, _, _ => none
  | k + 1, x0, x1, x5 => if x5 < (x0.length : Int) then (if 0 ≤ x5 then (if x5 < (x1.length : Int) then ((firkinref09_All.f k (rd_L10 x0 x5) (rd_L10 x1 x5)).bind fun t361 => (if t361 = true then (firkinref09_Rows.l0 k x0 x1 (wrap64 (x5 + 1))) else (some false))) else (none)) else (none)) else (some true)
def firkinref09_Rows.f (k : Nat) (l0 : List (List (S94))) (l1 : List (List (S94))) : Option (Bool) := if (l0.length : Int) = (l1.length : Int) then (firkinref09_Rows.l0 k l0 l1 0) else (some false)
theorem firkinref09_Rows.mono_l : ∀ k, (∀ y0 y1 y2, LeO (firkinref09_Rows.l0 k y0 y1 y2) (firkinref09_Rows.l0 (k + 1) y0 y1 y2))
  | 0 => fun _ _ _ r h => by simp [firkinref09_Rows.l0] at h
  | k + 1 => by
    have ih0 := firkinref09_Rows.mono_l k
    · intro y0 y1 y2
      unfold firkinref09_Rows.l0
      repeat' first
      | (with_reducible exact ih0 _ _ _)
      | (with_reducible exact firkinref09_All.mono _ _ _)
      | (with_reducible exact LeO.refl _)
      | (with_reducible exact LeO.none _)
      | (with_reducible refine LeO.ite ?_ ?_)
      | (with_reducible refine LeO.bind ?_ (fun _ => ?_))
      | exact ih0 _ _ _
      | exact firkinref09_All.mono _ _ _
      | exact LeO.none _
      | refine LeO.ite ?_ ?_
      | refine LeO.bind ?_ (fun _ => ?_)
theorem firkinref09_Rows.mono : ∀ a0 a1 k, LeO (firkinref09_Rows.f k a0 a1) (firkinref09_Rows.f (k + 1) a0 a1) := by
  intro a0 a1 k
  have ih0 := firkinref09_Rows.mono_l k
  unfold firkinref09_Rows.f
  repeat' first
      | (with_reducible exact ih0 _ _ _)
      | (with_reducible exact firkinref09_All.mono _ _ _)
      | (with_reducible exact LeO.refl _)
      | (with_reducible exact LeO.none _)
      | (with_reducible refine LeO.ite ?_ ?_)
      | (with_reducible refine LeO.bind ?_ (fun _ => ?_))
      | exact ih0 _ _ _
      | exact firkinref09_All.mono _ _ _
      | exact LeO.none _
      | refine LeO.ite ?_ ?_
      | refine LeO.bind ?_ (fun _ => ?_)
set_option maxHeartbeats 8000000 in
set_option maxRecDepth 100000 in
theorem firkinref09_Rows.calls (k : Nat) (A0 : Option Addr) (c0 : Nat) (l0 : List (List (S94))) (A1 : Option Addr) (c1 : Nat) (l1 : List (List (S94))) (r : Bool) (w : World) (hr0 : Kd.C (Kd.slice 94 k94) w A0 l0.length l0) (hc0 : l0.length ≤ c0) (hr1 : Kd.C (Kd.slice 94 k94) w A1 l1.length l1) (hc1 : l1.length ≤ c1) (h : firkinref09_Rows.f k l0 l1 = some r) :
    Calls Try.prog 33 #[.slice A0 l0.length c0, .slice A1 l1.length c1] w fun e w' => e = .returned (.bool r) ∧ Drawn0 w w' := by
  have HR0 := Aside0.mk hr0
  have HC0 := Aside0.mk hc0
  clear hr0 hc0
  have HR1 := Aside0.mk hr1
  have HC1 := Aside0.mk hc1
  clear hr1 hc1
  have H : (if (l0.length : Int) = (l1.length : Int) then (firkinref09_Rows.l0 k l0 l1 0) else (some false)) = some r := h
  clear h
  by_cases c3 : (l0.length : Int) = (l1.length : Int)
  · rw [if_pos c3] at H
    have c3b0 : ((l0.length : Int) == (l1.length : Int)) = true := beq_iff_eq.mpr c3
    have c3b1 : ((l0.length : Int) != (l1.length : Int)) = false := bne_eq_false_iff_eq.mpr c3
    have c3b2 : (l0.length == l1.length) = true := by first | simpa using c3 | (simp at c3 ⊢; omega)
    clear c3
    have H' := Aside0.mk H
    clear H
    go_enter Try.func33, Try.ntmps33
    go_wp2
    repeat (go_quiet (fail); try go_wp2)
    go_loopg [5] k (fun kq v5 w' => ∃ (x5_1 : Int), v5 = .int .i64 x5_1 ∧ Aside0 (firkinref09_Rows.l0 kq l0 l1 x5_1 = some r) ∧ Aside0 (kq ≤ k) ∧ Drawn0 w w')
    case atStart => exact ⟨(0), (by first | rfl | (simp; done) | (simp [*]; done)), H', ⟨Nat.le_refl _⟩, by repeat (first | exact Drawn0.refl _ | apply Drawn0.step)⟩
    case round =>
      clear H'
      try clear c1
      try clear p2
      try clear c3
      try clear c3b0
      try clear c3b1
      try clear c3b2
      obtain ⟨x5_1, rfl, HA, HK1, ⟨m1, rfl⟩⟩ := hrel
      cases gk with
      | zero => exact absurd HA.out (by simp [firkinref09_Rows.l0])
      | succ k1 =>
        have H := HA.out
        clear HA
        simp only [firkinref09_Rows.l0] at H
        by_cases c4 : x5_1 < (l0.length : Int)
        · rw [if_pos c4] at H
          have c4b0 : decide (x5_1 < (l0.length : Int)) = true := decide_eq_true c4
          clear c4
          by_cases c5 : 0 ≤ x5_1
          · rw [if_pos c5] at H
            have c5b0 : decide (0 ≤ x5_1) = true := decide_eq_true c5
            clear c5
            by_cases c6 : x5_1 < (l1.length : Int)
            · rw [if_pos c6] at H
              have c6b0 : decide (x5_1 < (l1.length : Int)) = true := decide_eq_true c6
              clear c6
              replace H := Option.bind_eq_some_iff.mp H
              obtain ⟨t361, A70, H⟩ := H
              replace H : (if t361 = true then (firkinref09_Rows.l0 k1 l0 l1 (wrap64 (x5_1 + 1))) else (some false)) = some r := H
              have A7 := Aside0.mk A70
              clear A70
              by_cases c8 : t361 = true
              · subst c8
                have H1 : (firkinref09_Rows.l0 k1 l0 l1 (wrap64 (x5_1 + 1))) = some r := by rw [if_pos rfl] at H; exact H
                clear H
                have H := H1
                clear H1
                have H' := Aside0.mk H
                clear H
                have p359 : 0 ≤ (x5_1 : Int) := of_decide_eq_true (by first | (with_reducible assumption) | assumption)
                have q359 : x5_1 < (l0.length : Int) := of_decide_eq_true (by first | (with_reducible assumption) | assumption)
                obtain ⟨ad359, A359_0, c359_0, e359, hx359_0, hl359_0, hi359_0⟩ := at_L10 HR0.out x5_1 p359 q359
                cases e359
                have HR359_0 := Aside0.mk hi359_0
                have HC359_0 := Aside0.mk hl359_0
                clear hi359_0 hl359_0
                replace p359 := eq_true p359
                replace q359 := eq_true q359
                have p360 : 0 ≤ (x5_1 : Int) := of_decide_eq_true (by first | (with_reducible assumption) | assumption)
                have q360 : x5_1 < (l1.length : Int) := of_decide_eq_true (by first | (with_reducible assumption) | assumption)
                obtain ⟨ad360, A360_0, c360_0, e360, hx360_0, hl360_0, hi360_0⟩ := at_L10 HR1.out x5_1 p360 q360
                cases e360
                have HR360_0 := Aside0.mk hi360_0
                have HC360_0 := Aside0.mk hl360_0
                clear hi360_0 hl360_0
                replace p360 := eq_true p360
                replace q360 := eq_true q360
                go_wp2_with (first | (go_at_call 58; (with_reducible refine (firkinref09_All.calls k1 _ _ (rd_L10 l0 x5_1) _ _ (rd_L10 l1 x5_1) true _ ?side1 ?side2 ?side3 ?side4 A7.out).mono ?_); (case side1 => repeat (first | exact HR359_0.out | (with_reducible refine Kd.C_alloc ?_ _) | (with_reducible refine Kd.C_drewN ?_ _) | (with_reducible refine Kd.C_drew ?_))); (case side2 => exact HC359_0.out); (case side3 => repeat (first | exact HR360_0.out | (with_reducible refine Kd.C_alloc ?_ _) | (with_reducible refine Kd.C_drewN ?_ _) | (with_reducible refine Kd.C_drew ?_))); (case side4 => exact HC360_0.out); rintro e w' ⟨rfl, ⟨nd, rfl⟩⟩; (try first | exact ⟨rfl, _, World.drewN_drewN _ _ _⟩ | exact ⟨rfl, _, Eq.trans (World.drewN_drewN _ _ _) (congrArg (World.drewN _) (Nat.add_assoc _ _ _))⟩)))
                repeat (go_quiet (first | (go_at_call 58; (with_reducible refine (firkinref09_All.calls k1 _ _ (rd_L10 l0 x5_1) _ _ (rd_L10 l1 x5_1) true _ ?side1 ?side2 ?side3 ?side4 A7.out).mono ?_); (case side1 => repeat (first | exact HR359_0.out | (with_reducible refine Kd.C_alloc ?_ _) | (with_reducible refine Kd.C_drewN ?_ _) | (with_reducible refine Kd.C_drew ?_))); (case side2 => exact HC359_0.out); (case side3 => repeat (first | exact HR360_0.out | (with_reducible refine Kd.C_alloc ?_ _) | (with_reducible refine Kd.C_drewN ?_ _) | (with_reducible refine Kd.C_drew ?_))); (case side4 => exact HC360_0.out); rintro e w' ⟨rfl, ⟨nd, rfl⟩⟩; (try first | exact ⟨rfl, _, World.drewN_drewN _ _ _⟩ | exact ⟨rfl, _, Eq.trans (World.drewN_drewN _ _ _) (congrArg (World.drewN _) (Nat.add_assoc _ _ _))⟩))); try go_wp2_with (first | (go_at_call 58; (with_reducible refine (firkinref09_All.calls k1 _ _ (rd_L10 l0 x5_1) _ _ (rd_L10 l1 x5_1) true _ ?side1 ?side2 ?side3 ?side4 A7.out).mono ?_); (case side1 => repeat (first | exact HR359_0.out | (with_reducible refine Kd.C_alloc ?_ _) | (with_reducible refine Kd.C_drewN ?_ _) | (with_reducible refine Kd.C_drew ?_))); (case side2 => exact HC359_0.out); (case side3 => repeat (first | exact HR360_0.out | (with_reducible refine Kd.C_alloc ?_ _) | (with_reducible refine Kd.C_drewN ?_ _) | (with_reducible refine Kd.C_drew ?_))); (case side4 => exact HC360_0.out); rintro e w' ⟨rfl, ⟨nd, rfl⟩⟩; (try first | exact ⟨rfl, _, World.drewN_drewN _ _ _⟩ | exact ⟨rfl, _, Eq.trans (World.drewN_drewN _ _ _) (congrArg (World.drewN _) (Nat.add_assoc _ _ _))⟩))))
                go_roundg k1
                case measure => have := HK1.out; omega
                case rel => exact ⟨(wrap64 (x5_1 + 1)), (by first | rfl | (simp; done) | (simp [*]; done)), H', ⟨by have := HK1.out; omega⟩, by repeat (first | exact Drawn0.refl _ | apply Drawn0.step)⟩
              · replace c8 := Bool.eq_false_iff.mpr c8
                subst c8
                have H1 : (some false) = some r := by rw [if_neg (show ¬ (false = true) by decide)] at H; exact H
                clear H
                have H := H1
                clear H1
                obtain rfl := Option.some.inj H
                have p359 : 0 ≤ (x5_1 : Int) := of_decide_eq_true (by first | (with_reducible assumption) | assumption)
                have q359 : x5_1 < (l0.length : Int) := of_decide_eq_true (by first | (with_reducible assumption) | assumption)
                obtain ⟨ad359, A359_0, c359_0, e359, hx359_0, hl359_0, hi359_0⟩ := at_L10 HR0.out x5_1 p359 q359
                cases e359
                have HR359_0 := Aside0.mk hi359_0
                have HC359_0 := Aside0.mk hl359_0
                clear hi359_0 hl359_0
                replace p359 := eq_true p359
                replace q359 := eq_true q359
                have p360 : 0 ≤ (x5_1 : Int) := of_decide_eq_true (by first | (with_reducible assumption) | assumption)
                have q360 : x5_1 < (l1.length : Int) := of_decide_eq_true (by first | (with_reducible assumption) | assumption)
                obtain ⟨ad360, A360_0, c360_0, e360, hx360_0, hl360_0, hi360_0⟩ := at_L10 HR1.out x5_1 p360 q360
                cases e360
                have HR360_0 := Aside0.mk hi360_0
                have HC360_0 := Aside0.mk hl360_0
                clear hi360_0 hl360_0
                replace p360 := eq_true p360
                replace q360 := eq_true q360
                go_wp2_with (first | (go_at_call 58; (with_reducible refine (firkinref09_All.calls k1 _ _ (rd_L10 l0 x5_1) _ _ (rd_L10 l1 x5_1) false _ ?side1 ?side2 ?side3 ?side4 A7.out).mono ?_); (case side1 => repeat (first | exact HR359_0.out | (with_reducible refine Kd.C_alloc ?_ _) | (with_reducible refine Kd.C_drewN ?_ _) | (with_reducible refine Kd.C_drew ?_))); (case side2 => exact HC359_0.out); (case side3 => repeat (first | exact HR360_0.out | (with_reducible refine Kd.C_alloc ?_ _) | (with_reducible refine Kd.C_drewN ?_ _) | (with_reducible refine Kd.C_drew ?_))); (case side4 => exact HC360_0.out); rintro e w' ⟨rfl, ⟨nd, rfl⟩⟩; (try first | exact ⟨rfl, _, World.drewN_drewN _ _ _⟩ | exact ⟨rfl, _, Eq.trans (World.drewN_drewN _ _ _) (congrArg (World.drewN _) (Nat.add_assoc _ _ _))⟩)))
                repeat (go_quiet (first | (go_at_call 58; (with_reducible refine (firkinref09_All.calls k1 _ _ (rd_L10 l0 x5_1) _ _ (rd_L10 l1 x5_1) false _ ?side1 ?side2 ?side3 ?side4 A7.out).mono ?_); (case side1 => repeat (first | exact HR359_0.out | (with_reducible refine Kd.C_alloc ?_ _) | (with_reducible refine Kd.C_drewN ?_ _) | (with_reducible refine Kd.C_drew ?_))); (case side2 => exact HC359_0.out); (case side3 => repeat (first | exact HR360_0.out | (with_reducible refine Kd.C_alloc ?_ _) | (with_reducible refine Kd.C_drewN ?_ _) | (with_reducible refine Kd.C_drew ?_))); (case side4 => exact HC360_0.out); rintro e w' ⟨rfl, ⟨nd, rfl⟩⟩; (try first | exact ⟨rfl, _, World.drewN_drewN _ _ _⟩ | exact ⟨rfl, _, Eq.trans (World.drewN_drewN _ _ _) (congrArg (World.drewN _) (Nat.add_assoc _ _ _))⟩))); try go_wp2_with (first | (go_at_call 58; (with_reducible refine (firkinref09_All.calls k1 _ _ (rd_L10 l0 x5_1) _ _ (rd_L10 l1 x5_1) false _ ?side1 ?side2 ?side3 ?side4 A7.out).mono ?_); (case side1 => repeat (first | exact HR359_0.out | (with_reducible refine Kd.C_alloc ?_ _) | (with_reducible refine Kd.C_drewN ?_ _) | (with_reducible refine Kd.C_drew ?_))); (case side2 => exact HC359_0.out); (case side3 => repeat (first | exact HR360_0.out | (with_reducible refine Kd.C_alloc ?_ _) | (with_reducible refine Kd.C_drewN ?_ _) | (with_reducible refine Kd.C_drew ?_))); (case side4 => exact HC360_0.out); rintro e w' ⟨rfl, ⟨nd, rfl⟩⟩; (try first | exact ⟨rfl, _, World.drewN_drewN _ _ _⟩ | exact ⟨rfl, _, Eq.trans (World.drewN_drewN _ _ _) (congrArg (World.drewN _) (Nat.add_assoc _ _ _))⟩))))
                go_ret
                exact ⟨by first | rfl | (simp; done) | (simp [*]; done), by repeat (first | exact Drawn0.refl _ | apply Drawn0.step)⟩
            · rw [if_neg c6] at H
              exact absurd H (by simp)
          · rw [if_neg c5] at H
            exact absurd H (by simp)
        · rw [if_neg c4] at H
          have c4b0 : decide (x5_1 < (l0.length : Int)) = false := decide_eq_false c4
          clear c4
          obtain rfl := Option.some.inj H
          go_wp2
          repeat (go_quiet (fail); try go_wp2)
          go_ret
          exact ⟨by first | rfl | (simp; done) | (simp [*]; done), by repeat (first | exact Drawn0.refl _ | apply Drawn0.step)⟩
  · rw [if_neg c3] at H
    have c3b0 : ((l0.length : Int) == (l1.length : Int)) = false := beq_eq_false_iff_ne.mpr c3
    have c3b1 : ((l0.length : Int) != (l1.length : Int)) = true := bne_iff_ne.mpr c3
    have c3b2 : (l0.length == l1.length) = false := by first | simpa using c3 | (simp at c3 ⊢; omega)
    obtain rfl := Option.some.inj H
    go_enter Try.func33, Try.ntmps33
    go_wp2
    repeat (go_quiet (fail); try go_wp2)
    go_ret
    exact ⟨by first | rfl | (simp; done) | (simp [*]; done), by repeat (first | exact Drawn0.refl _ | apply Drawn0.step)⟩

end Go.Proofs.Ythcmokglgepgjaa.X
/- Plain facts on layer 4 (bitv): what Pack, Unpack and their references compute. -/
namespace Go.Proofs.Ythcmokglgepgjaa.Bitv
open Go.RowKit Go.Proofs.Ythcmokglgepgjaa.X Go.Proofs.YthcmokglgepgjaaW.PrintWords Go.Proofs.YthcmokglgepgjaaW.PrintLast Go.Proofs.YthcmokglgepgjaaW.PrintMore
set_option linter.unusedVariables false

theorem w64 {x : Int} (h0 : -9223372036854775808 ≤ x) (h1 : x < 9223372036854775808) : wrap64 x = x := by unfold wrap64; omega
theorem td8 {x : Int} (h0 : 0 ≤ x) : Int.tdiv x 8 = x / 8 := Int.tdiv_eq_ediv_of_nonneg h0
theorem tm8 {x : Int} (h0 : 0 ≤ x) : Int.tmod x 8 = x % 8 := Int.tmod_eq_emod_of_nonneg h0
theorem rd_nat (xs : List Int) (q : Nat) : rd xs (q : Int) = xs.getD q 0 := rfl
theorem need_nat (n : Nat) (h : n < 9223372036854775808) : bitv_need.f (n : Int) = some (((n + 7) / 8 : Nat) : Int) := by
  unfold bitv_need.f
  by_cases h0 : n = 0
  · subst h0; rfl
  · rw [if_neg (by omega), w64 (x := (n : Int) - 1) (by omega) (by omega), td8 (by omega), w64 (x := ((n : Int) - 1) / 8) (by omega) (by omega), w64 (by omega) (by omega)]
    congr 1; omega

/-- Bytes, by their bits. -/
def BitsOf (x : List Int) (m : Nat) (p : Nat → Bool) : Prop :=
  x.length = m ∧ ∀ q, q < m → (0 ≤ x.getD q 0 ∧ x.getD q 0 < 256) ∧ ∀ j, j < 8 → (x.getD q 0).toNat.testBit j = p (8 * q + j)
theorem BitsOf.uniq {x y : List Int} {m : Nat} {p : Nat → Bool} (hx : BitsOf x m p) (hy : BitsOf y m p) : x = y := by
  apply List.ext_getElem (by rw [hx.1, hy.1])
  intro q h1 h2
  have hq : q < m := hx.1 ▸ h1
  obtain ⟨⟨a1, a2⟩, a3⟩ := hx.2 q hq
  obtain ⟨⟨b1, b2⟩, b3⟩ := hy.2 q hq
  have e : (x.getD q 0).toNat = (y.getD q 0).toNat := by
    apply Nat.eq_of_testBit_eq
    intro j
    by_cases hj : j < 8
    · rw [a3 j hj, b3 j hj]
    · have hp : (256 : Nat) ≤ 2 ^ j := by
        have : (2 : Nat) ^ 8 ≤ 2 ^ j := Nat.pow_le_pow_right (by decide) (by omega)
        simpa using this
      rw [Nat.testBit_lt_two_pow (by omega), Nat.testBit_lt_two_pow (by omega)]
  have e1 : x.getD q 0 = x[q] := by simp [List.getD, h1]
  have e2 : y.getD q 0 = y[q] := by simp [List.getD, h2]
  omega
theorem BitsOf.zero (m : Nat) : BitsOf (List.replicate m 0) m (fun _ => false) := by
  refine ⟨by simp, fun q hq => ?_⟩
  have e : (List.replicate m (0 : Int)).getD q 0 = 0 := by simp [List.getD, hq]
  rw [e]; exact ⟨by omega, fun j _ => by simp⟩
theorem BitsOf.congr {x : List Int} {m : Nat} {p p' : Nat → Bool} (h : BitsOf x m p) (hp : ∀ i, i < 8 * m → p i = p' i) : BitsOf x m p' :=
  ⟨h.1, fun q hq => ⟨(h.2 q hq).1, fun j hj => by rw [(h.2 q hq).2 j hj, hp _ (by omega)]⟩⟩
theorem BitsOf.set {x : List Int} {m : Nat} {p : Nat → Bool} (h : BitsOf x m p) (i : Nat) (hi : i / 8 < m) (v : Int) (hv0 : 0 ≤ v) (hv1 : v < 256)
    (hv : ∀ j, j < 8 → v.toNat.testBit j = ((x.getD (i / 8) 0).toNat.testBit j || decide (j = i % 8))) :
    BitsOf (x.set (i / 8) v) m (fun j => p j || decide (j = i)) := by
  refine ⟨by simp [h.1], fun q hq => ?_⟩
  by_cases e : q = i / 8
  · subst e
    have e1 : (x.set (i / 8) v).getD (i / 8) 0 = v := by simp [List.getD, h.1, hi]
    rw [e1]
    refine ⟨⟨hv0, hv1⟩, fun j hj => ?_⟩
    rw [hv j hj, (h.2 _ hq).2 j hj]
    congr 1
    apply decide_eq_decide.mpr; omega
  · have e1 : (x.set (i / 8) v).getD q 0 = x.getD q 0 := by simp [List.getD, Ne.symm e]
    rw [e1]
    refine ⟨(h.2 q hq).1, fun j hj => ?_⟩
    rw [(h.2 q hq).2 j hj]
    show p (8 * q + j) = (p (8 * q + j) || decide (8 * q + j = i))
    have : decide (8 * q + j = i) = false := by apply decide_eq_false; omega
    rw [this, Bool.or_false]
theorem shl1 (j : Nat) (hj : j < 8) : shl .u8 1 (j : Int) = ((2 ^ j : Nat) : Int) := by
  match j, hj with
  | 0, _ | 1, _ | 2, _ | 3, _ | 4, _ | 5, _ | 6, _ | 7, _ => rfl
theorem getD_take (l : List Bool) (i q : Nat) : (l.take i).getD q false = (decide (q < i) && l.getD q false) := by
  by_cases h : q < i
  · simp [List.getD, h]
  · simp [List.getD, h, List.getElem?_take]
theorem rdOf_nat (l : List Bool) (i : Nat) : rdOf false l (i : Int) = l.getD i false := rfl

/-- What Pack's loop comes to. -/
theorem pack_loop (l : List Bool) (hl : l.length < 1000000) (d : Nat) : ∀ (k i : Nat) (x : List Int), i + d = l.length → d < k →
    BitsOf x ((l.length + 7) / 8) (fun j => decide (j < i) && l.getD j false) →
    ∃ y, bitv_Pack.l0 k x l (l.length : Int) (i : Int) = some y ∧ BitsOf y ((l.length + 7) / 8) (fun j => l.getD j false) := by
  induction d with
  | zero =>
    intro k i x hd hk hx
    obtain ⟨k, rfl⟩ : ∃ m, k = m + 1 := ⟨k - 1, by omega⟩
    refine ⟨x, ?_, hx.congr fun j hj => ?_⟩
    · simp only [bitv_Pack.l0]; rw [if_neg (by omega)]
    · by_cases h : j < i
      · simp [h]
      · have : l.getD j false = false := by simp [List.getD, List.getElem?_eq_none (by omega : l.length ≤ j)]
        rw [this, Bool.and_false]
  | succ d ih =>
    intro k i x hd hk hx
    obtain ⟨k, rfl⟩ : ∃ m, k = m + 1 := ⟨k - 1, by omega⟩
    simp only [bitv_Pack.l0]
    rw [if_pos (by omega), if_pos (by omega), if_pos (by omega), rdOf_nat, w64 (x := (i : Int) + 1) (by omega) (by omega)]
    have hi : ((i : Int) + 1) = ((i + 1 : Nat) : Int) := by omega
    rw [hi]
    by_cases hb : l.getD i false = true
    · rw [if_pos hb, td8 (by omega), tm8 (by omega), w64 (by omega) (by omega)]
      have hq : ((i : Int) / 8) = ((i / 8 : Nat) : Int) := by omega
      have hm : ((i : Int) % 8) = ((i % 8 : Nat) : Int) := by omega
      rw [hq, hm, rd_nat, if_pos (by omega), if_pos (by rw [hx.1]; omega), if_pos (by omega), shl1 _ (by omega)]
      have hb8 := hx.2 (i / 8) (by omega)
      have hp2 : (2 ^ (i % 8) : Nat) < 256 := by
        have : (2 : Nat) ^ (i % 8) < 2 ^ 8 := Nat.pow_lt_pow_right (by decide) (by omega)
        simpa using this
      rw [u8_or _ _ hb8.1.1 hb8.1.2 (Int.natCast_nonneg _) (by omega)]
      refine ih k (i + 1) _ (by omega) (by omega) ?_
      rw [Int.toNat_natCast]
      have hs := hx.set i (by omega) (((x.getD (i / 8) 0).toNat ||| (2 ^ (i % 8) : Nat) : Nat) : Int) (by omega) (by
        have : (x.getD (i / 8) 0).toNat ||| (2 ^ (i % 8) : Nat) < 2 ^ 8 := Nat.or_lt_two_pow (by omega) (by omega)
        omega) (fun j hj => by
          rw [Int.toNat_natCast, Nat.testBit_or, Nat.testBit_two_pow]
          congr 1; apply decide_eq_decide.mpr; omega)
      rw [Int.toNat_natCast]
      refine hs.congr fun j _ => ?_
      by_cases e : j = i
      · subst e; rw [hb]; simp
      · have : (decide (j < i + 1)) = decide (j < i) := by apply decide_eq_decide.mpr; omega
        simp [this, e]
    · rw [if_neg hb]
      refine ih k (i + 1) x (by omega) (by omega) (hx.congr fun j _ => ?_)
      by_cases e : j = i
      · subst e; simp at hb; simp [hb]
      · have : (decide (j < i + 1)) = decide (j < i) := by apply decide_eq_decide.mpr; omega
        rw [this]
theorem pack_is (l : List Bool) (hl : l.length < 1000000) (k : Nat) (hk : l.length < k) :
    ∃ y, bitv_Pack.f k l = some y ∧ BitsOf y ((l.length + 7) / 8) (fun j => l.getD j false) := by
  unfold bitv_Pack.f
  rw [need_nat _ (by omega)]
  simp only [Option.bind_some]
  rw [if_pos (by omega), if_pos (by omega), Int.toNat_natCast]
  refine pack_loop l hl l.length k 0 _ (by omega) hk ((BitsOf.zero _).congr fun j _ => ?_)
  simp

/-- Bit i of bytes. -/
def bitAt (b : List Int) (i : Nat) : Bool := (b.getD (i / 8) 0).toNat.testBit (i % 8)
def IsBytes (b : List Int) : Prop := ∀ x ∈ b, 0 ≤ x ∧ x < 256
theorem IsBytes.get {b : List Int} (h : IsBytes b) (q : Nat) : 0 ≤ b.getD q 0 ∧ b.getD q 0 < 256 := by
  by_cases hq : q < b.length
  · have : b.getD q 0 = b[q] := by simp [List.getD, hq]
    rw [this]; exact h _ (List.getElem_mem hq)
  · have : b.getD q 0 = 0 := by simp [List.getD, List.getElem?_eq_none (by omega : b.length ≤ q)]
    rw [this]; omega
theorem IsBytes.bits {b : List Int} (h : IsBytes b) : BitsOf b b.length (bitAt b) :=
  ⟨rfl, fun q hq => ⟨h.get q, fun j hj => by unfold bitAt; rw [show (8 * q + j) / 8 = q by omega, show (8 * q + j) % 8 = j by omega]⟩⟩
theorem byte_bounds {x : Int} (h : (Lit.int .u8 x).wf = true) : 0 ≤ x ∧ x < 256 := by
  have h' : (decide ((0 : Int) ≤ x) && decide (x ≤ 255)) = true := h
  rw [Bool.and_eq_true, decide_eq_true_eq, decide_eq_true_eq] at h'
  omega
theorem wf_bytes {b : List Int} (h : ∀ x ∈ b, (Lit.int .u8 x).wf = true) : IsBytes b := by
  intro x hx
  have := h x hx
  exact byte_bounds this
theorem shr_val (x : Int) (h0 : 0 ≤ x) (j : Nat) (hj : j < 8) : shr .u8 x (j : Int) = ((x.toNat / 2 ^ j : Nat) : Int) := by
  unfold shr
  rw [show min (j : Int).toNat (IntKind.u8).bits = j from by simp [IntKind.bits]; omega]
  obtain ⟨n, rfl⟩ := Int.eq_ofNat_of_zero_le h0
  simp
theorem bit_and (x : Int) (h0 : 0 ≤ x) (h1 : x < 256) (j : Nat) (hj : j < 8) : Go.bits .and .u8 (shr .u8 x (j : Int)) 1 = if x.toNat.testBit j then 1 else 0 := by
  have hb : x.toNat / 2 ^ j < 256 := Nat.lt_of_le_of_lt (Nat.div_le_self _ _) (by omega)
  rw [shr_val x h0 j hj, Nat.testBit_eq_decide_div_mod_eq]
  generalize x.toNat / 2 ^ j = y at hb ⊢
  rw [u8_and _ _ (by omega) (by omega) (by omega) (by omega), Int.toNat_natCast, show (1 : Int).toNat = 1 from rfl, Nat.and_one_is_mod]
  by_cases h : y % 2 = 1
  · simp [h]
  · have : y % 2 = 0 := by omega
    simp [this]
theorem bit_mod (x : Int) (h0 : 0 ≤ x) (h1 : x < 256) (j : Nat) (hj : j < 8) : Int.tmod (shr .u8 x (j : Int)) 2 = if x.toNat.testBit j then 1 else 0 := by
  rw [shr_val x h0 j hj, Int.tmod_eq_emod_of_nonneg (Int.natCast_nonneg _), Nat.testBit_eq_decide_div_mod_eq]
  generalize x.toNat / 2 ^ j = y
  by_cases h : y % 2 = 1
  · simp [h]; omega
  · have : y % 2 = 0 := by omega
    simp [this]; omega

def bad (b : List Int) (n : Nat) : Bool := (List.range (8 * b.length)).any (fun j => decide (n ≤ j) && bitAt b j)
def unS (b : List Int) (n : Nat) : List Bool × Bool := if bad b n then ([], false) else ((List.range n).map (bitAt b), true)
def part (b : List Int) (n i : Nat) : List Bool := (List.range n).map (fun j => decide (j < i) && bitAt b j)
theorem part_zero (b : List Int) (n : Nat) : part b n 0 = List.replicate n false := by
  apply List.ext_getElem (by simp [part]); intro j h1 h2; simp [part]
theorem part_set (b : List Int) (n i : Nat) (hi : i < n) : (part b n i).set i (bitAt b i) = part b n (i + 1) := by
  apply List.ext_getElem (by simp [part]); intro j h1 h2
  simp only [part, List.getElem_set, List.getElem_map, List.getElem_range]
  by_cases e : i = j
  · subst e; simp
  · have : decide (j < i + 1) = decide (j < i) := by apply decide_eq_decide.mpr; omega
    simp [e, this]
theorem part_over (b : List Int) (n i : Nat) (hi : n ≤ i) : part b n (i + 1) = part b n i := by
  apply List.ext_getElem (by simp [part]); intro j h1 h2
  simp only [part, List.getElem_map, List.getElem_range]
  have hj : j < n := by simpa [part] using h1
  have : decide (j < i + 1) = decide (j < i) := by apply decide_eq_decide.mpr; omega
  rw [this]
theorem part_end (b : List Int) (n i : Nat) (hi : n ≤ i) : part b n i = (List.range n).map (bitAt b) := by
  apply List.ext_getElem (by simp [part]); intro j h1 h2
  simp only [part, List.getElem_map, List.getElem_range]
  have hj : j < n := by simpa [part] using h1
  rw [decide_eq_true (by omega : j < i), Bool.true_and]
theorem bad_true {b : List Int} {n i : Nat} (hi : i < 8 * b.length) (hn : n ≤ i) (h : bitAt b i = true) : bad b n = true := by
  unfold bad; rw [List.any_eq_true]; exact ⟨i, by simpa using hi, by simp [hn, h]⟩
theorem bad_false {b : List Int} {n : Nat} (h : ∀ j, j < 8 * b.length → n ≤ j → bitAt b j = false) : bad b n = false := by
  unfold bad; rw [List.any_eq_false]; intro j hj
  have hj' : j < 8 * b.length := by simpa using hj
  by_cases e : n ≤ j
  · simp [h j hj' e]
  · simp [e]

theorem unpack_loop (b : List Int) (hb : IsBytes b) (n : Nat) (hl : b.length < 1000000) (hn : n ≤ 8 * b.length) (d : Nat) : ∀ (k i : Nat), i + d = 8 * b.length → d < k →
    (∀ j, j < i → n ≤ j → bitAt b j = false) →
    bitv_Unpack.l0 k b (n : Int) (part b n i) ((8 * b.length : Nat) : Int) (i : Int) = some (unS b n) := by
  induction d with
  | zero =>
    intro k i hd hk hz
    obtain ⟨k, rfl⟩ : ∃ m, k = m + 1 := ⟨k - 1, by omega⟩
    simp only [bitv_Unpack.l0]
    rw [if_neg (by omega), part_end b n i (by omega)]
    unfold unS
    rw [bad_false (fun j hj hnj => hz j (by omega) hnj)]; rfl
  | succ d ih =>
    intro k i hd hk hz
    obtain ⟨k, rfl⟩ : ∃ m, k = m + 1 := ⟨k - 1, by omega⟩
    simp only [bitv_Unpack.l0]
    rw [if_pos (by omega), td8 (by omega), tm8 (by omega), w64 (x := (i : Int) / 8) (by omega) (by omega), w64 (x := (i : Int) + 1) (by omega) (by omega)]
    rw [show ((i : Int) / 8) = ((i / 8 : Nat) : Int) by omega, show ((i : Int) % 8) = ((i % 8 : Nat) : Int) by omega, show ((i : Int) + 1) = ((i + 1 : Nat) : Int) by omega]
    rw [if_pos (by omega), if_pos (by omega), if_pos (by omega), rd_nat, bit_and _ (hb.get _).1 (hb.get _).2 _ (by omega)]
    have he : (b.getD (i / 8) 0).toNat.testBit (i % 8) = bitAt b i := rfl
    rw [he]
    by_cases hin : i < n
    · have hlen : (part b n i).length = n := by simp [part]
      rw [if_pos (by omega), if_pos (by omega), if_pos (by omega), Int.toNat_natCast]
      have : (((if bitAt b i = true then (1 : Int) else 0)) == 1) = bitAt b i := by cases bitAt b i <;> rfl
      rw [this, part_set b n i hin]
      exact ih k (i + 1) (by omega) (by omega) (fun j hj hnj => hz j (by omega) hnj)
    · rw [if_neg (by omega)]
      by_cases hbit : bitAt b i = true
      · rw [if_pos hbit, if_pos rfl]; unfold unS; rw [bad_true (by omega) (by omega) hbit]; rfl
      · rw [if_neg hbit, if_neg (by decide), ← part_over b n i (by omega)]
        refine ih k (i + 1) (by omega) (by omega) (fun j hj hnj => ?_)
        by_cases e : j = i
        · subst e; simpa using hbit
        · exact hz j (by omega) hnj
theorem runpack_loop (b : List Int) (hb : IsBytes b) (n : Nat) (hl : b.length < 1000000) (hn : n ≤ 8 * b.length) (d : Nat) : ∀ (k i : Nat), i + d = 8 * b.length → 2 * d < k →
    (∀ j, j < i → n ≤ j → bitAt b j = false) →
    firkinref04_Unpack.l0 k b (n : Int) (part b n i) (i : Int) = some (unS b n) := by
  induction d with
  | zero =>
    intro k i hd hk hz
    obtain ⟨k, rfl⟩ : ∃ m, k = m + 1 := ⟨k - 1, by omega⟩
    simp only [firkinref04_Unpack.l0]
    rw [w64 (x := 8 * (b.length : Int)) (by omega) (by omega), if_neg (by omega), part_end b n i (by omega)]
    unfold unS
    rw [bad_false (fun j hj hnj => hz j (by omega) hnj)]; rfl
  | succ d ih =>
    intro k i hd hk hz
    obtain ⟨k, rfl⟩ : ∃ m, k = m + 2 := ⟨k - 2, by omega⟩
    simp only [firkinref04_Unpack.l0]
    rw [w64 (x := 8 * (b.length : Int)) (by omega) (by omega), if_pos (by omega), td8 (by omega), tm8 (by omega), w64 (x := (i : Int) / 8) (by omega) (by omega)]
    rw [show ((i : Int) / 8) = ((i / 8 : Nat) : Int) by omega, show ((i : Int) % 8) = ((i % 8 : Nat) : Int) by omega]
    rw [if_pos (by omega), if_pos (by omega), if_pos (by omega), rd_nat, bit_mod _ (hb.get _).1 (hb.get _).2 _ (by omega)]
    have he : (b.getD (i / 8) 0).toNat.testBit (i % 8) = bitAt b i := rfl
    rw [he]
    have hbb : (((if bitAt b i = true then (1 : Int) else 0)) == 1) = bitAt b i := by cases bitAt b i <;> rfl
    rw [hbb]
    have h1 : ((i : Int) + 1) = ((i + 1 : Nat) : Int) := by omega
    by_cases hin : i < n
    · have hlen : (part b n i).length = n := by simp [part]
      rw [if_neg (by omega)]
      simp only [firkinref04_Unpack.j2]
      rw [if_neg (by decide), if_pos (by omega), if_pos (by omega), if_pos (by omega), Int.toNat_natCast, w64 (x := (i : Int) + 1) (by omega) (by omega), h1, part_set b n i hin]
      exact ih k (i + 1) (by omega) (by omega) (fun j hj hnj => hz j (by omega) hnj)
    · rw [if_pos (by omega)]
      simp only [firkinref04_Unpack.j2]
      by_cases hbit : bitAt b i = true
      · rw [if_pos hbit]; unfold unS; rw [bad_true (by omega) (by omega) hbit]; rfl
      · rw [if_neg hbit, if_neg (by omega), w64 (x := (i : Int) + 1) (by omega) (by omega), h1, ← part_over b n i (by omega)]
        refine ih k (i + 1) (by omega) (by omega) (fun j hj hnj => ?_)
        by_cases e : j = i
        · subst e; simpa using hbit
        · exact hz j (by omega) hnj
/-- What Unpack answers, for any number. -/
def unZ (b : List Int) (n : Int) : List Bool × Bool := if 0 ≤ n ∧ (n.toNat + 7) / 8 = b.length then unS b n.toNat else ([], false)
theorem unpack_is (b : List Int) (hb : IsBytes b) (hl : b.length < 1000000) (n : Int) (hn : -9223372036854775808 ≤ n ∧ n < 9223372036854775808) (k : Nat) (hk : 8 * b.length + 2 < k) :
    bitv_Unpack.f k b n = some (unZ b n) := by
  obtain ⟨k, rfl⟩ : ∃ m, k = m + 1 := ⟨k - 1, by omega⟩
  unfold bitv_Unpack.f unZ
  by_cases h0 : n < 0
  · rw [if_pos h0, if_neg (by omega)]; simp only [bitv_Unpack.j0]; rfl
  · obtain ⟨m, rfl⟩ := Int.eq_ofNat_of_zero_le (by omega : 0 ≤ n)
    rw [if_neg h0, need_nat m (by omega)]
    simp only [Option.bind_some, Int.toNat_natCast, bitv_Unpack.j0]
    by_cases h1 : (m + 7) / 8 = b.length
    · have : ((((m + 7) / 8 : Nat) : Int) != (b.length : Int)) = false := by rw [h1]; simp
      rw [this, if_neg (by decide), if_pos (by omega), if_pos (by omega), if_pos ⟨by omega, h1⟩, w64 (x := 8 * (b.length : Int)) (by omega) (by omega), ← part_zero b m]
      rw [show (8 * (b.length : Int)) = ((8 * b.length : Nat) : Int) by omega]
      exact unpack_loop b hb m hl (by omega) (8 * b.length) k 0 (by omega) (by omega) (fun j hj => absurd hj (by omega))
    · have : ((((m + 7) / 8 : Nat) : Int) != (b.length : Int)) = true := by rw [bne_iff_ne]; omega
      rw [this, if_pos rfl, if_neg (fun h => h1 h.2)]
theorem runpack_is (b : List Int) (hb : IsBytes b) (hl : b.length < 1000000) (n : Int) (hn : -9223372036854775808 ≤ n ∧ n < 9223372036854775808) (k : Nat) (hk : 16 * b.length + 2 < k) :
    firkinref04_Unpack.f k b n = some (unZ b n) := by
  obtain ⟨k, rfl⟩ : ∃ m, k = m + 1 := ⟨k - 1, by omega⟩
  have jt : firkinref04_Unpack.j0 (k + 1) b n true = some ([], false) := by simp only [firkinref04_Unpack.j0, if_true]
  unfold firkinref04_Unpack.f unZ
  rw [w64 (x := 8 * (b.length : Int)) (by omega) (by omega)]
  by_cases h0 : n < 0
  · rw [if_pos h0, jt, if_neg (by omega)]
  · obtain ⟨m, rfl⟩ := Int.eq_ofNat_of_zero_le (by omega : 0 ≤ n)
    rw [if_neg h0, td8 (by omega), w64 (x := (m : Int) / 8) (by omega) (by omega), Int.toNat_natCast]
    by_cases h1 : (m + 7) / 8 = b.length
    · rw [if_neg (by omega), if_neg (by omega), w64 (by omega) (by omega), if_pos ⟨by omega, h1⟩]
      rw [show (decide ((8 * (b.length : Int)) - (m : Int) > 7)) = false by apply decide_eq_false; omega]
      simp only [firkinref04_Unpack.j0]
      rw [if_neg (by decide), if_pos (by omega), if_pos (by omega), Int.toNat_natCast, ← part_zero b m]
      exact runpack_loop b hb m hl (by omega) (8 * b.length) k 0 (by omega) (by omega) (fun j hj => absurd hj (by omega))
    · rw [if_neg (show ¬ (0 ≤ (m : Int) ∧ (m + 7) / 8 = b.length) from fun h => h1 h.2)]
      by_cases h2 : (m : Int) / 8 > (b.length : Int)
      · rw [if_pos h2, jt]
      · rw [if_neg h2]
        by_cases h3 : (m : Int) > 8 * (b.length : Int)
        · rw [if_pos h3, jt]
        · rw [if_neg h3, w64 (by omega) (by omega), show (decide ((8 * (b.length : Int)) - (m : Int) > 7)) = true by apply decide_eq_true; omega, jt]
theorem same_bools (l : List Bool) (hl : l.length < 100000000) (d : Nat) : ∀ (k i : Nat), i + d = l.length → d < k → firkinref04_Same.l0 k l l (i : Int) = some true := by
  induction d with
  | zero =>
    intro k i hd hk
    obtain ⟨k, rfl⟩ : ∃ m, k = m + 1 := ⟨k - 1, by omega⟩
    simp only [firkinref04_Same.l0]; rw [if_neg (by omega)]
  | succ d ih =>
    intro k i hd hk
    obtain ⟨k, rfl⟩ : ∃ m, k = m + 1 := ⟨k - 1, by omega⟩
    simp only [firkinref04_Same.l0]
    rw [if_pos (by omega), if_pos (by omega), if_pos (by omega), if_neg (by simp), w64 (by omega) (by omega), show ((i : Int) + 1) = ((i + 1 : Nat) : Int) by omega]
    exact ih k (i + 1) (by omega) (by omega)
theorem same_refl (l : List Bool) (hl : l.length < 100000000) (k : Nat) (hk : l.length < k) : firkinref04_Same.f k l l = some true := by
  unfold firkinref04_Same.f; rw [if_pos rfl]; exact same_bools l hl l.length k 0 (by omega) hk
theorem same_bytes (l : List Int) : firkinref01_Same.f l l = some true := by unfold firkinref01_Same.f; simp
theorem rpack_l1 (l : List Bool) (hl : l.length < 1000000) (d : Nat) : ∀ (k i : Nat) (x : List Int), i + d = l.length → d < k →
    BitsOf x ((l.length + 7) / 8) (fun j => decide (j < i) && l.getD j false) →
    ∃ y, firkinref04_Pack.l1 k l x (i : Int) = some y ∧ BitsOf y ((l.length + 7) / 8) (fun j => l.getD j false) := by
  induction d with
  | zero =>
    intro k i x hd hk hx
    obtain ⟨k, rfl⟩ : ∃ m, k = m + 1 := ⟨k - 1, by omega⟩
    refine ⟨x, ?_, hx.congr fun j hj => ?_⟩
    · simp only [firkinref04_Pack.l1]; rw [if_neg (by omega)]
    · by_cases h : j < i
      · simp [h]
      · have : l.getD j false = false := by simp [List.getD, List.getElem?_eq_none (by omega : l.length ≤ j)]
        rw [this, Bool.and_false]
  | succ d ih =>
    intro k i x hd hk hx
    obtain ⟨k, rfl⟩ : ∃ m, k = m + 1 := ⟨k - 1, by omega⟩
    simp only [firkinref04_Pack.l1]
    rw [if_pos (by omega), if_pos (by omega), rdOf_nat, w64 (x := (i : Int) + 1) (by omega) (by omega)]
    have hi : ((i : Int) + 1) = ((i + 1 : Nat) : Int) := by omega
    rw [hi]
    by_cases hb : l.getD i false = true
    · rw [if_pos hb, td8 (by omega), tm8 (by omega), w64 (by omega) (by omega)]
      have hq : ((i : Int) / 8) = ((i / 8 : Nat) : Int) := by omega
      have hm : ((i : Int) % 8) = ((i % 8 : Nat) : Int) := by omega
      rw [hq, hm, rd_nat, if_pos (by omega), if_pos (by rw [hx.1]; omega), if_pos (by omega), shl1 _ (by omega)]
      have hb8 := hx.2 (i / 8) (by omega)
      have hlow : (x.getD (i / 8) 0).toNat < 2 ^ (i % 8) := by
        apply Nat.lt_pow_two_of_testBit
        intro j hj
        by_cases hj8 : j < 8
        · rw [hb8.2 j hj8]
          show (decide (8 * (i / 8) + j < i) && l.getD (8 * (i / 8) + j) false) = false
          have : decide (8 * (i / 8) + j < i) = false := by apply decide_eq_false; omega
          rw [this, Bool.false_and]
        · have hp : (256 : Nat) ≤ 2 ^ j := by
            have : (2 : Nat) ^ 8 ≤ 2 ^ j := Nat.pow_le_pow_right (by decide) (by omega)
            simpa using this
          exact Nat.testBit_lt_two_pow (by omega)
      have hp2 : (2 ^ (i % 8) : Nat) ≤ 128 := by
        have : (2 : Nat) ^ (i % 8) ≤ 2 ^ 7 := Nat.pow_le_pow_right (by decide) (by omega)
        simpa using this
      have hsum : (x.getD (i / 8) 0 + ((2 ^ (i % 8) : Nat) : Int)) % 256 = (((x.getD (i / 8) 0).toNat ||| (2 ^ (i % 8) : Nat) : Nat) : Int) := by
        have h1 := Nat.two_pow_add_eq_or_of_lt hlow 1
        rw [Nat.mul_one] at h1
        rw [Nat.or_comm, ← h1]
        omega
      rw [hsum]
      refine ih k (i + 1) _ (by omega) (by omega) ?_
      rw [Int.toNat_natCast]
      have hs := hx.set i (by omega) (((x.getD (i / 8) 0).toNat ||| (2 ^ (i % 8) : Nat) : Nat) : Int) (by omega) (by
        have : (x.getD (i / 8) 0).toNat ||| (2 ^ (i % 8) : Nat) < 2 ^ 8 := Nat.or_lt_two_pow (by omega) (by omega)
        omega) (fun j hj => by
          rw [Int.toNat_natCast, Nat.testBit_or, Nat.testBit_two_pow]
          congr 1; apply decide_eq_decide.mpr; omega)
      refine hs.congr fun j _ => ?_
      by_cases e : j = i
      · subst e; rw [hb]; simp
      · have : (decide (j < i + 1)) = decide (j < i) := by apply decide_eq_decide.mpr; omega
        simp [this, e]
    · rw [if_neg hb]
      refine ih k (i + 1) x (by omega) (by omega) (hx.congr fun j _ => ?_)
      by_cases e : j = i
      · subst e; simp at hb; simp [hb]
      · have : (decide (j < i + 1)) = decide (j < i) := by apply decide_eq_decide.mpr; omega
        rw [this]
theorem rpack_l0 (l : List Bool) (hl : l.length < 1000000) (d : Nat) : ∀ (k i : Nat), i + d = (l.length + 7) / 8 → d + l.length + 1 < k →
    ∃ y, firkinref04_Pack.l0 k l (List.replicate i 0) = some y ∧ BitsOf y ((l.length + 7) / 8) (fun j => l.getD j false) := by
  induction d with
  | zero =>
    intro k i hd hk
    obtain ⟨k, rfl⟩ : ∃ m, k = m + 1 := ⟨k - 1, by omega⟩
    simp only [firkinref04_Pack.l0, List.length_replicate]
    rw [w64 (by omega) (by omega), if_neg (by omega)]
    have hi : i = (l.length + 7) / 8 := by omega
    subst hi
    exact rpack_l1 l hl l.length k 0 _ (by omega) (by omega) ((BitsOf.zero _).congr fun j _ => by simp)
  | succ d ih =>
    intro k i hd hk
    obtain ⟨k, rfl⟩ : ∃ m, k = m + 1 := ⟨k - 1, by omega⟩
    simp only [firkinref04_Pack.l0, List.length_replicate]
    rw [w64 (by omega) (by omega), if_pos (by omega), if_pos (by omega)]
    have : List.replicate i (0 : Int) ++ [0] = List.replicate (i + 1) 0 := by rw [← List.replicate_succ']
    rw [this]
    exact ih k (i + 1) (by omega) (by omega)
theorem rpack_is (l : List Bool) (hl : l.length < 1000000) (k : Nat) (hk : 3 * l.length + 10 < k) :
    ∃ y, firkinref04_Pack.f k l = some y ∧ BitsOf y ((l.length + 7) / 8) (fun j => l.getD j false) := by
  unfold firkinref04_Pack.f
  exact rpack_l0 l hl ((l.length + 7) / 8) k 0 (by omega) (by omega)
theorem packed_bytes {y : List Int} {m : Nat} {p : Nat → Bool} (hb : BitsOf y m p) : IsBytes y := by
  intro x hx
  obtain ⟨q, hq, rfl⟩ := List.getElem_of_mem hx
  have h1 := (hb.2 q (hb.1 ▸ hq)).1
  have h2 : y.getD q 0 = y[q] := by simp [List.getD, hq]
  rw [h2] at h1; exact h1
theorem unZ_pack {y : List Int} (l : List Bool) (hb : BitsOf y ((l.length + 7) / 8) (fun j => l.getD j false)) : unZ y (l.length : Int) = (l, true) := by
  unfold unZ
  rw [if_pos ⟨by omega, by rw [Int.toNat_natCast, hb.1]⟩, Int.toNat_natCast]
  have hnb : bad y l.length = false := bad_false fun j hj hnj => by
    have h1 := (hb.2 (j / 8) (by rw [hb.1] at hj; omega)).2 (j % 8) (by omega)
    rw [show 8 * (j / 8) + j % 8 = j by omega] at h1
    unfold bitAt; rw [h1]; simp [List.getD, List.getElem?_eq_none hnj]
  unfold unS; rw [hnb]
  have : (List.range l.length).map (bitAt y) = l := by
    apply List.ext_getElem (by simp)
    intro j h1 h2
    have h3 := (hb.2 (j / 8) (by omega)).2 (j % 8) (by omega)
    rw [show 8 * (j / 8) + j % 8 = j by omega] at h3
    simp only [List.getElem_map, List.getElem_range]
    unfold bitAt; rw [h3]; simp [List.getD, h2]
  rw [this]; rfl
end Go.Proofs.Ythcmokglgepgjaa.Bitv
/- Plain facts on layer 2 (crc): the sum, bit by bit, and that four bits at once by the table are the same. -/
namespace Go.Proofs.Ythcmokglgepgjaa.Crc
open Go.RowKit Go.Proofs.Ythcmokglgepgjaa.X Go.Proofs.YthcmokglgepgjaaW.PrintWords Go.Proofs.YthcmokglgepgjaaW.PrintLast Go.Proofs.YthcmokglgepgjaaW.PrintMore
set_option linter.unusedVariables false
theorem w64 {x : Int} (h0 : -9223372036854775808 ≤ x) (h1 : x < 9223372036854775808) : wrap64 x = x := by unfold wrap64; omega
/-- One bit's step. -/
def st (s : Nat) : Nat := (s / 2) ^^^ (if s % 2 = 1 then 2197175160 else 0)
def st4 (s : Nat) : Nat := st (st (st (st s)))
def st8 (s : Nat) : Nat := st4 (st4 s)
theorem st_lt {s : Nat} (h : s < 4294967296) : st s < 4294967296 := by
  unfold st
  have : s / 2 ^^^ (if s % 2 = 1 then 2197175160 else 0) < 2 ^ 32 := Nat.xor_lt_two_pow (by omega) (by split <;> omega)
  simpa using this
theorem st4_lt {s : Nat} (h : s < 4294967296) : st4 s < 4294967296 := st_lt (st_lt (st_lt (st_lt h)))
theorem st_xor (a b : Nat) : st (a ^^^ b) = st a ^^^ st b := by
  unfold st
  rw [Nat.xor_div_two]
  have h := @Nat.xor_mod_two_eq_one a b
  by_cases ha : a % 2 = 1 <;> by_cases hb : b % 2 = 1
  · have : ¬ (a ^^^ b) % 2 = 1 := by rw [h]; simp [ha, hb]
    rw [if_neg this, if_pos ha, if_pos hb, Nat.xor_zero, Nat.xor_assoc, Nat.xor_comm 2197175160 _, Nat.xor_assoc, Nat.xor_self, Nat.xor_zero]
  · have : (a ^^^ b) % 2 = 1 := by rw [h]; simp [ha, hb]
    rw [if_pos this, if_pos ha, if_neg hb, Nat.xor_zero, Nat.xor_assoc, Nat.xor_assoc, Nat.xor_comm (b / 2)]
  · have : (a ^^^ b) % 2 = 1 := by rw [h]; simp [ha, hb]
    rw [if_pos this, if_neg ha, if_pos hb, Nat.xor_zero, Nat.xor_assoc]
  · have : ¬ (a ^^^ b) % 2 = 1 := by rw [h]; simp [ha, hb]
    rw [if_neg this, if_neg ha, if_neg hb, Nat.xor_zero, Nat.xor_zero, Nat.xor_zero]
theorem st4_xor (a b : Nat) : st4 (a ^^^ b) = st4 a ^^^ st4 b := by unfold st4; rw [st_xor, st_xor, st_xor, st_xor]
theorem split16 (x : Nat) : x = (16 * (x / 16)) ^^^ (x % 16) := by
  apply Nat.eq_of_testBit_eq
  intro i
  have e1 : 16 * (x / 16) = (x >>> 4) <<< 4 := by rw [Nat.shiftLeft_eq, Nat.shiftRight_eq_div_pow]; omega
  have e2 : x % 16 = x % 2 ^ 4 := rfl
  rw [Nat.testBit_xor, e1, e2, Nat.testBit_shiftLeft, Nat.testBit_mod_two_pow, Nat.testBit_shiftRight]
  by_cases hi : 4 ≤ i
  · have h1 : 4 + (i - 4) = i := by omega
    have h2 : decide (i < 4) = false := by simp; omega
    simp [hi, h1, h2]
  · have h2 : decide (i < 4) = true := by simp; omega
    simp [hi, h2]
theorem st4_16 (h : Nat) : st4 (16 * h) = h := by
  have s1 : st (16 * h) = 8 * h := by unfold st; rw [if_neg (by omega), Nat.xor_zero]; omega
  have s2 : st (8 * h) = 4 * h := by unfold st; rw [if_neg (by omega), Nat.xor_zero]; omega
  have s3 : st (4 * h) = 2 * h := by unfold st; rw [if_neg (by omega), Nat.xor_zero]; omega
  have s4 : st (2 * h) = h := by unfold st; rw [if_neg (by omega), Nat.xor_zero]; omega
  unfold st4; rw [s1, s2, s3, s4]
theorem tab_is : ∀ j, j < 16 → halfTab.getD j 0 = ((st4 j : Nat) : Int)
  | 0, _ | 1, _ | 2, _ | 3, _ | 4, _ | 5, _ | 6, _ | 7, _ | 8, _ | 9, _ | 10, _ | 11, _ | 12, _ | 13, _ | 14, _ | 15, _ => by decide +kernel
  | n + 16, h => absurd h (by omega)
theorem half_is (x : Nat) (h : x < 4294967296) : crc_half.f (x : Int) = some ((st4 x : Nat) : Int) := by
  unfold crc_half.f
  rw [if_pos ⟨by omega, by omega⟩, show ((x : Int) % 16).toNat = x % 16 by omega, tab_is _ (Nat.mod_lt _ (by decide)), show ((x : Int) / 16) = ((x / 16 : Nat) : Int) by omega]
  have hl : st4 (x % 16) < 4294967296 := st4_lt (by omega)
  rw [u32_xor _ _ (by omega) (by omega) (by omega) (by omega), Int.toNat_natCast, Int.toNat_natCast]
  have hx : st4 x = x / 16 ^^^ st4 (x % 16) := by
    conv => lhs; rw [split16 x]
    rw [st4_xor, st4_16]
  rw [hx]
/-- The state behind bytes. -/
def run (s : Nat) (l : List Int) : Nat := l.foldl (fun s c => st8 (s ^^^ c.toNat)) s
def IsBytes (b : List Int) : Prop := ∀ x ∈ b, 0 ≤ x ∧ x < 256
theorem byte_bounds {x : Int} (h : (Lit.int .u8 x).wf = true) : 0 ≤ x ∧ x < 256 := by
  have h' : (decide ((0 : Int) ≤ x) && decide (x ≤ 255)) = true := h
  rw [Bool.and_eq_true, decide_eq_true_eq, decide_eq_true_eq] at h'
  omega
theorem u32_bounds {x : Int} (h : (Lit.int .u32 x).wf = true) : 0 ≤ x ∧ x < 4294967296 := by
  have h' : (decide ((0 : Int) ≤ x) && decide (x ≤ 4294967295)) = true := h
  rw [Bool.and_eq_true, decide_eq_true_eq, decide_eq_true_eq] at h'
  omega
theorem xor_lt {a b : Nat} (ha : a < 4294967296) (hb : b < 4294967296) : a ^^^ b < 4294967296 := by
  have : a ^^^ b < 2 ^ 32 := Nat.xor_lt_two_pow (by omega) (by omega)
  simpa using this
theorem run_cons (s : Nat) (c : Int) (l : List Int) : run s (c :: l) = run (st8 (s ^^^ c.toNat)) l := by unfold run; rw [List.foldl_cons]
theorem st8_eq (s : Nat) : st8 s = st4 (st4 s) := rfl
theorem run_lt {l : List Int} (hb : IsBytes l) : ∀ {s : Nat}, s < 4294967296 → run s l < 4294967296 := by
  induction l with
  | nil => intro s h; exact h
  | cons c l ih =>
    intro s h
    have hc := hb c (List.mem_cons_self ..)
    rw [run_cons]
    exact ih (fun x hx => hb x (List.mem_cons_of_mem _ hx)) (st4_lt (st4_lt (xor_lt h (by omega))))
/-- A sum behind bytes, as the document says it. -/
def more (sum : Nat) (l : List Int) : Nat := 4294967295 ^^^ run (4294967295 ^^^ sum) l
theorem rd_nat (xs : List Int) (q : Nat) : rd xs (q : Int) = xs.getD q 0 := rfl
theorem drop_get {l : List Int} {i : Nat} (h : i < l.length) : l.drop i = l.getD i 0 :: l.drop (i + 1) := by
  rw [List.drop_eq_getElem_cons h]; simp [List.getD, h]
theorem get_byte {l : List Int} (hb : IsBytes l) {i : Nat} (h : i < l.length) : 0 ≤ l.getD i 0 ∧ l.getD i 0 < 256 := by
  have : l.getD i 0 = l[i] := by simp [List.getD, h]
  rw [this]; exact hb _ (List.getElem_mem h)
theorem more_loop (l : List Int) (hb : IsBytes l) (hl : l.length < 1000000000) (d : Nat) : ∀ (k i s : Nat), i + d = l.length → d < k → s < 4294967296 →
    crc_More.l0 k (s : Int) l (l.length : Int) (i : Int) = some ((4294967295 ^^^ run s (l.drop i) : Nat) : Int) := by
  induction d with
  | zero =>
    intro k i s hd hk hs
    obtain ⟨k, rfl⟩ : ∃ m, k = m + 1 := ⟨k - 1, by omega⟩
    simp only [crc_More.l0]
    rw [if_neg (by omega), u32_xor _ _ (by omega) (by omega) (by omega) (by omega), List.drop_eq_nil_of_le (by omega), Int.toNat_natCast, show (4294967295 : Int).toNat = 4294967295 by decide]
    unfold run; rw [List.foldl_nil]
  | succ d ih =>
    intro k i s hd hk hs
    obtain ⟨k, rfl⟩ : ∃ m, k = m + 1 := ⟨k - 1, by omega⟩
    have hi : i < l.length := by omega
    have hc := get_byte hb hi
    simp only [crc_More.l0]
    rw [if_pos (by omega), if_pos (by omega), if_pos (by omega), rd_nat, show l.getD i 0 % 4294967296 = l.getD i 0 by omega, u32_xor _ _ (by omega) (by omega) (by omega) (by omega), Int.toNat_natCast]
    have hx := xor_lt hs (show (l.getD i 0).toNat < 4294967296 by omega)
    rw [half_is _ hx, Option.bind_some, half_is _ (st4_lt hx), Option.bind_some]
    rw [w64 (by omega) (by omega), show ((i : Int) + 1) = ((i + 1 : Nat) : Int) by omega, ih k (i + 1) _ (by omega) (by omega) (st4_lt (st4_lt hx)), drop_get hi]
    rw [run_cons, st8_eq]
theorem more_is (l : List Int) (hb : IsBytes l) (hl : l.length < 1000000000) (s : Nat) (hs : s < 4294967296) (k : Nat) (hk : l.length < k) : crc_More.f k (s : Int) l = some ((more s l : Nat) : Int) := by
  unfold crc_More.f
  rw [u32_xor _ _ (by omega) (by omega) (by omega) (by omega), Int.toNat_natCast, show (4294967295 : Int).toNat = 4294967295 by decide]
  have := more_loop l hb hl l.length k 0 _ (by omega) hk (xor_lt (show 4294967295 < 4294967296 by decide) hs)
  rw [List.drop_zero] at this
  exact this
theorem of_loop (ls : List (List Int)) (hb : ∀ l ∈ ls, IsBytes l ∧ l.length < 1000000000) (hl : ls.length < 1000000000) (K : Nat) (hK : ∀ l ∈ ls, l.length < K) (d : Nat) : ∀ (k i s : Nat), i + d = ls.length → d + K < k → s < 4294967296 →
    crc_Of.l0 k (s : Int) ls (ls.length : Int) (i : Int) = some (((ls.drop i).foldl more s : Nat) : Int) := by
  induction d with
  | zero =>
    intro k i s hd hk hs
    obtain ⟨k, rfl⟩ : ∃ m, k = m + 1 := ⟨k - 1, by omega⟩
    simp only [crc_Of.l0]
    rw [if_neg (by omega), List.drop_eq_nil_of_le (by omega)]
    rfl
  | succ d ih =>
    intro k i s hd hk hs
    obtain ⟨k, rfl⟩ : ∃ m, k = m + 1 := ⟨k - 1, by omega⟩
    have hi : i < ls.length := by omega
    have hm : ls[i] ∈ ls := List.getElem_mem hi
    simp only [crc_Of.l0]
    rw [if_pos (by omega), if_pos (by omega), if_pos (by omega)]
    have hg : ∀ z : List Int, List.getD ls (i : Int).toNat z = ls[i] := fun z => by rw [Int.toNat_natCast]; simp [List.getD, hi]
    have hg2 : rd_L4 ls (i : Int) = ls[i] := hg _
    rw [hg2, more_is _ (hb _ hm).1 (hb _ hm).2 s hs k (by have := hK _ hm; omega)]
    simp only [Option.bind_some]
    have hlt : more s ls[i] < 4294967296 := xor_lt (by decide) (run_lt (hb _ hm).1 (xor_lt (by decide) hs))
    rw [w64 (by omega) (by omega), show ((i : Int) + 1) = ((i + 1 : Nat) : Int) by omega, ih k (i + 1) _ (by omega) (by omega) hlt, List.drop_eq_getElem_cons hi]
    rfl
theorem of_is (ls : List (List Int)) (hb : ∀ l ∈ ls, IsBytes l ∧ l.length < 1000000000) (hl : ls.length < 1000000000) (K : Nat) (hK : ∀ l ∈ ls, l.length < K) (k : Nat) (hk : ls.length + K < k) :
    crc_Of.f k ls = some ((ls.foldl more 0 : Nat) : Int) := by
  unfold crc_Of.f
  have := of_loop ls hb hl K hK ls.length k 0 0 (by omega) (by omega) (by decide)
  rw [List.drop_zero] at this
  exact this
/-- Parted bytes' sums go on from each other. -/
theorem xx (a b : Nat) : a ^^^ (a ^^^ b) = b := by rw [← Nat.xor_assoc, Nat.xor_self, Nat.zero_xor]
theorem more_append (s : Nat) (l m : List Int) : more s (l ++ m) = more (more s l) m := by
  unfold more run; rw [List.foldl_append, xx]
theorem more_flat (ls : List (List Int)) : ∀ s, ls.foldl more s = more s ls.flatten := by
  induction ls with
  | nil => intro s; show s = _; unfold more run; simp [xx]
  | cons l ls ih => intro s; rw [List.foldl_cons, ih, List.flatten_cons, more_append]
/-- The reference's loops. -/
theorem tmod2 (s : Nat) : Int.tmod (s : Int) 2 = ((s % 2 : Nat) : Int) := by rw [Int.tmod_eq_emod_of_nonneg (by omega)]; omega
theorem tdiv2 (s : Nat) : Int.tdiv (s : Int) 2 = ((s / 2 : Nat) : Int) := by rw [Int.tdiv_eq_ediv_of_nonneg (by omega)]; omega
theorem bit_step (k : Nat) (l : List Int) (i : Int) (s : Nat) (hs : s < 4294967296) (j : Nat) (hj : j < 8) : firkinref02_More.l1 (k + 1) l (s : Int) i (j : Int) = firkinref02_More.l1 k l ((st s : Nat) : Int) i ((j + 1 : Nat) : Int) := by
  conv => lhs; simp only [firkinref02_More.l1]
  rw [if_pos (by omega), tmod2, tdiv2, show (((s / 2 : Nat) : Int) % 4294967296) = ((s / 2 : Nat) : Int) by omega, w64 (by omega) (by omega), show ((j : Int) + 1) = ((j + 1 : Nat) : Int) by omega]
  unfold st
  by_cases h : s % 2 = 1
  · rw [if_pos (by omega), if_pos h, u32_xor _ _ (by omega) (by omega) (by omega) (by omega)]; rfl
  · rw [if_neg (by omega), if_neg h, Nat.xor_zero]
theorem byte_step (k : Nat) (l : List Int) (i : Int) (s : Nat) (hs : s < 4294967296) : firkinref02_More.l1 (k + 9) l (s : Int) i 0 = firkinref02_More.l0 k l ((st8 s : Nat) : Int) (wrap64 (i + 1)) := by
  have e0 : ((0 : Nat) : Int) = 0 := rfl
  rw [← e0]
  show _ = firkinref02_More.l0 k l ((st4 (st4 s) : Nat) : Int) (wrap64 (i + 1))
  rw [bit_step (k + 8) l i s hs 0 (by decide), bit_step (k + 7) l i _ (st_lt hs) 1 (by decide), bit_step (k + 6) l i _ (st_lt (st_lt hs)) 2 (by decide), bit_step (k + 5) l i _ (st_lt (st_lt (st_lt hs))) 3 (by decide)]
  have h4 : st (st (st (st s))) = st4 s := rfl
  rw [h4]
  have hs' := st4_lt hs
  generalize st4 s = t at *
  rw [bit_step (k + 4) l i t hs' 4 (by decide), bit_step (k + 3) l i _ (st_lt hs') 5 (by decide), bit_step (k + 2) l i _ (st_lt (st_lt hs')) 6 (by decide), bit_step (k + 1) l i _ (st_lt (st_lt (st_lt hs'))) 7 (by decide)]
  have h5 : st (st (st (st t))) = st4 t := rfl
  rw [h5]
  simp only [firkinref02_More.l1]
  rw [if_neg (by decide)]
theorem ref_loop (l : List Int) (hb : IsBytes l) (hl : l.length < 1000000000) (d : Nat) : ∀ (k i s : Nat), i + d = l.length → 10 * d < k → s < 4294967296 →
    firkinref02_More.l0 k l (s : Int) (i : Int) = some ((4294967295 ^^^ run s (l.drop i) : Nat) : Int) := by
  induction d with
  | zero =>
    intro k i s hd hk hs
    obtain ⟨k, rfl⟩ : ∃ m, k = m + 1 := ⟨k - 1, by omega⟩
    simp only [firkinref02_More.l0]
    rw [if_neg (by omega), u32_xor _ _ (by omega) (by omega) (by omega) (by omega), List.drop_eq_nil_of_le (by omega), Int.toNat_natCast, show (4294967295 : Int).toNat = 4294967295 by decide, Nat.xor_comm]
    unfold run; rw [List.foldl_nil]
  | succ d ih =>
    intro k i s hd hk hs
    obtain ⟨k, rfl⟩ : ∃ m, k = m + 10 := ⟨k - 10, by omega⟩
    have hi : i < l.length := by omega
    have hc := get_byte hb hi
    have hx := xor_lt hs (show (l.getD i 0).toNat < 4294967296 by omega)
    rw [show k + 10 = (k + 9) + 1 from rfl]
    rw [firkinref02_More.l0]
    rw [if_pos (by omega), if_pos (by omega), rd_nat, show l.getD i 0 % 4294967296 = l.getD i 0 by omega, u32_xor _ _ (by omega) (by omega) (by omega) (by omega), Int.toNat_natCast, byte_step _ _ _ _ hx]
    rw [w64 (by omega) (by omega), show ((i : Int) + 1) = ((i + 1 : Nat) : Int) by omega, ih k (i + 1) (st8 _) (by omega) (by omega) (st4_lt (st4_lt hx)), drop_get hi]
    rw [run_cons]
theorem ref_is (l : List Int) (hb : IsBytes l) (hl : l.length < 1000000000) (s : Nat) (hs : s < 4294967296) (k : Nat) (hk : 10 * l.length < k) : firkinref02_More.f k (s : Int) l = some ((more s l : Nat) : Int) := by
  unfold firkinref02_More.f
  rw [u32_xor _ _ (by omega) (by omega) (by omega) (by omega), Int.toNat_natCast, show (4294967295 : Int).toNat = 4294967295 by decide]
  have := ref_loop l hb hl l.length k 0 _ (by omega) (by omega) (xor_lt hs (show 4294967295 < 4294967296 by decide))
  rw [List.drop_zero] at this
  rw [show ((0 : Nat) : Int) = 0 from rfl] at this
  rw [this]; unfold more; rw [Nat.xor_comm s]
end Go.Proofs.Ythcmokglgepgjaa.Crc
/- A number's bytes, plain law: the code's and the document's are the same. -/
namespace Go.Proofs.Ythcmokglgepgjaa.Enc
open Go.RowKit Go.Proofs.Ythcmokglgepgjaa.X Go.Proofs.Ythcmokglgepgjaa.Dec Go.Proofs.YthcmokglgepgjaaW.PrintWords Go.Proofs.YthcmokglgepgjaaW.PrintLast Go.Proofs.YthcmokglgepgjaaW.PrintMore
set_option linter.unusedVariables false
theorem num_loop (n G : Nat) (hG : 1 ≤ G) (hG2 : G ≤ 10) (d : Nat) : ∀ (k i : Nat), i + d = G → d < k →
    vint_Num.l0 k (n : Int) (G : Int) (laid n G i) (G : Int) (i : Int) = some (encL n G) := by
  induction d with
  | zero =>
    intro k i hd hk
    obtain ⟨k, rfl⟩ : ∃ m, k = m + 1 := ⟨k - 1, by omega⟩
    obtain rfl : i = G := by omega
    rw [vint_Num.l0, if_neg (by omega), w64 (by omega) (by omega), if_pos (by omega), if_pos (by rw [laid_length]; omega)]
    rw [show ((i : Int) - 1) = ((i - 1 : Nat) : Int) by omega, rd_nat, Int.toNat_natCast]
    have hg : (laid n i i).getD (i - 1) 0 = ((n / 2 ^ (7 * (i - 1)) % 128 + 128 : Nat) : Int) := by
      simp only [laid, List.getD]
      rw [List.getElem?_map, List.getElem?_range (by omega)]
      simp; omega
    rw [hg, last_seven _ (Nat.mod_lt _ (by decide)), laid_end n i hG]
  | succ d ih =>
    intro k i hd hk
    obtain ⟨k, rfl⟩ : ∃ m, k = m + 1 := ⟨k - 1, by omega⟩
    rw [vint_Num.l0, if_pos (by omega), w64 (x := 7 * (i : Int)) (by omega) (by omega), if_pos (by omega), if_pos (by omega), if_pos (by rw [laid_length]; omega)]
    rw [show (7 * (i : Int)) = ((7 * i : Nat) : Int) by omega, shr_nat n i (by omega), seven, Int.toNat_natCast, laid_set n G i (by omega), w64 (by omega) (by omega), show ((i : Int) + 1) = ((i + 1 : Nat) : Int) by omega]
    exact ih k (i + 1) (by omega) (by omega)
theorem num_is (n : Nat) (h : n < 18446744073709551616) (k : Nat) (hk : 10 < k) : vint_Num.f k (n : Int) = some (enc n) := by
  have hl := len_le n h
  have hg := grp_le (n := n) h
  unfold vint_Num.f bits_Len64.f
  rw [if_pos ⟨by omega, by omega⟩, Option.bind_some, Int.toNat_natCast]
  have e : mx 1 (wrap64 (Int.tdiv (wrap64 ((wrap64 (((Lib.bitLen n : Nat) : Int) + 7)) - 1)) 7)) = ((grp n : Nat) : Int) := by
    rw [w64 (x := ((Lib.bitLen n : Nat) : Int) + 7) (by omega) (by omega), w64 (x := ((Lib.bitLen n : Nat) : Int) + 7 - 1) (by omega) (by omega), Int.tdiv_eq_ediv_of_nonneg (by omega), w64 (by omega) (by omega)]
    unfold mx grp
    split <;> omega
  rw [e]
  rw [if_pos (by omega), Int.toNat_natCast, if_pos (by omega), Option.bind_some, List.length_replicate, ← laid_zero n]
  have := num_loop n (grp n) (grp_has h).1 hg (grp n) k 0 (by omega) (by omega)
  exact this
theorem rnum_loop (n G : Nat) (hn : Has n G) (hlt : n < 18446744073709551616) (hG : G ≤ 10) (d : Nat) : ∀ (k i : Nat) (acc : List Int), i + d = G → 1 ≤ d → d < k → acc = (encL n G).take i →
    firkinref01_Num.l0 k ((n / 2 ^ (7 * i) : Nat) : Int) acc = some (encL n G) := by
  induction d with
  | zero => intro k i acc hd h1; omega
  | succ d ih =>
    intro k i acc hd _ hk hacc
    obtain ⟨k, rfl⟩ : ∃ m, k = m + 1 := ⟨k - 1, by omega⟩
    have hq : n / 2 ^ (7 * i) < 18446744073709551616 := Nat.lt_of_le_of_lt (Nat.div_le_self _ _) hlt
    have hlen : acc.length ≤ 10 := by rw [hacc, List.length_take, encL_length]; omega
    have hget : (encL n G)[i]? = some ((encByte n G i : Nat) : Int) := by
      rw [encL, List.getElem?_map, List.getElem?_range (by omega)]; rfl
    have hsnoc : (encL n G).take i ++ [((encByte n G i : Nat) : Int)] = (encL n G).take (i + 1) := by
      have hi : i < (encL n G).length := by rw [encL_length]; omega
      rw [List.take_succ_eq_append_getElem hi]
      congr 1
      rw [List.getElem?_eq_getElem hi] at hget
      rw [Option.some.inj hget]
    have hpow : 2 ^ (7 * (i + 1)) = 2 ^ (7 * i) * 128 := by rw [show 7 * (i + 1) = 7 * i + 7 by omega, Nat.pow_add]
    rw [firkinref01_Num.l0]
    by_cases hd0 : d = 0
    · have hi : i + 1 = G := by omega
      have hsm : n / 2 ^ (7 * i) < 128 := by
        have := hn.2.1
        rw [← hi, hpow] at this
        exact Nat.div_lt_of_lt_mul this
      rw [if_neg (by omega), if_pos (by omega), hacc]
      have he : encByte n G i = n / 2 ^ (7 * i) := by unfold encByte; rw [if_neg (by omega), Nat.mod_eq_of_lt hsm, Nat.add_zero]
      rw [show (((n / 2 ^ (7 * i) : Nat) : Int) % 256) = ((n / 2 ^ (7 * i) : Nat) : Int) by omega, ← he, hsnoc, List.take_of_length_le (by rw [encL_length]; omega)]
    · have hbig : 128 ≤ n / 2 ^ (7 * i) := by
        have h1 := hn.2.2 (by omega)
        have h2 : 2 ^ (7 * (i + 1)) ≤ 2 ^ (7 * (G - 1)) := Nat.pow_le_pow_right (by decide) (by omega)
        rw [hpow] at h2
        rw [Nat.le_div_iff_mul_le (Nat.two_pow_pos _), Nat.mul_comm]
        omega
      have he : encByte n G i = n / 2 ^ (7 * i) % 128 + 128 := by unfold encByte; rw [if_pos (by omega)]
      have hdd : n / 2 ^ (7 * i) / 128 = n / 2 ^ (7 * (i + 1)) := by rw [Nat.div_div_eq_div_mul, hpow]
      rw [if_pos (by omega), if_pos (by omega), Int.tdiv_eq_ediv_of_nonneg (by omega), Int.tmod_eq_emod_of_nonneg (by omega)]
      rw [IntKind.wrap_u64, IntKind.wrap_u64]
      rw [show ((((n / 2 ^ (7 * i) : Nat) : Int) / 128) % 18446744073709551616) = ((n / 2 ^ (7 * i) / 128 : Nat) : Int) by omega, hdd]
      rw [show (((((n / 2 ^ (7 * i) : Nat) : Int) % 128 + 128) % 18446744073709551616) % 256) = ((n / 2 ^ (7 * i) % 128 + 128 : Nat) : Int) by omega, ← he]
      exact ih k (i + 1) _ (by omega) (by omega) (by omega) (by rw [hacc, hsnoc])
theorem rnum_is (n : Nat) (h : n < 18446744073709551616) (k : Nat) (hk : 11 < k) : firkinref01_Num.f k (n : Int) = some (enc n) := by
  unfold firkinref01_Num.f
  have hg := grp_le (n := n) h
  have := rnum_loop n (grp n) (grp_has h) h hg (grp n) k 0 [] (by omega) (grp_has h).1 (by omega) (by simp)
  rw [Nat.mul_zero, Nat.pow_zero, Nat.div_one] at this
  exact this
end Go.Proofs.Ythcmokglgepgjaa.Enc
/- What is read of a source, plain law: numbers, numbers below another one, and bytes; the code's source and the document's read the same. -/
namespace Go.Proofs.Ythcmokglgepgjaa.Read
open Go Go.RowKit Go.Proofs.Ythcmokglgepgjaa.X Go.Proofs.Ythcmokglgepgjaa.Dec Go.Proofs.Ythcmokglgepgjaa.Enc Go.Proofs.Ythcmokglgepgjaa.Round Go.Proofs.YthcmokglgepgjaaW.PrintWords Go.Proofs.YthcmokglgepgjaaW.PrintLast Go.Proofs.YthcmokglgepgjaaW.PrintMore
set_option linter.unusedVariables false
/-- A source as it can be: of one that failed nothing is left. -/
def GoodS (l : List Int) (bad : Bool) : Prop := Fit l ∧ (bad = true → l = [])
theorem GoodS.nil (b : Bool) : GoodS [] b := ⟨Fit.nil, fun _ => rfl⟩
theorem GoodS.of {l : List Int} (h : Fit l) : GoodS l false := ⟨h, fun h => by cases h⟩
theorem GoodS.drop {l : List Int} {b : Bool} (h : GoodS l b) (k : Nat) : GoodS (l.drop k) b := ⟨h.1.drop k, fun e => by rw [h.2 e]; exact List.drop_nil⟩
def gNum (l : List Int) (bad : Bool) : Int × List Int × Bool :=
  if bad = true ∨ szS 0 l = 0 then (0, [], true) else (((valS 0 (l.take (szS 0 l)) : Nat) : Int), l.drop (szS 0 l), false)
theorem gNum_good {l : List Int} {b : Bool} (h : GoodS l b) : GoodS (gNum l b).2.1 (gNum l b).2.2 := by
  unfold gNum; split
  · exact GoodS.nil _
  · exact GoodS.of (h.1.drop _)
theorem gNum_len (l : List Int) (b : Bool) : (gNum l b).2.1.length ≤ l.length := by
  unfold gNum; split <;> simp
theorem gNum_range {l : List Int} {b : Bool} (h : GoodS l b) : 0 ≤ (gNum l b).1 ∧ (gNum l b).1 < 18446744073709551616 := by
  unfold gNum; split
  · simp
  · have := val_lt h.1.1 (Nat.le_refl (szS 0 l))
    show 0 ≤ ((_ : Nat) : Int) ∧ ((_ : Nat) : Int) < _
    omega
theorem num_g {l : List Int} {b : Bool} (h : GoodS l b) : vint_Source_Num.f l b = some (gNum l b) := by
  unfold vint_Source_Num.f numS gNum
  rw [if_pos h.1]
  cases b with
  | true => rw [if_pos rfl, if_pos (.inl rfl), h.2 rfl]
  | false =>
    rw [if_neg (by decide)]
    by_cases hz : szS 0 l = 0
    · rw [if_pos hz, if_pos (.inr hz)]
    · rw [if_neg hz, if_neg (by simp [hz])]
theorem rnum_g {l : List Int} {b : Bool} (h : GoodS l b) : firkinref01_S_Num.f l b = some (gNum l b) := by
  unfold firkinref01_S_Num.f rnumS gNum
  rw [if_pos h.1]
  cases b with
  | true => obtain rfl := h.2 rfl; rfl
  | false =>
    by_cases hz : szS 0 l = 0
    · rw [if_pos hz, if_pos (.inr hz)]
    · rw [if_neg hz, if_neg (by simp [hz])]
def gBelow (l : List Int) (bad : Bool) (n : Int) : Int × List Int × Bool :=
  if (gNum l bad).2.2 = true ∨ n ≤ 0 ∨ n ≤ (gNum l bad).1 then (0, [], true) else gNum l bad
theorem gBelow_good {l : List Int} {b : Bool} (h : GoodS l b) (n : Int) : GoodS (gBelow l b n).2.1 (gBelow l b n).2.2 := by
  unfold gBelow; split
  · exact GoodS.nil _
  · exact gNum_good h
theorem gBelow_len (l : List Int) (b : Bool) (n : Int) : (gBelow l b n).2.1.length ≤ l.length := by
  unfold gBelow; split
  · simp
  · exact gNum_len l b
theorem gBelow_range {l : List Int} {b : Bool} (h : GoodS l b) (n : Int) : 0 ≤ (gBelow l b n).1 ∧ ((gBelow l b n).1 < n ∨ (gBelow l b n).1 = 0) := by
  unfold gBelow; split
  · simp
  · have := gNum_range h; omega
theorem wrap_u64_of {n : Int} (h0 : 0 ≤ n) (h1 : n < 18446744073709551616) : IntKind.u64.wrap n = n := by rw [IntKind.wrap_u64]; omega
theorem below_g {l : List Int} {b : Bool} (h : GoodS l b) (n : Int) (hn : n < 9223372036854775808) : vint_Source_Below.f l b n = some (gBelow l b n) := by
  unfold vint_Source_Below.f vint_Source_Ok.f vint_Source_Fail.f
  rw [num_g h, Option.bind_some]
  obtain ⟨h0, h1⟩ := gNum_range h
  unfold gBelow
  generalize gNum l b = g at h0 h1 ⊢
  obtain ⟨x, l', b'⟩ := g
  simp only [Option.bind_some] at h0 h1 ⊢
  cases b' with
  | true => simp
  | false =>
    by_cases hn0 : n > 0
    · rw [wrap_u64_of (by omega) (by omega)]
      by_cases hx : x < n
      · have hw : wrap64 x = x := w64 (by omega) (by omega)
        have : ¬ n ≤ 0 := by omega
        simp [hn0, hx, hw, this]
      · have : n ≤ x := by omega
        simp [hn0, hx, this]
    · have : n ≤ 0 := by omega
      simp [hn0, this]
theorem rbelow_g {l : List Int} {b : Bool} (h : GoodS l b) (n : Int) (hn : n < 9223372036854775808) : firkinref01_S_Below.f l b n = some (gBelow l b n) := by
  unfold firkinref01_S_Below.f firkinref01_S_Fail.f
  rw [rnum_g h, Option.bind_some]
  obtain ⟨h0, h1⟩ := gNum_range h
  unfold gBelow
  generalize gNum l b = g at h0 h1 ⊢
  obtain ⟨x, l', b'⟩ := g
  simp only [Option.bind_some] at h0 h1 ⊢
  cases b' with
  | true => simp
  | false =>
    by_cases hn0 : n < 1
    · have : n ≤ 0 := by omega
      simp [hn0, this]
    · have hn2 : ¬ n ≤ 0 := by omega
      rw [wrap_u64_of (by omega) (by omega)]
      by_cases hx : x ≥ n
      · have : n ≤ x := by omega
        simp [hn0, hn2, this]
      · have hw : wrap64 x = x := w64 (by omega) (by omega)
        have : ¬ n ≤ x := by omega
        simp [hn0, hn2, hw, this]
def gTake (l : List Int) (bad : Bool) (n : Int) : List Int × List Int × Bool :=
  if bad = true ∨ n < 0 ∨ (l.length : Int) < n then ([], [], true) else (l.take n.toNat, l.drop n.toNat, false)
theorem gTake_good {l : List Int} {b : Bool} (h : GoodS l b) (n : Int) : GoodS (gTake l b n).2.1 (gTake l b n).2.2 := by
  unfold gTake; split
  · exact GoodS.nil _
  · exact GoodS.of (h.1.drop _)
theorem gTake_len (l : List Int) (b : Bool) (n : Int) : (gTake l b n).2.1.length ≤ l.length := by unfold gTake; split <;> simp
theorem gTake_bytes {l : List Int} {b : Bool} (h : GoodS l b) (n : Int) : IsBytes (gTake l b n).1 := by
  unfold gTake; split
  · intro x hx; simp at hx
  · exact h.1.1.take _
theorem take_g {l : List Int} {b : Bool} (h : GoodS l b) (n : Int) : vint_Source_Take.f l b n = some (gTake l b n) := by
  unfold vint_Source_Take.f; rw [if_pos h.1.2]; rfl
theorem rtake_g {l : List Int} {b : Bool} (h : GoodS l b) (n : Int) : firkinref01_S_Take.f l b n = some (gTake l b n) := by
  unfold firkinref01_S_Take.f; rw [if_pos h.1.2]; rfl
end Go.Proofs.Ythcmokglgepgjaa.Read
/- What was written is read again, plain law: numbers and bytes. -/
namespace Go.Proofs.Ythcmokglgepgjaa.Read
open Go Go.RowKit Go.Proofs.Ythcmokglgepgjaa.X Go.Proofs.Ythcmokglgepgjaa.Dec Go.Proofs.Ythcmokglgepgjaa.Enc Go.Proofs.Ythcmokglgepgjaa.Round Go.Proofs.YthcmokglgepgjaaW.PrintWords Go.Proofs.YthcmokglgepgjaaW.PrintLast Go.Proofs.YthcmokglgepgjaaW.PrintMore
set_option linter.unusedVariables false
theorem gNum_enc {n : Nat} (h : n < 18446744073709551616) (rest : List Int) : gNum (enc n ++ rest) false = ((n : Int), rest, false) := by
  have h1 := num_enc h rest
  unfold numS at h1
  rw [if_neg (by decide)] at h1
  unfold gNum
  by_cases hz : szS 0 (enc n ++ rest) = 0
  · rw [if_pos hz] at h1; simp at h1
  · rw [if_neg hz] at h1
    rw [if_neg (by simp [hz])]
    exact h1
theorem gBelow_enc {n : Nat} {m : Int} (h : (n : Int) < m) (hm : m < 9223372036854775808) (rest : List Int) : gBelow (enc n ++ rest) false m = ((n : Int), rest, false) := by
  unfold gBelow
  rw [gNum_enc (by omega)]
  rw [if_neg]
  simp only [not_or]
  exact ⟨by decide, by omega, by omega⟩
theorem gTake_app (l rest : List Int) : gTake (l ++ rest) false (l.length : Int) = (l, rest, false) := by
  unfold gTake
  rw [if_neg]
  · simp
  · simp only [not_or]
    exact ⟨by decide, by omega, by rw [List.length_append]; omega⟩
end Go.Proofs.Ythcmokglgepgjaa.Read
/- How much is left of a source, plain law. -/
namespace Go.Proofs.Ythcmokglgepgjaa.Read
open Go Go.RowKit Go.Proofs.Ythcmokglgepgjaa.X Go.Proofs.Ythcmokglgepgjaa.Dec Go.Proofs.Ythcmokglgepgjaa.Enc Go.Proofs.Ythcmokglgepgjaa.Round Go.Proofs.YthcmokglgepgjaaW.PrintWords Go.Proofs.YthcmokglgepgjaaW.PrintLast Go.Proofs.YthcmokglgepgjaaW.PrintMore
set_option linter.unusedVariables false
theorem left_g {l : List Int} {b : Bool} (h : GoodS l b) : vint_Source_Left.f l b = some ((l.length : Int), l, b) := by
  unfold vint_Source_Left.f vint_Source_Ok.f
  cases b with
  | true => rw [h.2 rfl]; rfl
  | false => rfl
end Go.Proofs.Ythcmokglgepgjaa.Read
/- Frames, plain law: the code's and the document's are the same, and what is put is got. -/
namespace Go.Proofs.Ythcmokglgepgjaa.Frame
open Go Go.RowKit Go.Proofs.Ythcmokglgepgjaa.X Go.Proofs.Ythcmokglgepgjaa.Dec Go.Proofs.Ythcmokglgepgjaa.Enc Go.Proofs.Ythcmokglgepgjaa.Read Go.Proofs.YthcmokglgepgjaaW.PrintWords Go.Proofs.YthcmokglgepgjaaW.PrintLast Go.Proofs.YthcmokglgepgjaaW.PrintMore
set_option linter.unusedVariables false
/-- A sum's bytes, the lowest first. -/
def sumB (n : Nat) : List Int := [(n : Int) % 256, (n : Int) / 256 % 256, (n : Int) / 65536 % 256, (n : Int) / 16777216 % 256]
theorem sumB_bytes (n : Nat) : IsBytes (sumB n) := by
  intro x hx
  simp only [sumB, List.mem_cons, List.not_mem_nil, or_false] at hx
  rcases hx with rfl | rfl | rfl | rfl <;> omega
theorem sumB_inj {m n : Nat} (hm : m < 4294967296) (hn : n < 4294967296) (h : sumB m = sumB n) : m = n := by
  simp only [sumB, List.cons.injEq] at h
  omega
/-- The sum of bytes. -/
def sum (l : List Int) : Nat := Crc.more 0 l
theorem sum_lt {l : List Int} (hb : IsBytes l) : sum l < 4294967296 := Crc.xor_lt (by decide) (Crc.run_lt hb (Crc.xor_lt (by decide) (by decide)))
def frameL (l : List Int) : List Int := enc l.length ++ sumB (sum l) ++ l
theorem frameL_bytes {l : List Int} (hb : IsBytes l) : IsBytes (frameL l) := by
  intro x hx
  rcases List.mem_append.1 hx with hx | hx
  · rcases List.mem_append.1 hx with hx | hx
    · exact enc_bytes _ x hx
    · exact sumB_bytes _ x hx
  · exact hb x hx
theorem enc_len (n : Nat) (h : n < 18446744073709551616) : (enc n).length ≤ 10 := by
  unfold enc; rw [encL_length]; exact grp_le h
theorem frameL_len (l : List Int) (h : l.length < 1000000000) : (frameL l).length ≤ l.length + 14 := by
  unfold frameL; rw [List.length_append, List.length_append]; have := enc_len l.length (by omega); simp [sumB]; omega
theorem crc_one {l : List Int} (hb : IsBytes l) (hl : l.length < 1000000000) (k : Nat) (hk : l.length + 2 < k) : crc_Of.f k [l] = some ((sum l : Nat) : Int) := by
  have := Crc.of_is [l] (by intro m hm; obtain rfl := List.mem_singleton.mp hm; exact ⟨hb, hl⟩) (by simp) (l.length + 1) (by intro m hm; obtain rfl := List.mem_singleton.mp hm; omega) k (by simp; omega)
  simpa [sum] using this
theorem sumOf_is {l : List Int} (hb : IsBytes l) (hl : l.length < 1000000000) (k : Nat) (hk : l.length + 2 < k) : frame_sumOf.f k l = some (sumB (sum l)) := by
  unfold frame_sumOf.f
  rw [crc_one hb hl k hk]
  rfl
theorem put_is {l : List Int} (hb : IsBytes l) (hl : l.length < 1000000000) (k : Nat) (hk : l.length + 20 < k) : frame_Put.f k l = some (frameL l) := by
  have he := enc_len l.length (by omega)
  unfold frame_Put.f
  rw [wrap_u64_of (by omega) (by omega), num_is l.length (by omega) k (by omega), Option.bind_some, sumOf_is hb hl k (by omega), Option.bind_some]
  rw [if_pos (by simp [sumB]; omega), Option.bind_some, if_pos (by rw [List.length_append]; simp [sumB]; omega)]
  rfl
theorem rof_is {l : List Int} (hb : IsBytes l) (hl : l.length < 1000000000) (k : Nat) (hk : 10 * l.length < k) : firkinref02_Of.f k l = some ((sum l : Nat) : Int) := by
  unfold firkinref02_Of.f
  have := Crc.ref_is l hb hl 0 (by decide) k hk
  rw [show ((0 : Nat) : Int) = 0 from rfl] at this
  rw [this]; rfl
theorem rput_is {l : List Int} (hb : IsBytes l) (hl : l.length < 1000000000) (k : Nat) (hk : 10 * l.length + 20 < k) : firkinref03_Put.f k l = some (frameL l) := by
  have he := enc_len l.length (by omega)
  have hs := sum_lt hb
  unfold firkinref03_Put.f
  rw [rof_is hb hl k (by omega), Option.bind_some, wrap_u64_of (by omega) (by omega), rnum_is l.length (by omega) k (by omega), Option.bind_some, Option.bind_some]
  have e : ([((sum l : Nat) : Int) % 256, ((Int.tdiv ((sum l : Nat) : Int) 256) % 4294967296) % 256, ((Int.tdiv ((sum l : Nat) : Int) 65536) % 4294967296) % 256, ((Int.tdiv ((sum l : Nat) : Int) 16777216) % 4294967296) % 256] : List Int) = sumB (sum l) := by
    rw [Int.tdiv_eq_ediv_of_nonneg (by omega), Int.tdiv_eq_ediv_of_nonneg (by omega), Int.tdiv_eq_ediv_of_nonneg (by omega)]
    unfold sumB
    congr 1
    congr 1
    · omega
    congr 1
    · omega
    congr 1
    omega
  rw [e]
  rw [if_pos (by simp [sumB]; omega), Option.bind_some, if_pos (by rw [List.length_append]; simp [sumB]; omega)]
  rfl
/-- What bytes begin with: the frame's bytes, and how many bytes it has. -/
def gGet (l : List Int) : List Int × Int × Int :=
  let a := gBelow l false 1048577
  let s := gTake a.2.1 a.2.2 4
  let x := gTake s.2.1 s.2.2 a.1
  if x.2.2 = true then ([], 0, 2) else if s.1 = sumB (sum x.1) then (x.1, (l.length : Int) - (x.2.1.length : Int), 0) else ([], 0, 13)
theorem strEq {a b : List Int} (ha : IsBytes a) (hb : IsBytes b) : ((strOfNums a).toList = (strOfNums b).toList) ↔ a = b := by
  rw [Go.Lib.strOfNums_toList, Go.Lib.strOfNums_toList]
  constructor
  · intro h
    have hl : a.length = b.length := by have := congrArg List.length h; simpa [Go.Lib.bytesOf] using this
    apply List.ext_getElem hl
    intro i h1 h2
    have h3 := congrArg (fun l : List UInt8 => l[i]?) h
    simp only [Go.Lib.bytesOf, List.getElem?_map, List.getElem?_eq_getElem h1, List.getElem?_eq_getElem h2, Option.map_some, Option.some.injEq] at h3
    have ha1 := ha _ (List.getElem_mem h1)
    have hb1 := hb _ (List.getElem_mem h2)
    have h4 := congrArg UInt8.toNat h3
    rw [UInt8.toNat_ofNat', UInt8.toNat_ofNat'] at h4
    omega
  · rintro rfl; rfl
theorem get_is {l : List Int} (hb : IsBytes l) (hl : l.length < 1000000000) (k : Nat) (hk : l.length + 2 < k) : frame_Get.f k l = some (gGet l) := by
  have hg : GoodS l false := GoodS.of ⟨hb, by omega⟩
  unfold frame_Get.f vint_From.f
  rw [Option.bind_some, below_g hg _ (by decide), Option.bind_some]
  have ha := gBelow_good hg 1048577
  have hal := gBelow_len l false 1048577
  have har := gBelow_range hg 1048577
  unfold gGet
  generalize gBelow l false 1048577 = a at ha hal har ⊢
  obtain ⟨n, l1, b1⟩ := a
  simp only at ha hal har ⊢
  rw [take_g ha, Option.bind_some]
  have hs := gTake_good ha 4
  have hsl := gTake_len l1 b1 4
  have hsb := gTake_bytes ha 4
  generalize gTake l1 b1 4 = s at hs hsl hsb ⊢
  obtain ⟨s1, l2, b2⟩ := s
  simp only at hs hsl hsb ⊢
  rw [take_g hs, Option.bind_some]
  have hx := gTake_good hs n
  have hxl := gTake_len l2 b2 n
  have hxb := gTake_bytes hs n
  have hxn : (gTake l2 b2 n).1.length ≤ l2.length := by
    unfold gTake; split
    · simp
    · rw [List.length_take]; exact Nat.min_le_right _ _
  generalize gTake l2 b2 n = x at hx hxl hxb hxn ⊢
  obtain ⟨x1, l3, b3⟩ := x
  simp only at hx hxl hxb hxn ⊢
  unfold vint_Source_Ok.f
  rw [Option.bind_some]
  cases b3 with
  | true => rfl
  | false =>
    simp only [Bool.not_false, if_true, Bool.false_eq_true, if_false]
    rw [sumOf_is hxb (by omega) k (by omega), Option.bind_some]
    by_cases e : s1 = sumB (sum x1)
    · rw [if_pos ((strEq hsb (sumB_bytes _)).mpr e), if_pos e, left_g hx, Option.bind_some, w64 (by omega) (by omega)]
    · rw [if_neg (fun h => e ((strEq hsb (sumB_bytes _)).mp h)), if_neg e]
theorem four {s : List Int} (hb : IsBytes s) (h4 : s.length = 4) {n : Nat} (hn : n < 4294967296) : four4 s = (n : Int) ↔ s = sumB n := by
  obtain ⟨a, b, c, d, rfl⟩ : ∃ a b c d, s = [a, b, c, d] := by
    match s, h4 with
    | [a, b, c, d], _ => exact ⟨a, b, c, d, rfl⟩
  have ha := hb a (by simp)
  have hb' := hb b (by simp)
  have hc := hb c (by simp)
  have hd := hb d (by simp)
  simp only [four4, sumB, List.cons.injEq, and_true]
  omega
theorem rget_is {l : List Int} (hb : IsBytes l) (hl : l.length < 1000000000) (k : Nat) (hk : 10 * l.length + 2 < k) : firkinref03_Get.f k l = some (gGet l) := by
  have hg : GoodS l false := GoodS.of ⟨hb, by omega⟩
  unfold firkinref03_Get.f
  rw [rbelow_g hg _ (by decide), Option.bind_some]
  have ha := gBelow_good hg 1048577
  have hal := gBelow_len l false 1048577
  unfold gGet
  generalize gBelow l false 1048577 = a at ha hal ⊢
  obtain ⟨n, l1, b1⟩ := a
  simp only at ha hal ⊢
  rw [rtake_g ha, Option.bind_some]
  have hs := gTake_good ha 4
  have hsl := gTake_len l1 b1 4
  have hsb := gTake_bytes ha 4
  have hs4 : (gTake l1 b1 4).2.2 = false → (gTake l1 b1 4).1.length = 4 := by
    unfold gTake; split
    · intro h; cases h
    · rename_i h
      intro _
      simp only [not_or] at h
      have := h.2.2
      simp; omega
  generalize gTake l1 b1 4 = s at hs hsl hsb hs4 ⊢
  obtain ⟨s1, l2, b2⟩ := s
  simp only at hs hsl hsb hs4 ⊢
  rw [rtake_g hs, Option.bind_some]
  have hx := gTake_good hs n
  have hxl := gTake_len l2 b2 n
  have hxb := gTake_bytes hs n
  have hx2 : (gTake l2 b2 n).2.2 = false → b2 = false := by
    unfold gTake; split
    · intro h; cases h
    · rename_i h
      intro _
      simp only [not_or] at h
      simpa using h.1
  have hxn : (gTake l2 b2 n).1.length ≤ l2.length := by
    unfold gTake; split
    · simp
    · rw [List.length_take]; exact Nat.min_le_right _ _
  generalize gTake l2 b2 n = x at hx hxl hxb hx2 hxn ⊢
  obtain ⟨x1, l3, b3⟩ := x
  simp only at hx hxl hxb hx2 hxn ⊢
  cases b3 with
  | true => rfl
  | false =>
    have h4 := hs4 (hx2 rfl)
    have hlt := sum_lt hxb
    simp only [Bool.false_eq_true, if_false]
    rw [if_pos ⟨h4, hsb⟩, rof_is hxb (by omega) k (by omega), Option.bind_some]
    by_cases e : s1 = sumB (sum x1)
    · rw [if_pos ((four hsb h4 hlt).mpr e), if_pos e]
    · rw [if_neg (fun h => e ((four hsb h4 hlt).mp h)), if_neg e]
theorem get_put {l : List Int} (hl : l.length ≤ 1048576) (rest : List Int) : gGet (frameL l ++ rest) = (l, ((frameL l).length : Int), 0) := by
  unfold gGet
  have e1 : frameL l ++ rest = enc l.length ++ (sumB (sum l) ++ (l ++ rest)) := by unfold frameL; simp [List.append_assoc]
  have h4 : ((sumB (sum l)).length : Int) = 4 := rfl
  have e2 : gBelow (frameL l ++ rest) false 1048577 = ((l.length : Int), sumB (sum l) ++ (l ++ rest), false) := by rw [e1]; exact gBelow_enc (by omega) (by decide) _
  have e3 : gTake (sumB (sum l) ++ (l ++ rest)) false 4 = (sumB (sum l), l ++ rest, false) := by rw [← h4]; exact gTake_app _ _
  have e4 := gTake_app l rest
  simp only [e2, e3, e4]
  rw [if_neg (by decide), if_pos trivial, List.length_append]
  simp
theorem same_is (a b : List Int) : firkinref01_Same.f a b = some (decide ((strOfNums a).toList = (strOfNums b).toList)) := by
  unfold firkinref01_Same.f
  first | rfl | (simp; done) | (congr 1; rw [Bool.eq_iff_iff]; simp)
theorem same_self (l : List Int) : firkinref01_Same.f l l = some true := by rw [same_is]; simp
end Go.Proofs.Ythcmokglgepgjaa.Frame
/- Gone rows, plain law: their bytes, and what is got of bytes. -/
namespace Go.Proofs.Ythcmokglgepgjaa.Dead
open Go Go.RowKit Go.Proofs.Ythcmokglgepgjaa.X Go.Proofs.Ythcmokglgepgjaa.Dec Go.Proofs.Ythcmokglgepgjaa.Enc Go.Proofs.Ythcmokglgepgjaa.Read Go.Proofs.Ythcmokglgepgjaa.Frame Go.Proofs.YthcmokglgepgjaaW.PrintWords Go.Proofs.YthcmokglgepgjaaW.PrintLast Go.Proofs.YthcmokglgepgjaaW.PrintMore
set_option linter.unusedVariables false
set_option linter.unusedSimpArgs false
theorem put_get (l : List Bool) (hl : l.length ≤ 200) (k : Nat) (hk : 20000 ≤ k) : ∃ y, Bitv.BitsOf y ((l.length + 7) / 8) (fun j => l.getD j false) ∧ dead_Put.f k l = some (frameL (enc l.length ++ y)) ∧ firkinref14_Put.f k l = some (frameL (enc l.length ++ y)) := by
  obtain ⟨y, h1, h2⟩ := Bitv.pack_is l (by omega) k (by omega)
  obtain ⟨y', h3, h4⟩ := Bitv.rpack_is l (by omega) k (by omega)
  obtain rfl := h2.uniq h4
  have he := enc_len l.length (by omega)
  have hlen : (enc l.length ++ y).length ≤ 50 := by rw [List.length_append, h2.1]; omega
  have hb : Dec.IsBytes (enc l.length ++ y) := fun x hx => (List.mem_append.1 hx).elim (enc_bytes _ x) (Bitv.packed_bytes h2 x)
  rw [List.length_append] at hlen
  have hw : IntKind.u64.wrap (l.length : Int) = (l.length : Int) := wrap_u64_of (by omega) (by omega)
  refine ⟨y, h2, ?_, ?_⟩
  · unfold dead_Put.f
    rw [if_neg (by omega), hw, num_is l.length (by omega) k (by omega), Option.bind_some, h1, Option.bind_some, if_pos (by omega), put_is hb (by rw [List.length_append]; omega) k (by rw [List.length_append]; omega)]
    rfl
  · unfold firkinref14_Put.f
    rw [if_neg (by omega), hw, rnum_is l.length (by omega) k (by omega), Option.bind_some, h3, Option.bind_some, if_pos (by omega), rput_is hb (by rw [List.length_append]; omega) k (by rw [List.length_append]; omega)]
    rfl
/-- Which rows are gone by bytes. -/
def gDead (l : List Int) (n : Int) : List Bool × Int :=
  if (gGet l).2.2 ≠ 0 then ([], (gGet l).2.2) else
  if (gBelow (gGet l).1 false 201).2.2 = true ∨ (Bitv.unZ (gBelow (gGet l).1 false 201).2.1 (gBelow (gGet l).1 false 201).1).2 = false ∨ (gBelow (gGet l).1 false 201).1 ≠ n ∨ (gGet l).2.1 ≠ (l.length : Int) then ([], 2)
  else ((Bitv.unZ (gBelow (gGet l).1 false 201).2.1 (gBelow (gGet l).1 false 201).1).1, 0)
theorem gGet_fit {l : List Int} (h : Fit l) : Fit (gGet l).1 ∧ (gGet l).1.length ≤ l.length := by
  unfold gGet
  have g0 := GoodS.of h
  have g1 := gBelow_good g0 1048577
  have g2 := gTake_good g1 4
  have n1 := gBelow_len l false 1048577
  have n2 := gTake_len (gBelow l false 1048577).2.1 (gBelow l false 1048577).2.2 4
  have b3 := gTake_bytes g2 (gBelow l false 1048577).1
  have hl : (gTake (gTake (gBelow l false 1048577).2.1 (gBelow l false 1048577).2.2 4).2.1 (gTake (gBelow l false 1048577).2.1 (gBelow l false 1048577).2.2 4).2.2 (gBelow l false 1048577).1).1.length ≤ (gTake (gBelow l false 1048577).2.1 (gBelow l false 1048577).2.2 4).2.1.length := by
    generalize (gTake (gBelow l false 1048577).2.1 (gBelow l false 1048577).2.2 4).2.1 = p
    generalize (gTake (gBelow l false 1048577).2.1 (gBelow l false 1048577).2.2 4).2.2 = q
    generalize (gBelow l false 1048577).1 = n
    unfold gTake; split
    · simp
    · simp only [List.length_take]; omega
  simp only
  split
  · exact ⟨Fit.nil, by simp⟩
  · split
    · exact ⟨⟨b3, Nat.lt_of_le_of_lt (Nat.le_trans hl (Nat.le_trans n2 n1)) h.2⟩, Nat.le_trans hl (Nat.le_trans n2 n1)⟩
    · exact ⟨Fit.nil, by simp⟩
theorem get_is (l : List Int) (hb : Dec.IsBytes l) (hl : l.length ≤ 1000) (n : Int) (k : Nat) (hk : 40000 ≤ k) : dead_Get.f k l n = some (gDead l n) := by
  unfold dead_Get.f gDead
  rw [Frame.get_is hb (by omega) k (by omega), Option.bind_some]
  obtain ⟨f1, f2⟩ := gGet_fit (l := l) ⟨hb, by omega⟩
  by_cases he : (gGet l).2.2 ≠ 0
  · rw [if_pos he, if_pos he]
  rw [if_neg he, if_neg he]
  generalize (gGet l).1 = x at f1 f2 ⊢
  have g1 := GoodS.of f1
  have g2 := gBelow_good g1 201
  have r2 := gBelow_range g1 201
  have n2 := gBelow_len x false 201
  rw [below_g g1 201 (by decide), Option.bind_some]
  generalize gBelow x false 201 = m at g2 r2 n2 ⊢
  obtain ⟨m, l1, q1⟩ := m
  simp only at g2 r2 n2 ⊢
  rw [left_g g2, Option.bind_some]
  simp only
  rw [take_g g2, Option.bind_some]
  have ht : gTake l1 q1 (l1.length : Int) = (l1, [], q1) := by
    unfold gTake
    cases q1 with
    | true => have := g2.2 rfl; subst this; simp
    | false => rw [if_neg (by simp)]; simp
  rw [ht]
  simp only
  rw [Bitv.unpack_is l1 (fun x hx => g2.1.1 x hx) (by omega) m (by omega) k (by omega), Option.bind_some]
  split <;> rfl
theorem rget_is (l : List Int) (hb : Dec.IsBytes l) (hl : l.length ≤ 1000) (n : Int) (k : Nat) (hk : 40000 ≤ k) : firkinref14_Get.f k l n = some (gDead l n) := by
  unfold firkinref14_Get.f gDead
  rw [Frame.rget_is hb (by omega) k (by omega), Option.bind_some]
  obtain ⟨f1, f2⟩ := gGet_fit (l := l) ⟨hb, by omega⟩
  by_cases he : (gGet l).2.2 ≠ 0
  · rw [if_pos he, if_pos he]
  rw [if_neg he, if_neg he]
  generalize (gGet l).1 = x at f1 f2 ⊢
  have g1 := GoodS.of f1
  have g2 := gBelow_good g1 201
  have r2 := gBelow_range g1 201
  have n2 := gBelow_len x false 201
  rw [rbelow_g g1 201 (by decide), Option.bind_some]
  generalize gBelow x false 201 = m at g2 r2 n2 ⊢
  obtain ⟨m, l1, q1⟩ := m
  simp only at g2 r2 n2 ⊢
  rw [Bitv.runpack_is l1 (fun x hx => g2.1.1 x hx) (by omega) m (by omega) k (by omega), Option.bind_some]
  by_cases hc : (gGet l).2.1 ≠ (l.length : Int) ∨ q1 = true ∨ m ≠ n ∨ (Bitv.unZ l1 m).2 = false
  · rw [if_pos hc, if_pos (by rcases hc with h | h | h | h; exact Or.inr (Or.inr (Or.inr h)); exact Or.inl h; exact Or.inr (Or.inr (Or.inl h)); exact Or.inr (Or.inl h))]
  · rw [if_neg hc, if_neg (fun h9 => hc (by rcases h9 with h | h | h | h; exact Or.inr (Or.inl h); exact Or.inr (Or.inr (Or.inr h)); exact Or.inr (Or.inr (Or.inl h)); exact Or.inl h))]
theorem gDead_put (l : List Bool) (hl : l.length ≤ 200) (y : List Int) (hy : Bitv.BitsOf y ((l.length + 7) / 8) (fun j => l.getD j false)) : gDead (frameL (enc l.length ++ y)) (l.length : Int) = (l, 0) := by
  have he := enc_len l.length (by omega)
  have hg := get_put (l := enc l.length ++ y) (by rw [List.length_append, hy.1]; omega) []
  rw [List.append_nil] at hg
  unfold gDead
  rw [hg]
  simp only
  rw [gBelow_enc (by omega) (by decide)]
  simp only
  rw [Bitv.unZ_pack l hy]
  simp
theorem live_is (k : Nat) (hk : 100 ≤ k) : firkinlaw14_live.f k = some true := at_rounds firkinlaw14_live.mono hk (by decide +kernel)
end Go.Proofs.Ythcmokglgepgjaa.Dead
/- DeadGets: which rows are gone by whatever bytes: the code's answer is the document's. No condition. -/
namespace Go.Proofs.Ythcmokglgepgjaa.True_
open Go Go.RowKit Go.Proofs.Ythcmokglgepgjaa.X Go.Proofs.Ythcmokglgepgjaa.Dec Go.Proofs.Ythcmokglgepgjaa.Enc Go.Proofs.Ythcmokglgepgjaa.Frame Go.Proofs.Ythcmokglgepgjaa.Dead
set_option linter.unusedVariables false
theorem gDead_len (l : List Int) (hb : Dec.IsBytes l) (hl : l.length ≤ 200) (n : Int) : (gDead l n).1.length ≤ 10000 := by
  unfold gDead
  obtain ⟨f1, f2⟩ := gGet_fit (l := l) ⟨hb, by omega⟩
  split
  · simp
  · split
    · simp
    · generalize (gGet l).1 = x at f1 f2 ⊢
      have n2 := Read.gBelow_len x false 201
      unfold Bitv.unZ Bitv.unS
      split
      · split
        · simp
        · simp; omega
      · simp
theorem DeadGets : ∀ (x0 : List Int) (x1 : Int), (x0.length ≤ maxLen ∧ ∀ z ∈ x0, (Lit.int .u8 z).wf = true) → (Lit.int .i64 x1).wf = true → ∃ k, firkinlaw14_DeadGets.f k x0 x1 = some true := by
  intro l n h0 _
  refine ⟨50000, ?_⟩
  have hb : Dec.IsBytes l := fun x hx => byte_bounds (h0.2 x hx)
  unfold firkinlaw14_DeadGets.f
  rw [live_is 50000 (by decide)]
  by_cases hl : (l.length : Int) > 200
  · rw [if_pos hl]; rfl
  rw [if_neg hl, Dead.get_is l hb (by omega) n _ (by omega), Option.bind_some, Dead.rget_is l hb (by omega) n _ (by omega), Option.bind_some]
  simp only [firkinlaw14_num.f, Option.bind_some]
  have := gDead_len l hb (by omega) n
  rw [if_pos trivial, Bitv.same_refl _ (by omega) _ (by omega), Option.bind_some, if_pos rfl]
end Go.Proofs.Ythcmokglgepgjaa.True_
/- DeadGets: for every input the call returns true, and each argument reads behind the call as it read before it. No condition. -/
namespace Go.Proofs.Ythcmokglgepgjaa.deadGets
open Go.ChangeShapes Go.WideShapes Go.ChangeAt Go.RowKit Go.Proofs.Ythcmokglgepgjaa.Opens Go.Proofs.Ythcmokglgepgjaa.X Go.Proofs.YthcmokglgepgjaaW.PrintWords Go.Proofs.YthcmokglgepgjaaW.PrintLast Go.Proofs.YthcmokglgepgjaaW.PrintMore
open Go.ChangeMaps (open_string shut_string)
set_option linter.unusedVariables false
set_option linter.unusedSimpArgs false
theorem own : ownKnob Try.prog.godebug = none := by kernel_rfl
theorem laidOut : laidOutB Try.prog = true := by kernel_rfl
set_option maxRecDepth 100000 in
theorem lifted (os : Os) (started : os.Started) (H : Type) (enc : TypeId × Value → H) :
    ReturnsInHanded {} Try.checked os 8 .any (Rows.deadGetsSpec.pre6 enc Try.prog Try.f8 Rows.deadGetsRow.domain false) (Rows.deadGetsSpec.post enc Try.prog Try.f8 false true false false) := by
  refine returnsInHanded_of_change_sized (C := Try.checked) own started (by kernel_rfl) Try.func8
    (ChangeSpec.witness6 (enc := enc) (C := Try.checked) false ⟨#[], #[.slice none 0 0, .int .i64 0], []⟩ 8 (by kernel_rfl) (by kernel_rfl) (by kernel_rfl) (by kernel_rfl)) ?_
  intro W base args ds gs before hval0 hW hcnd hsz0 _
  have hval : ∀ (j : Nat) t v, Try.f8.params[j]? = some t → args[j]? = some v → Value.okWide Try.prog W .any base t v := hval0
  have hW' := hW
  obtain ⟨p, q, hA0, hV, rfl, hfz, hnd⟩ := hW
  have hA : DataW.TrodAll enc Try.prog W 0 (fun _ => true) true Try.f8.params.toList args.toList ds p := hA0
  rw [Try.params8] at hA hval
  obtain ⟨v0, vs0, d0, ds0, p0, q0, hargs, rfl, rfl, h0, r0⟩ := trodAll_cons hA
  obtain ⟨v1, vs1, d1, ds1, p1, q1, rfl, rfl, rfl, h1, r1⟩ := trodAll_cons r0
  obtain ⟨rfl, rfl, rfl⟩ := trodAll_nil r1
  obtain rfl : args = #[v0, v1] := by cases args; simp_all
  obtain ⟨rfl, rfl⟩ := trodVars_none hV
  have k0 := h0
  have lt0 : ∀ x ∈ p0, x.block < W.heap.size := by obtain ⟨m, hm⟩ := k0; exact DataW.trod_lt m _ _ _ hm
  obtain ⟨x0, hk0, ok0⟩ := Opens.arg (Opens.slice Try.underlying22 (by kernel_rfl) (Opens.int Try.underlying5 (by kernel_rfl))) h0
  obtain ⟨a0, len0, cap0, rfl⟩ := okWide_slice Try.underlying22 (hval 0 22 v0 rfl rfl)
  obtain ⟨A0, c0, hcs0, hc0, hr0⟩ := hk0
  simp only [Value.cells] at hcs0
  injection hcs0 with hcs0 _
  injection hcs0 with e1_0 e2_0 e3_0
  subst e1_0 e2_0 e3_0
  have k1 := h1
  have lt1 : ∀ x ∈ p1, x.block < W.heap.size := by obtain ⟨m, hm⟩ := k1; exact DataW.trod_lt m _ _ _ hm
  obtain ⟨x1, hk1, ok1⟩ := Opens.arg (Opens.int Try.underlying3 (by kernel_rfl)) h1
  obtain ⟨y1, rfl⟩ := okWide_int Try.underlying3 (hval 1 3 v1 rfl rfl)
  injection (show _ = [_] from hk1) with e1 _
  injection e1 with e1a e1
  subst e1
  clear hA0 hval0 hsz0
  obtain ⟨k, h⟩ := True_.DeadGets x0 y1 ok0 ok1
  refine (firkinlaw14_DeadGets.calls k _ _ x0 y1 true W hr0 hc0 h).mono fun e W' ⟨he, bel0⟩ => ?_
  have bel : Below W.heap.size W W' := bel0
  subst he
  exact ⟨_, rfl, _, _, _, [], _, [], hW', trodAll_mk1 (shut_bool Try.underlying4 _), (trodAll_cons_mk (Below.trod laidOut (by kernel_rfl) (of_decide_eq_true (by kernel_rfl)) k0 bel lt0) (trodAll_cons_mk (Below.trod laidOut (by kernel_rfl) (of_decide_eq_true (by kernel_rfl)) k1 bel lt1) trodAll_mk0)), rfl, bel.frame _, fun h => by cases h⟩
theorem over : Rows.deadGetsRow.holds Try.pinned (OpenSpec.ofChange Rows.deadGetsSpec) :=
  OpenClaim.holds_of_wide 8 Try.f8 rfl rfl rfl rfl rfl rfl rfl ⟨rfl, rfl, rfl, rfl, rfl⟩ rfl rfl rfl rfl rfl (by kernel_rfl) Try.func8 (by kernel_rfl)
    (of_decide_eq_true (by kernel_rfl)) (by unfold Func.isWrapper; first | (rw [if_pos (by decide +kernel)]; kernel_rfl) | (rw [if_neg (by decide +kernel)]; exact ⟨rfl, rfl⟩))
    (fun os started H enc _ => lifted os started H enc)
theorem proved : Rows.DeadGetsSaid := over
end Go.Proofs.Ythcmokglgepgjaa.deadGets
namespace Go.Proofs.Ythcmokglgepgjaa
/-- The row, under a short name, for the claim. -/
theorem deadGets_holds : Rows.DeadGetsSaid := deadGets.proved
end Go.Proofs.Ythcmokglgepgjaa
