/- ZoneBytes: for every input the call returns true, and each argument reads behind the call as it read before it. No condition. (Part 6 of 10: this session's texts, laid together by wip/merge.py.) -/
import Derived.Test.YtkdlfejokahohaaX0
import Derived.Test.YtkdlfejokahohaaMem2
import Derived.Lib.Hide
import Derived.Test.YtkdlfejokahohaaMZoneBytes2
import Derived.Test.YtkdlfejokahohaaMZoneBytes4
set_option maxHeartbeats 8000000
set_option maxRecDepth 100000
namespace Go.Proofs.Ytkdlfejokahohaa.X
open Go.RowKit Go.Proofs.YtkdlfejokahohaaW.PrintWords Go.Proofs.YtkdlfejokahohaaW.PrintLast Go.Proofs.YtkdlfejokahohaaW.PrintMore
attribute [local go_sem] max2_int min2_int max_two min_two max_three min_three max_four min_four   -- for this text's walks alone
set_option linter.unusedVariables false
open List (setIfInBounds_toArray set_cons_zero set_cons_succ)
set_option linter.unusedSimpArgs false

def firkinref01_S_Below.f (s0_0 : List Int) (s0_1 : Bool) (a1 : Int) : Option (Int × List Int × Bool) := (firkinref01_S_Num.f s0_0 s0_1).bind fun bt370 => (if bt370.2.2 = true then ((firkinref01_S_Fail.f bt370.2.1 bt370.2.2).bind fun bt373 => (some (0, bt373.1, bt373.2))) else (if a1 < 1 then ((firkinref01_S_Fail.f bt370.2.1 bt370.2.2).bind fun bt375 => (some (0, bt375.1, bt375.2))) else (if bt370.1 ≥ (IntKind.u64.wrap (a1)) then ((firkinref01_S_Fail.f bt370.2.1 bt370.2.2).bind fun bt377 => (some (0, bt377.1, bt377.2))) else (some (wrap64 (bt370.1), bt370.2.1, bt370.2.2)))))
theorem firkinref01_S_Below.calls (g : Nat) (s0_0 : List Int) (s0_1 : Bool) (a1 : Int) (r1 : Int) (r2 : List Int) (r3 : Bool) (w0 w : World) (hI : IsS45 w0 w g s0_0 s0_1) (hB : Below w0.heap.size w0 w) (h : firkinref01_S_Below.f s0_0 s0_1 a1 = some (r1, r2, r3)) :
  Calls Try.prog 34 #[.pointer (some ⟨g, 0, none⟩), .int .i64 a1] w fun e w' => e = .returned (.int .i64 r1) ∧ IsS45 w0 w' g r2 r3 ∧ Below w0.heap.size w0 w' ∧ KeepBut w w' g none := by
 have HI0 := A_ hI
 have HK := A_ (KeepBut.refl w g none)
 have HL := A_ hB.size
 clear hI
 have HW0 := A_ hB.size
 have HB := A_ hB
 clear hB
 have H : ((firkinref01_S_Num.f s0_0 s0_1).bind fun bt370 => (if bt370.2.2 = true then ((firkinref01_S_Fail.f bt370.2.1 bt370.2.2).bind fun bt373 => (some (0, bt373.1, bt373.2))) else (if a1 < 1 then ((firkinref01_S_Fail.f bt370.2.1 bt370.2.2).bind fun bt375 => (some (0, bt375.1, bt375.2))) else (if bt370.1 ≥ (IntKind.u64.wrap (a1)) then ((firkinref01_S_Fail.f bt370.2.1 bt370.2.2).bind fun bt377 => (some (0, bt377.1, bt377.2))) else (some (wrap64 (bt370.1), bt370.2.1, bt370.2.2)))))) = some (r1, r2, r3) := h
 clear h
 replace H := Option.bind_eq_some_iff.mp H
 obtain ⟨⟨t370, t371, t372⟩, A30, H⟩ := H
 replace H : (if t372 = true then ((firkinref01_S_Fail.f t371 t372).bind fun bt373 => (some (0, bt373.1, bt373.2))) else (if a1 < 1 then ((firkinref01_S_Fail.f t371 t372).bind fun bt375 => (some (0, bt375.1, bt375.2))) else (if t370 ≥ (IntKind.u64.wrap (a1)) then ((firkinref01_S_Fail.f t371 t372).bind fun bt377 => (some (0, bt377.1, bt377.2))) else (some (wrap64 (t370), t371, t372))))) = some (r1, r2, r3) := H
 have A3 := A_ A30
 clear A30
 by_cases c4 : t372 = true
 ·subst c4
  have H1 : ((firkinref01_S_Fail.f t371 true).bind fun bt373 => (some (0, bt373.1, bt373.2))) = some (r1, r2, r3) := by rw [if_pos rfl] at H; exact H
  clear H
  have H := H1
  clear H1
  replace H := Option.bind_eq_some_iff.mp H
  obtain ⟨⟨t373, t374⟩, A50, H⟩ := H
  replace H : (some (0, t373, t374)) = some (r1, r2, r3) := H
  have A5 := A_ A50
  clear A50
  simp only [Option.some.injEq, Prod.mk.injEq] at H
  obtain ⟨rfl, rfl, rfl⟩ := H
  go_enter Try.func34, Try.ntmps34
  go_wp2_with (first | ((with_reducible refine gate_callee (f := 30) rfl ?_); refine goesL_ (some 7) rfl rfl Try.func30 (by kernel_rfl) rfl #[.pointer (some ⟨g, 0, none⟩)] rfl (by (try simp only [List.map_toArray, List.map_cons, List.map_nil]); first | done | rfl | (simp only [List.length_drop, List.length_take]; rfl)) ?_; (with_reducible refine (firkinref01_S_Num.calls g s0_0 s0_1 t370 t371 true w0 _ ?side1 ?side2 A3.out).mono ?_); (case side1 => repeat (first | (with_reducible first | exact HI0.out | apply IsS45.alloc | apply IsS45.drewN | apply IsS45.drew | apply IsS45.set_0 | apply IsS45.set_1) | exact HI0.out)); (case side2 => repeat (first | (with_reducible first | exact HB.out | apply ba_ | apply bn_ | apply bd_ | refine bs_ ?_ (IsS45.ge HI0.out)) | exact HB.out)); rintro e w6 ⟨rfl, hi, hb, hk⟩; refine ⟨_, rfl, ?_⟩; have n0_ := A_ (KeepBut.trans (by repeat (first | (with_reducible first | exact HK.out | apply KeepBut.set_ | apply keep_drewN | apply keep_drew | apply keep_alloc) | exact HK.out)) hk (.inl rfl)); have n1_ := A_ (hb); have n2_ := A_ (hi); clear HK; clear HB; clear HI0; have HK := n0_; have HB := n1_; have HI0 := n2_; clear n0_ n1_ n2_; (try clear hb); (try clear hb2); (try clear hk); (try clear hi); obtain ⟨ASz7_0, cSz7_0, HGz7, hgz7, ⟨HSz7_0, _⟩⟩ := HI0.out; have hcz7_0 := cellS45_0 HGz7; have hcz7_1 := cellS45_1 HGz7; have hfz7_0 := bf_ HGz7 0; have hfz7_1 := bf_ HGz7 1; clear HGz7 hgz7) | ((with_reducible refine gate_callee (f := 40) rfl ?_); refine goesL_ (some 23) rfl rfl Try.func40 (by kernel_rfl) rfl #[.pointer (some ⟨g, 0, none⟩)] rfl (by (try simp only [List.map_toArray, List.map_cons, List.map_nil]); first | done | rfl | (simp only [List.length_drop, List.length_take]; rfl)) ?_; (with_reducible refine (firkinref01_S_Fail.calls g t371 true t373 t374 w0 _ ?side1 ?side2 A5.out).mono ?_); (case side1 => repeat (first | (with_reducible first | exact HI0.out | apply IsS45.alloc | apply IsS45.drewN | apply IsS45.drew | apply IsS45.set_0 | apply IsS45.set_1) | exact HI0.out)); (case side2 => repeat (first | (with_reducible first | exact HB.out | apply ba_ | apply bn_ | apply bd_ | refine bs_ ?_ (IsS45.ge HI0.out)) | exact HB.out)); rintro e w8 ⟨rfl, hi, hb, hk⟩; refine ⟨_, rfl, ?_⟩; have n0_ := A_ (KeepBut.trans (by repeat (first | (with_reducible first | exact HK.out | apply KeepBut.set_ | apply keep_drewN | apply keep_drew | apply keep_alloc) | exact HK.out)) hk (.inl rfl)); have n1_ := A_ (hb); have n2_ := A_ (hi); clear HK; clear HB; clear HI0; have HK := n0_; have HB := n1_; have HI0 := n2_; clear n0_ n1_ n2_; (try clear hb); (try clear hb2); (try clear hk); (try clear hi)))
  go_ret
  exact ⟨by first | rfl | (simp [errW_none, errW_some] <;> rfl) | (simp [*, errW_none, errW_some] <;> rfl), by repeat (first | (with_reducible first | exact HI0.out | apply IsS45.alloc | apply IsS45.drewN | apply IsS45.drew | apply IsS45.set_0 | apply IsS45.set_1) | exact HI0.out), by repeat (first | (with_reducible first | exact HB.out | apply ba_ | apply bn_ | apply bd_ | refine bs_ ?_ (IsS45.ge HI0.out)) | exact HB.out), by repeat (first | (with_reducible first | exact HK.out | apply KeepBut.set_ | apply keep_drewN | apply keep_drew | apply keep_alloc) | exact HK.out)⟩
 ·replace c4 := Bool.eq_false_iff.mpr c4
  subst c4
  have H1 : (if a1 < 1 then ((firkinref01_S_Fail.f t371 false).bind fun bt375 => (some (0, bt375.1, bt375.2))) else (if t370 ≥ (IntKind.u64.wrap (a1)) then ((firkinref01_S_Fail.f t371 false).bind fun bt377 => (some (0, bt377.1, bt377.2))) else (some (wrap64 (t370), t371, false)))) = some (r1, r2, r3) := by rw [if_neg (show ¬ (false = true) by decide)] at H; exact H
  clear H
  have H := H1
  clear H1
  by_cases c9 : a1 < 1
  ·rw [if_pos c9] at H
   have c9b0 : decide (a1 < 1) = true := decide_eq_true c9
   clear c9
   replace H := Option.bind_eq_some_iff.mp H
   obtain ⟨⟨t375, t376⟩, A100, H⟩ := H
   replace H : (some (0, t375, t376)) = some (r1, r2, r3) := H
   have A10 := A_ A100
   clear A100
   simp only [Option.some.injEq, Prod.mk.injEq] at H
   obtain ⟨rfl, rfl, rfl⟩ := H
   go_enter Try.func34, Try.ntmps34
   go_wp2_with (first | ((with_reducible refine gate_callee (f := 30) rfl ?_); refine goesL_ (some 7) rfl rfl Try.func30 (by kernel_rfl) rfl #[.pointer (some ⟨g, 0, none⟩)] rfl (by (try simp only [List.map_toArray, List.map_cons, List.map_nil]); first | done | rfl | (simp only [List.length_drop, List.length_take]; rfl)) ?_; (with_reducible refine (firkinref01_S_Num.calls g s0_0 s0_1 t370 t371 false w0 _ ?side1 ?side2 A3.out).mono ?_); (case side1 => repeat (first | (with_reducible first | exact HI0.out | apply IsS45.alloc | apply IsS45.drewN | apply IsS45.drew | apply IsS45.set_0 | apply IsS45.set_1) | exact HI0.out)); (case side2 => repeat (first | (with_reducible first | exact HB.out | apply ba_ | apply bn_ | apply bd_ | refine bs_ ?_ (IsS45.ge HI0.out)) | exact HB.out)); rintro e w11 ⟨rfl, hi, hb, hk⟩; refine ⟨_, rfl, ?_⟩; have n0_ := A_ (KeepBut.trans (by repeat (first | (with_reducible first | exact HK.out | apply KeepBut.set_ | apply keep_drewN | apply keep_drew | apply keep_alloc) | exact HK.out)) hk (.inl rfl)); have n1_ := A_ (hb); have n2_ := A_ (hi); clear HK; clear HB; clear HI0; have HK := n0_; have HB := n1_; have HI0 := n2_; clear n0_ n1_ n2_; (try clear hb); (try clear hb2); (try clear hk); (try clear hi); obtain ⟨ASz12_0, cSz12_0, HGz12, hgz12, ⟨HSz12_0, _⟩⟩ := HI0.out; have hcz12_0 := cellS45_0 HGz12; have hcz12_1 := cellS45_1 HGz12; have hfz12_0 := bf_ HGz12 0; have hfz12_1 := bf_ HGz12 1; clear HGz12 hgz12) | ((with_reducible refine gate_callee (f := 40) rfl ?_); refine goesL_ (some 23) rfl rfl Try.func40 (by kernel_rfl) rfl #[.pointer (some ⟨g, 0, none⟩)] rfl (by (try simp only [List.map_toArray, List.map_cons, List.map_nil]); first | done | rfl | (simp only [List.length_drop, List.length_take]; rfl)) ?_; (with_reducible refine (firkinref01_S_Fail.calls g t371 false t375 t376 w0 _ ?side1 ?side2 A10.out).mono ?_); (case side1 => repeat (first | (with_reducible first | exact HI0.out | apply IsS45.alloc | apply IsS45.drewN | apply IsS45.drew | apply IsS45.set_0 | apply IsS45.set_1) | exact HI0.out)); (case side2 => repeat (first | (with_reducible first | exact HB.out | apply ba_ | apply bn_ | apply bd_ | refine bs_ ?_ (IsS45.ge HI0.out)) | exact HB.out)); rintro e w13 ⟨rfl, hi, hb, hk⟩; refine ⟨_, rfl, ?_⟩; have n0_ := A_ (KeepBut.trans (by repeat (first | (with_reducible first | exact HK.out | apply KeepBut.set_ | apply keep_drewN | apply keep_drew | apply keep_alloc) | exact HK.out)) hk (.inl rfl)); have n1_ := A_ (hb); have n2_ := A_ (hi); clear HK; clear HB; clear HI0; have HK := n0_; have HB := n1_; have HI0 := n2_; clear n0_ n1_ n2_; (try clear hb); (try clear hb2); (try clear hk); (try clear hi)))
   go_ret
   exact ⟨by first | rfl | (simp [errW_none, errW_some] <;> rfl) | (simp [*, errW_none, errW_some] <;> rfl), by repeat (first | (with_reducible first | exact HI0.out | apply IsS45.alloc | apply IsS45.drewN | apply IsS45.drew | apply IsS45.set_0 | apply IsS45.set_1) | exact HI0.out), by repeat (first | (with_reducible first | exact HB.out | apply ba_ | apply bn_ | apply bd_ | refine bs_ ?_ (IsS45.ge HI0.out)) | exact HB.out), by repeat (first | (with_reducible first | exact HK.out | apply KeepBut.set_ | apply keep_drewN | apply keep_drew | apply keep_alloc) | exact HK.out)⟩
  ·rw [if_neg c9] at H
   have c9b0 : decide (a1 < 1) = false := decide_eq_false c9
   clear c9
   by_cases c14 : t370 ≥ (IntKind.u64.wrap (a1))
   ·rw [if_pos c14] at H
    have c14b0 : decide ((IntKind.u64.wrap (a1)) ≤ t370) = true := decide_eq_true c14
    clear c14
    replace H := Option.bind_eq_some_iff.mp H
    obtain ⟨⟨t377, t378⟩, A150, H⟩ := H
    replace H : (some (0, t377, t378)) = some (r1, r2, r3) := H
    have A15 := A_ A150
    clear A150
    simp only [Option.some.injEq, Prod.mk.injEq] at H
    obtain ⟨rfl, rfl, rfl⟩ := H
    go_enter Try.func34, Try.ntmps34
    go_wp2_with (first | ((with_reducible refine gate_callee (f := 30) rfl ?_); refine goesL_ (some 7) rfl rfl Try.func30 (by kernel_rfl) rfl #[.pointer (some ⟨g, 0, none⟩)] rfl (by (try simp only [List.map_toArray, List.map_cons, List.map_nil]); first | done | rfl | (simp only [List.length_drop, List.length_take]; rfl)) ?_; (with_reducible refine (firkinref01_S_Num.calls g s0_0 s0_1 t370 t371 false w0 _ ?side1 ?side2 A3.out).mono ?_); (case side1 => repeat (first | (with_reducible first | exact HI0.out | apply IsS45.alloc | apply IsS45.drewN | apply IsS45.drew | apply IsS45.set_0 | apply IsS45.set_1) | exact HI0.out)); (case side2 => repeat (first | (with_reducible first | exact HB.out | apply ba_ | apply bn_ | apply bd_ | refine bs_ ?_ (IsS45.ge HI0.out)) | exact HB.out)); rintro e w16 ⟨rfl, hi, hb, hk⟩; refine ⟨_, rfl, ?_⟩; have n0_ := A_ (KeepBut.trans (by repeat (first | (with_reducible first | exact HK.out | apply KeepBut.set_ | apply keep_drewN | apply keep_drew | apply keep_alloc) | exact HK.out)) hk (.inl rfl)); have n1_ := A_ (hb); have n2_ := A_ (hi); clear HK; clear HB; clear HI0; have HK := n0_; have HB := n1_; have HI0 := n2_; clear n0_ n1_ n2_; (try clear hb); (try clear hb2); (try clear hk); (try clear hi); obtain ⟨ASz17_0, cSz17_0, HGz17, hgz17, ⟨HSz17_0, _⟩⟩ := HI0.out; have hcz17_0 := cellS45_0 HGz17; have hcz17_1 := cellS45_1 HGz17; have hfz17_0 := bf_ HGz17 0; have hfz17_1 := bf_ HGz17 1; clear HGz17 hgz17) | ((with_reducible refine gate_callee (f := 40) rfl ?_); refine goesL_ (some 23) rfl rfl Try.func40 (by kernel_rfl) rfl #[.pointer (some ⟨g, 0, none⟩)] rfl (by (try simp only [List.map_toArray, List.map_cons, List.map_nil]); first | done | rfl | (simp only [List.length_drop, List.length_take]; rfl)) ?_; (with_reducible refine (firkinref01_S_Fail.calls g t371 false t377 t378 w0 _ ?side1 ?side2 A15.out).mono ?_); (case side1 => repeat (first | (with_reducible first | exact HI0.out | apply IsS45.alloc | apply IsS45.drewN | apply IsS45.drew | apply IsS45.set_0 | apply IsS45.set_1) | exact HI0.out)); (case side2 => repeat (first | (with_reducible first | exact HB.out | apply ba_ | apply bn_ | apply bd_ | refine bs_ ?_ (IsS45.ge HI0.out)) | exact HB.out)); rintro e w18 ⟨rfl, hi, hb, hk⟩; refine ⟨_, rfl, ?_⟩; have n0_ := A_ (KeepBut.trans (by repeat (first | (with_reducible first | exact HK.out | apply KeepBut.set_ | apply keep_drewN | apply keep_drew | apply keep_alloc) | exact HK.out)) hk (.inl rfl)); have n1_ := A_ (hb); have n2_ := A_ (hi); clear HK; clear HB; clear HI0; have HK := n0_; have HB := n1_; have HI0 := n2_; clear n0_ n1_ n2_; (try clear hb); (try clear hb2); (try clear hk); (try clear hi)))
    go_ret
    exact ⟨by first | rfl | (simp [errW_none, errW_some] <;> rfl) | (simp [*, errW_none, errW_some] <;> rfl), by repeat (first | (with_reducible first | exact HI0.out | apply IsS45.alloc | apply IsS45.drewN | apply IsS45.drew | apply IsS45.set_0 | apply IsS45.set_1) | exact HI0.out), by repeat (first | (with_reducible first | exact HB.out | apply ba_ | apply bn_ | apply bd_ | refine bs_ ?_ (IsS45.ge HI0.out)) | exact HB.out), by repeat (first | (with_reducible first | exact HK.out | apply KeepBut.set_ | apply keep_drewN | apply keep_drew | apply keep_alloc) | exact HK.out)⟩
   ·rw [if_neg c14] at H
    have c14b0 : decide ((IntKind.u64.wrap (a1)) ≤ t370) = false := decide_eq_false c14
    clear c14
    simp only [Option.some.injEq, Prod.mk.injEq] at H
    obtain ⟨rfl, rfl, rfl⟩ := H
    go_enter Try.func34, Try.ntmps34
    go_wp2_with (first | ((with_reducible refine gate_callee (f := 30) rfl ?_); refine goesL_ (some 7) rfl rfl Try.func30 (by kernel_rfl) rfl #[.pointer (some ⟨g, 0, none⟩)] rfl (by (try simp only [List.map_toArray, List.map_cons, List.map_nil]); first | done | rfl | (simp only [List.length_drop, List.length_take]; rfl)) ?_; (with_reducible refine (firkinref01_S_Num.calls g s0_0 s0_1 t370 t371 false w0 _ ?side1 ?side2 A3.out).mono ?_); (case side1 => repeat (first | (with_reducible first | exact HI0.out | apply IsS45.alloc | apply IsS45.drewN | apply IsS45.drew | apply IsS45.set_0 | apply IsS45.set_1) | exact HI0.out)); (case side2 => repeat (first | (with_reducible first | exact HB.out | apply ba_ | apply bn_ | apply bd_ | refine bs_ ?_ (IsS45.ge HI0.out)) | exact HB.out)); rintro e w19 ⟨rfl, hi, hb, hk⟩; refine ⟨_, rfl, ?_⟩; have n0_ := A_ (KeepBut.trans (by repeat (first | (with_reducible first | exact HK.out | apply KeepBut.set_ | apply keep_drewN | apply keep_drew | apply keep_alloc) | exact HK.out)) hk (.inl rfl)); have n1_ := A_ (hb); have n2_ := A_ (hi); clear HK; clear HB; clear HI0; have HK := n0_; have HB := n1_; have HI0 := n2_; clear n0_ n1_ n2_; (try clear hb); (try clear hb2); (try clear hk); (try clear hi); obtain ⟨ASz20_0, cSz20_0, HGz20, hgz20, ⟨HSz20_0, _⟩⟩ := HI0.out; have hcz20_0 := cellS45_0 HGz20; have hcz20_1 := cellS45_1 HGz20; have hfz20_0 := bf_ HGz20 0; have hfz20_1 := bf_ HGz20 1; clear HGz20 hgz20))
    go_ret
    exact ⟨by first | rfl | (simp [errW_none, errW_some] <;> rfl) | (simp [*, errW_none, errW_some] <;> rfl), by repeat (first | (with_reducible first | exact HI0.out | apply IsS45.alloc | apply IsS45.drewN | apply IsS45.drew | apply IsS45.set_0 | apply IsS45.set_1) | exact HI0.out), by repeat (first | (with_reducible first | exact HB.out | apply ba_ | apply bn_ | apply bd_ | refine bs_ ?_ (IsS45.ge HI0.out)) | exact HB.out), by repeat (first | (with_reducible first | exact HK.out | apply KeepBut.set_ | apply keep_drewN | apply keep_drew | apply keep_alloc) | exact HK.out)⟩

def firkinref01_S_Int.f (s0_0 : List Int) (s0_1 : Bool) : Option (Int × List Int × Bool) := (firkinref01_S_Num.f s0_0 s0_1).bind fun bt379 => (if (Int.tmod bt379.1 2) = 1 then (some (wrap64 ((wrap64 (-(wrap64 (IntKind.u64.wrap (Int.tdiv bt379.1 2))))) - 1), bt379.2.1, bt379.2.2)) else (some (wrap64 (IntKind.u64.wrap (Int.tdiv bt379.1 2)), bt379.2.1, bt379.2.2)))
theorem firkinref01_S_Int.calls (g : Nat) (s0_0 : List Int) (s0_1 : Bool) (r1 : Int) (r2 : List Int) (r3 : Bool) (w0 w : World) (hI : IsS45 w0 w g s0_0 s0_1) (hB : Below w0.heap.size w0 w) (h : firkinref01_S_Int.f s0_0 s0_1 = some (r1, r2, r3)) :
  Calls Try.prog 32 #[.pointer (some ⟨g, 0, none⟩)] w fun e w' => e = .returned (.int .i64 r1) ∧ IsS45 w0 w' g r2 r3 ∧ Below w0.heap.size w0 w' ∧ KeepBut w w' g none := by
 have HI0 := A_ hI
 have HK := A_ (KeepBut.refl w g none)
 have HL := A_ hB.size
 clear hI
 have HW0 := A_ hB.size
 have HB := A_ hB
 clear hB
 have H : ((firkinref01_S_Num.f s0_0 s0_1).bind fun bt379 => (if (Int.tmod bt379.1 2) = 1 then (some (wrap64 ((wrap64 (-(wrap64 (IntKind.u64.wrap (Int.tdiv bt379.1 2))))) - 1), bt379.2.1, bt379.2.2)) else (some (wrap64 (IntKind.u64.wrap (Int.tdiv bt379.1 2)), bt379.2.1, bt379.2.2)))) = some (r1, r2, r3) := h
 clear h
 replace H := Option.bind_eq_some_iff.mp H
 obtain ⟨⟨t379, t380, t381⟩, A20, H⟩ := H
 replace H : (if (Int.tmod t379 2) = 1 then (some (wrap64 ((wrap64 (-(wrap64 (IntKind.u64.wrap (Int.tdiv t379 2))))) - 1), t380, t381)) else (some (wrap64 (IntKind.u64.wrap (Int.tdiv t379 2)), t380, t381))) = some (r1, r2, r3) := H
 have A2 := A_ A20
 clear A20
 by_cases c3 : (Int.tmod t379 2) = 1
 ·rw [if_pos c3] at H
  have c3b0 : ((Int.tmod t379 2) == 1) = true := beq_iff_eq.mpr c3
  have c3b1 : ((Int.tmod t379 2) != 1) = false := bne_eq_false_iff_eq.mpr c3
  clear c3
  simp only [Option.some.injEq, Prod.mk.injEq] at H
  obtain ⟨rfl, rfl, rfl⟩ := H
  go_enter Try.func32, Try.ntmps32
  go_wp2_with (first | ((with_reducible refine gate_callee (f := 30) rfl ?_); refine goesL_ (some 5) rfl rfl Try.func30 (by kernel_rfl) rfl #[.pointer (some ⟨g, 0, none⟩)] rfl (by (try simp only [List.map_toArray, List.map_cons, List.map_nil]); first | done | rfl | (simp only [List.length_drop, List.length_take]; rfl)) ?_; (with_reducible refine (firkinref01_S_Num.calls g s0_0 s0_1 t379 t380 t381 w0 _ ?side1 ?side2 A2.out).mono ?_); (case side1 => repeat (first | (with_reducible first | exact HI0.out | apply IsS45.alloc | apply IsS45.drewN | apply IsS45.drew | apply IsS45.set_0 | apply IsS45.set_1) | exact HI0.out)); (case side2 => repeat (first | (with_reducible first | exact HB.out | apply ba_ | apply bn_ | apply bd_ | refine bs_ ?_ (IsS45.ge HI0.out)) | exact HB.out)); rintro e w4 ⟨rfl, hi, hb, hk⟩; refine ⟨_, rfl, ?_⟩; have n0_ := A_ (KeepBut.trans (by repeat (first | (with_reducible first | exact HK.out | apply KeepBut.set_ | apply keep_drewN | apply keep_drew | apply keep_alloc) | exact HK.out)) hk (.inl rfl)); have n1_ := A_ (hb); have n2_ := A_ (hi); clear HK; clear HB; clear HI0; have HK := n0_; have HB := n1_; have HI0 := n2_; clear n0_ n1_ n2_; (try clear hb); (try clear hb2); (try clear hk); (try clear hi)))
  go_ret
  exact ⟨by first | rfl | (simp [errW_none, errW_some] <;> rfl) | (simp [*, errW_none, errW_some] <;> rfl), by repeat (first | (with_reducible first | exact HI0.out | apply IsS45.alloc | apply IsS45.drewN | apply IsS45.drew | apply IsS45.set_0 | apply IsS45.set_1) | exact HI0.out), by repeat (first | (with_reducible first | exact HB.out | apply ba_ | apply bn_ | apply bd_ | refine bs_ ?_ (IsS45.ge HI0.out)) | exact HB.out), by repeat (first | (with_reducible first | exact HK.out | apply KeepBut.set_ | apply keep_drewN | apply keep_drew | apply keep_alloc) | exact HK.out)⟩
 ·rw [if_neg c3] at H
  have c3b0 : ((Int.tmod t379 2) == 1) = false := beq_eq_false_iff_ne.mpr c3
  have c3b1 : ((Int.tmod t379 2) != 1) = true := bne_iff_ne.mpr c3
  simp only [Option.some.injEq, Prod.mk.injEq] at H
  obtain ⟨rfl, rfl, rfl⟩ := H
  go_enter Try.func32, Try.ntmps32
  go_wp2_with (first | ((with_reducible refine gate_callee (f := 30) rfl ?_); refine goesL_ (some 5) rfl rfl Try.func30 (by kernel_rfl) rfl #[.pointer (some ⟨g, 0, none⟩)] rfl (by (try simp only [List.map_toArray, List.map_cons, List.map_nil]); first | done | rfl | (simp only [List.length_drop, List.length_take]; rfl)) ?_; (with_reducible refine (firkinref01_S_Num.calls g s0_0 s0_1 t379 t380 t381 w0 _ ?side1 ?side2 A2.out).mono ?_); (case side1 => repeat (first | (with_reducible first | exact HI0.out | apply IsS45.alloc | apply IsS45.drewN | apply IsS45.drew | apply IsS45.set_0 | apply IsS45.set_1) | exact HI0.out)); (case side2 => repeat (first | (with_reducible first | exact HB.out | apply ba_ | apply bn_ | apply bd_ | refine bs_ ?_ (IsS45.ge HI0.out)) | exact HB.out)); rintro e w5 ⟨rfl, hi, hb, hk⟩; refine ⟨_, rfl, ?_⟩; have n0_ := A_ (KeepBut.trans (by repeat (first | (with_reducible first | exact HK.out | apply KeepBut.set_ | apply keep_drewN | apply keep_drew | apply keep_alloc) | exact HK.out)) hk (.inl rfl)); have n1_ := A_ (hb); have n2_ := A_ (hi); clear HK; clear HB; clear HI0; have HK := n0_; have HB := n1_; have HI0 := n2_; clear n0_ n1_ n2_; (try clear hb); (try clear hb2); (try clear hk); (try clear hi)))
  go_ret
  exact ⟨by first | rfl | (simp [errW_none, errW_some] <;> rfl) | (simp [*, errW_none, errW_some] <;> rfl), by repeat (first | (with_reducible first | exact HI0.out | apply IsS45.alloc | apply IsS45.drewN | apply IsS45.drew | apply IsS45.set_0 | apply IsS45.set_1) | exact HI0.out), by repeat (first | (with_reducible first | exact HB.out | apply ba_ | apply bn_ | apply bd_ | refine bs_ ?_ (IsS45.ge HI0.out)) | exact HB.out), by repeat (first | (with_reducible first | exact HK.out | apply KeepBut.set_ | apply keep_drewN | apply keep_drew | apply keep_alloc) | exact HK.out)⟩

end Go.Proofs.Ytkdlfejokahohaa.X
/- The contract of (*firkinref01.S).Take: the first bytes, in memory of their own; or it failed. -/
namespace Go.Proofs.Ytkdlfejokahohaa.X
open Go.RowKit Go.Proofs.YtkdlfejokahohaaW.PrintWords Go.Proofs.YtkdlfejokahohaaW.PrintLast Go.Proofs.YtkdlfejokahohaaW.PrintMore
set_option linter.unusedVariables false
set_option linter.unusedSimpArgs false
def rtakeS (l : List Int) (bad : Bool) (n : Int) : List Int × List Int × Bool :=
  if bad = true ∨ n < 0 ∨ (l.length : Int) < n then ([], [], true) else (l.take n.toNat, l.drop n.toNat, false)
def firkinref01_S_Take.f (l : List Int) (bad : Bool) (n : Int) : Option (List Int × List Int × Bool) := if l.length < 1000000000000 then some (rtakeS l bad n) else none
set_option maxHeartbeats 8000000 in
set_option maxRecDepth 100000 in
theorem firkinref01_S_Take.calls (g : Nat) (s0_0 : List Int) (s0_1 : Bool) (a1 : Int) (r1 : List Int) (r2 : List Int) (r3 : Bool) (w0 w : World) (hI : IsS45 w0 w g s0_0 s0_1) (hB : Below w0.heap.size w0 w) (h : firkinref01_S_Take.f s0_0 s0_1 a1 = some (r1, r2, r3)) :
    Calls Try.prog 38 #[.pointer (some ⟨g, 0, none⟩), .int .i64 a1] w fun e w' => ∃ v0_ : Value, e = .returned v0_ ∧ Kd.R (Kd.int .u8) 5 w' w.heap.size (fun _ => True) v0_ r1 ∧ IsS45 w0 w' g r2 r3 ∧ Below w0.heap.size w0 w' ∧ KeepBut w w' g none := by
  unfold firkinref01_S_Take.f at h
  by_cases hf : s0_0.length < 1000000000000
  case neg => rw [if_neg hf] at h; cases h
  rw [if_pos hf] at h
  have h := Option.some.inj h
  unfold rtakeS at h
  have HF := Aside0.mk hf
  have HI := Aside0.mk hI
  obtain ⟨A1, c1, hb1, hg1, hr1, hc1⟩ := hI
  have h0 : w.cell? ⟨g, 0, none⟩ = some (.slice A1 s0_0.length c1) := (blk_cell hb1 0).trans rfl
  have h1 : w.cell? ⟨g, 1, none⟩ = some (.bool s0_1) := (blk_cell hb1 1).trans rfl
  have HB1 := Aside0.mk hb1
  clear hf hb1
  have hu := Try.underlying45
  by_cases ht : s0_1 = true ∨ a1 < 0 ∨ (s0_0.length : Int) < a1
  · rw [if_pos ht] at h
    simp only [Prod.mk.injEq] at h
    obtain ⟨rfl, rfl, rfl⟩ := h
    obtain ⟨bn, hbn⟩ : ∃ b_ : Bool, decide (a1 < 0) = b_ := ⟨_, rfl⟩
    obtain ⟨bl, hbl⟩ : ∃ b_ : Bool, decide ((s0_0.length : Int) < a1) = b_ := ⟨_, rfl⟩
    have hx : (s0_1 || bn || bl) = true := by rw [← hbn, ← hbl]; simp only [Bool.or_eq_true, decide_eq_true_eq]; exact (or_assoc).mpr ht
    clear ht
    cases s0_1 <;> cases bn <;> cases bl <;> first
      | (exact absurd hx (by decide))
      | (clear hx
         go_enter Try.func38, Try.ntmps38
         go_wp2_with fail
         refine (firkinref01_S_Fail.calls g s0_0 _ [] true w0 _ HI.out hB rfl).mono ?_
         rintro e w2 ⟨rfl, hI2, hB2, hK2⟩
         go_wp2_with fail
         go_ret
         exact ⟨_, rfl, Kd.R_nil _ _ _ _ _, hI2, hB2, hK2⟩)
  · rw [if_neg ht] at h
    simp only [Prod.mk.injEq] at h
    obtain ⟨rfl, rfl, rfl⟩ := h
    have hbad : s0_1 = false := by cases s0_1 <;> simp_all
    subst hbad
    obtain ⟨m, rfl⟩ : ∃ m : Nat, a1 = (m : Int) := ⟨a1.toNat, by omega⟩
    rw [Int.toNat_natCast]
    have hm : m ≤ s0_0.length := by omega
    have hbn : decide ((m : Int) < 0) = false := decide_eq_false (by omega)
    have hbl : decide ((s0_0.length : Int) < (m : Int)) = false := decide_eq_false (by omega)
    have hbl2 : decide (s0_0.length < m) = false := decide_eq_false (by omega)
    have hlm : (s0_0.take m).length = m := by rw [List.length_take]; omega
    have HCT : Aside0 (Kd.C (Kd.int .u8) w A1 m (s0_0.take m)) := ⟨by have := Kd.C_take (Kd.C_below hr1 hB) hm; rwa [hlm] at this⟩
    have HLM := Aside0.mk hlm
    clear ht hlm
    obtain ⟨i5, hi5, hsz5⟩ : ∃ i, Try.prog.info? 5 = some i ∧ i.size = (Kd.int .u8).sz := by
      obtain ⟨i, hi, hz⟩ := Option.map_eq_some_iff.1 info5
      simp only [Prod.mk.injEq] at hz
      exact ⟨i, hi, hz.2.1⟩
    obtain ⟨A', hcut, hCd, hld, hcd⟩ := Mem.cut_from' (P := Try.prog) (d := Kd.int .u8) 31 5 .i64 Try.underlying31 hi5 hsz5 (m := m) hr1 hm hc1
    have HD := Aside0.mk hCd
    have HLD := Aside0.mk hld
    clear hCd hld hi5
    go_enter Try.func38, Try.ntmps38
    go_wp2_with (first | ((with_reducible refine gate_dst (N := 25) rfl ?_); refine Kd.R_lit (Kd.int .u8) _ 5 ?hg (N := 25) ?hd (xs := ([] : List Int)) (inner := []) (ok := fun _ => True) (okp := fun _ => True) ?hr ?hp (fun _ hk => hk) trivial (Below.refl _ _) (Nat.le_refl _) (by simp) ?_; (case hd => rfl); (case hg => rfl); (case hr => first | (go_simp; done) | (go_simp; rfl)); (case hp => exact (Reps.none _ _)); intro v205 w2 ho3 hb hg_ hnew_; clear hg_ hnew_; have HO := Aside0.mk ho3; have HB := Aside0.mk hb; have h0b : w2.cell? ⟨g, 0, none⟩ = some (.slice A1 s0_0.length c1) := (blk_cell (blk_below HB1.out hb) 0).trans rfl; clear ho3 hb) | ((with_reducible refine gate_builtin (b := .append) (xs := #[.tmp 25, .tmp 31]) rfl ?_); at_builtin; refine Kd.R_append_rows (Kd.int .u8) (w0 := w) w.heap.size rfl (.tmp 25) (.tmp 31) 31 5 (.int .u8 0) 1 rfl Try.underlying31 info5 rfl (by decide) (by omega) v205 [] (s0_0.take m) _ _ _ (fun _ => True) (fun _ => False) rfl rfl HO.out (Kd.C_below HCT.out HB.out) (fun _ _ h => h) (fun _ h => h.elim) (fun _ _ => trivial) HB.out (below_size HB.out) (by have := HF.out; rw [List.length_nil]; omega) ?_; intro v4 w4 ho hb hg hat; have HO4 := Aside0.mk ho; have HB4 := Aside0.mk hb; have h0c : w4.cell? ⟨g, 0, none⟩ = some (.slice A1 s0_0.length c1) := (blk_cell (blk_below HB1.out hb) 0).trans rfl; have f0c := blk_frozen (blk_below HB1.out hb) 0; clear HO HB ho hb hg hat))
    go_ret
    have h2 := blk_set (blk_below HB1.out HB4.out) 0 (.slice A' (s0_0.length - m) (c1 - m))
    have HG : Aside0 (g < w.heap.size) := ⟨blk_lt HB1.out⟩
    refine ⟨_, rfl, ?_, ⟨A', c1 - m, ?_, hg1, ?_, ?_⟩, below_set (below_step hB HB4.out) hg1, KeepBut.set_ (KeepBut.of_below HB4.out g none) 0 _⟩
    · have h5 := Kd.R_far (p := ⟨g, 0, none⟩) (Kd.R_bound HO4.out) (fun k hk => by have := HG.out; have := hk.2.1; show k ≠ g; omega) (.slice A' (s0_0.length - m) (c1 - m))
      rw [List.nil_append] at h5
      exact Kd.R_mono h5 (fun _ _ => trivial)
    · rw [HLD.out]; simpa using h2
    · rw [HLD.out]; exact HD.out
    · rw [HLD.out]; exact hcd
end Go.Proofs.Ytkdlfejokahohaa.X
namespace Go.Proofs.Ytkdlfejokahohaa.X
open Go.RowKit Go.Proofs.YtkdlfejokahohaaW.PrintWords Go.Proofs.YtkdlfejokahohaaW.PrintLast Go.Proofs.YtkdlfejokahohaaW.PrintMore
attribute [local go_sem] max2_int min2_int max_two min_two max_three min_three max_four min_four   -- for this text's walks alone
set_option linter.unusedVariables false
open List (setIfInBounds_toArray set_cons_zero set_cons_succ)
set_option linter.unusedSimpArgs false

def firkinref01_S_Text.j0 : Nat → Int → Bool → List Int → Bool → Option (ByteArray × List Int × Bool)
 | 0, _, _, _, _ => none
 | k + 1, x5, x31, x1000, x1001 => if x31 = true then ((firkinref01_S_Fail.f x1000 x1001).bind fun bt387 => (some ((⟨#[]⟩ : ByteArray), bt387.1, bt387.2))) else ((firkinref01_S_Take.f x1000 x1001 (wrap64 (x5))).bind fun bt389 => (some (strOfNums bt389.1, bt389.2.1, bt389.2.2)))
def firkinref01_S_Text.f (k : Nat) (s0_0 : List Int) (s0_1 : Bool) (a1 : Int) : Option (ByteArray × List Int × Bool) := if a1 < 0 then ((firkinref01_S_Fail.f s0_0 s0_1).bind fun bt382 => (some ((⟨#[]⟩ : ByteArray), bt382.1, bt382.2))) else ((firkinref01_S_Num.f s0_0 s0_1).bind fun bt384 => (if bt384.2.2 = true then (firkinref01_S_Text.j0 k bt384.1 true bt384.2.1 bt384.2.2) else (if bt384.1 > (IntKind.u64.wrap (a1)) then (firkinref01_S_Text.j0 k bt384.1 true bt384.2.1 bt384.2.2) else (firkinref01_S_Text.j0 k bt384.1 (decide (bt384.1 > (IntKind.u64.wrap ((bt384.2.1.length : Int))))) bt384.2.1 bt384.2.2))))
theorem firkinref01_S_Text.mono_l : ∀ k, (∀ y0 y1 y2 y3, LeO (firkinref01_S_Text.j0 k y0 y1 y2 y3) (firkinref01_S_Text.j0 (k + 1) y0 y1 y2 y3))
 | 0 => fun _ _ _ _ r h => by simp [firkinref01_S_Text.j0] at h
 | k + 1 => by
  have ih0 := firkinref01_S_Text.mono_l k
  ·intro y0 y1 y2 y3
   unfold firkinref01_S_Text.j0
   repeat' first
   | (with_reducible exact ih0 _ _ _ _)
   | (with_reducible exact LeO.refl _)
   | (with_reducible exact LeO.none _)
   | (with_reducible refine LeO.ite ?_ ?_)
   | (with_reducible refine LeO.bind ?_ (fun _ => ?_))
   | exact ih0 _ _ _ _
   | exact LeO.none _
   | refine LeO.ite ?_ ?_
   | refine LeO.bind ?_ (fun _ => ?_)
theorem firkinref01_S_Text.mono : ∀ a0 a1 a2 k, LeO (firkinref01_S_Text.f k a0 a1 a2) (firkinref01_S_Text.f (k + 1) a0 a1 a2) := by
 intro a0 a1 a2 k
 have ih0 := firkinref01_S_Text.mono_l k
 unfold firkinref01_S_Text.f
 repeat' first
   | (with_reducible exact ih0 _ _ _ _)
   | (with_reducible exact LeO.refl _)
   | (with_reducible exact LeO.none _)
   | (with_reducible refine LeO.ite ?_ ?_)
   | (with_reducible refine LeO.bind ?_ (fun _ => ?_))
   | exact ih0 _ _ _ _
   | exact LeO.none _
   | refine LeO.ite ?_ ?_
   | refine LeO.bind ?_ (fun _ => ?_)
theorem firkinref01_S_Text.calls (k : Nat) (g : Nat) (s0_0 : List Int) (s0_1 : Bool) (a1 : Int) (r1 : ByteArray) (r2 : List Int) (r3 : Bool) (w0 w : World) (hI : IsS45 w0 w g s0_0 s0_1) (hB : Below w0.heap.size w0 w) (h : firkinref01_S_Text.f k s0_0 s0_1 a1 = some (r1, r2, r3)) :
  Calls Try.prog 36 #[.pointer (some ⟨g, 0, none⟩), .int .i64 a1] w fun e w' => e = .returned (.string r1) ∧ IsS45 w0 w' g r2 r3 ∧ Below w0.heap.size w0 w' ∧ KeepBut w w' g none := by
 have HI0 := A_ hI
 have HK := A_ (KeepBut.refl w g none)
 have HL := A_ hB.size
 clear hI
 have HW0 := A_ hB.size
 have HB := A_ hB
 clear hB
 have H : (if a1 < 0 then ((firkinref01_S_Fail.f s0_0 s0_1).bind fun bt382 => (some ((⟨#[]⟩ : ByteArray), bt382.1, bt382.2))) else ((firkinref01_S_Num.f s0_0 s0_1).bind fun bt384 => (if bt384.2.2 = true then (firkinref01_S_Text.j0 k bt384.1 true bt384.2.1 bt384.2.2) else (if bt384.1 > (IntKind.u64.wrap (a1)) then (firkinref01_S_Text.j0 k bt384.1 true bt384.2.1 bt384.2.2) else (firkinref01_S_Text.j0 k bt384.1 (decide (bt384.1 > (IntKind.u64.wrap ((bt384.2.1.length : Int))))) bt384.2.1 bt384.2.2))))) = some (r1, r2, r3) := h
 clear h
 by_cases c3 : a1 < 0
 ·rw [if_pos c3] at H
  have c3b0 : decide (a1 < 0) = true := decide_eq_true c3
  clear c3
  replace H := Option.bind_eq_some_iff.mp H
  obtain ⟨⟨t382, t383⟩, A40, H⟩ := H
  replace H : (some ((⟨#[]⟩ : ByteArray), t382, t383)) = some (r1, r2, r3) := H
  have A4 := A_ A40
  clear A40
  simp only [Option.some.injEq, Prod.mk.injEq] at H
  obtain ⟨rfl, rfl, rfl⟩ := H
  go_enter Try.func36, Try.ntmps36
  go_wp2_with (first | ((with_reducible refine gate_callee (f := 40) rfl ?_); refine goesL_ (some 9) rfl rfl Try.func40 (by kernel_rfl) rfl #[.pointer (some ⟨g, 0, none⟩)] rfl (by (try simp only [List.map_toArray, List.map_cons, List.map_nil]); first | done | rfl | (simp only [List.length_drop, List.length_take]; rfl)) ?_; (with_reducible refine (firkinref01_S_Fail.calls g s0_0 s0_1 t382 t383 w0 _ ?side1 ?side2 A4.out).mono ?_); (case side1 => repeat (first | (with_reducible first | exact HI0.out | apply IsS45.alloc | apply IsS45.drewN | apply IsS45.drew | apply IsS45.set_0 | apply IsS45.set_1) | exact HI0.out)); (case side2 => repeat (first | (with_reducible first | exact HB.out | apply ba_ | apply bn_ | apply bd_ | refine bs_ ?_ (IsS45.ge HI0.out)) | exact HB.out)); rintro e w5 ⟨rfl, hi, hb, hk⟩; refine ⟨_, rfl, ?_⟩; have n0_ := A_ (KeepBut.trans (by repeat (first | (with_reducible first | exact HK.out | apply KeepBut.set_ | apply keep_drewN | apply keep_drew | apply keep_alloc) | exact HK.out)) hk (.inl rfl)); have n1_ := A_ (hb); have n2_ := A_ (hi); clear HK; clear HB; clear HI0; have HK := n0_; have HB := n1_; have HI0 := n2_; clear n0_ n1_ n2_; (try clear hb); (try clear hb2); (try clear hk); (try clear hi)))
  go_ret
  exact ⟨by first | rfl | (simp [errW_none, errW_some] <;> rfl) | (simp [*, errW_none, errW_some] <;> rfl), by repeat (first | (with_reducible first | exact HI0.out | apply IsS45.alloc | apply IsS45.drewN | apply IsS45.drew | apply IsS45.set_0 | apply IsS45.set_1) | exact HI0.out), by repeat (first | (with_reducible first | exact HB.out | apply ba_ | apply bn_ | apply bd_ | refine bs_ ?_ (IsS45.ge HI0.out)) | exact HB.out), by repeat (first | (with_reducible first | exact HK.out | apply KeepBut.set_ | apply keep_drewN | apply keep_drew | apply keep_alloc) | exact HK.out)⟩
 ·rw [if_neg c3] at H
  have c3b0 : decide (a1 < 0) = false := decide_eq_false c3
  clear c3
  replace H := Option.bind_eq_some_iff.mp H
  obtain ⟨⟨t384, t385, t386⟩, A60, H⟩ := H
  replace H : (if t386 = true then (firkinref01_S_Text.j0 k t384 true t385 t386) else (if t384 > (IntKind.u64.wrap (a1)) then (firkinref01_S_Text.j0 k t384 true t385 t386) else (firkinref01_S_Text.j0 k t384 (decide (t384 > (IntKind.u64.wrap ((t385.length : Int))))) t385 t386))) = some (r1, r2, r3) := H
  have A6 := A_ A60
  clear A60
  have HC7 := A_ H
  clear H
  go_enter Try.func36, Try.ntmps36
  go_upto_region 5 with (first | ((with_reducible refine gate_callee (f := 30) rfl ?_); refine goesL_ (some 11) rfl rfl Try.func30 (by kernel_rfl) rfl #[.pointer (some ⟨g, 0, none⟩)] rfl (by (try simp only [List.map_toArray, List.map_cons, List.map_nil]); first | done | rfl | (simp only [List.length_drop, List.length_take]; rfl)) ?_; (with_reducible refine (firkinref01_S_Num.calls g s0_0 s0_1 t384 t385 t386 w0 _ ?side1 ?side2 A6.out).mono ?_); (case side1 => repeat (first | (with_reducible first | exact HI0.out | apply IsS45.alloc | apply IsS45.drewN | apply IsS45.drew | apply IsS45.set_0 | apply IsS45.set_1) | exact HI0.out)); (case side2 => repeat (first | (with_reducible first | exact HB.out | apply ba_ | apply bn_ | apply bd_ | refine bs_ ?_ (IsS45.ge HI0.out)) | exact HB.out)); rintro e w8 ⟨rfl, hi, hb, hk⟩; refine ⟨_, rfl, ?_⟩; have n0_ := A_ (KeepBut.trans (by repeat (first | (with_reducible first | exact HK.out | apply KeepBut.set_ | apply keep_drewN | apply keep_drew | apply keep_alloc) | exact HK.out)) hk (.inl rfl)); have n1_ := A_ (hb); have n2_ := A_ (hi); clear HK; clear HB; clear HI0; have HK := n0_; have HB := n1_; have HI0 := n2_; clear n0_ n1_ n2_; (try clear hb); (try clear hb2); (try clear hk); (try clear hi)))
  (try simp only [Act.put, setIfInBounds_toArray, set_cons_zero, set_cons_succ])
  go_cut [31] (fun v31 wc => ∃ (kq : Nat) (x31_6 : Bool), v31 = .bool x31_6 ∧ Aside0 (firkinref01_S_Text.j0 kq t384 x31_6 t385 t386 = some (r1, r2, r3)) ∧ Aside0 (kq ≤ k) ∧ Aside0 (IsS45 w0 wc g t385 t386) ∧ Aside0 (KeepBut w wc g none) ∧ Aside0 (Below w0.heap.size w0 wc))
  case first =>
   have H := HC7.out
   clear HC7
   by_cases c9 : t386 = true
   ·subst c9
    have H1 : (firkinref01_S_Text.j0 k t384 true t385 true) = some (r1, r2, r3) := by rw [if_pos rfl] at H; exact H
    clear H
    have H := H1
    clear H1
    have H' := A_ H
    clear H
    obtain ⟨ASz10_0, cSz10_0, HGz10, hgz10, ⟨HSz10_0, _⟩⟩ := HI0.out
    have hcz10_0 := cellS45_0 HGz10
    have hcz10_1 := cellS45_1 HGz10
    have hfz10_0 := bf_ HGz10 0
    have hfz10_1 := bf_ HGz10 1
    clear HGz10 hgz10
    go_wp2
    go_meet
    case rel => exact ⟨_, (true), (by first | rfl | (simp; done) | (simp [*]; done)), H', ⟨by first | omega | exact Nat.le_refl _⟩, ⟨by repeat (first | (with_reducible first | exact HI0.out | apply IsS45.alloc | apply IsS45.drewN | apply IsS45.drew | apply IsS45.set_0 | apply IsS45.set_1) | exact HI0.out)⟩, ⟨by repeat (first | (with_reducible first | exact HK.out | apply KeepBut.set_ | apply keep_drewN | apply keep_drew | apply keep_alloc) | exact HK.out)⟩, ⟨by repeat (first | (with_reducible first | exact HB.out | apply ba_ | apply bn_ | apply bd_ | refine bs_ ?_ (IsS45.ge HI0.out)) | exact HB.out)⟩⟩
   ·replace c9 := Bool.eq_false_iff.mpr c9
    subst c9
    have H1 : (if t384 > (IntKind.u64.wrap (a1)) then (firkinref01_S_Text.j0 k t384 true t385 false) else (firkinref01_S_Text.j0 k t384 (decide (t384 > (IntKind.u64.wrap ((t385.length : Int))))) t385 false)) = some (r1, r2, r3) := by rw [if_neg (show ¬ (false = true) by decide)] at H; exact H
    clear H
    have H := H1
    clear H1
    by_cases c11 : t384 > (IntKind.u64.wrap (a1))
    ·rw [if_pos c11] at H
     have c11b0 : decide ((IntKind.u64.wrap (a1)) < t384) = true := decide_eq_true c11
     clear c11
     (first | rw [c11b0] | (simp only [i64_w, i32_w]; rw [c11b0]) | skip)
     have H' := A_ H
     clear H
     obtain ⟨ASz12_0, cSz12_0, HGz12, hgz12, ⟨HSz12_0, _⟩⟩ := HI0.out
     have hcz12_0 := cellS45_0 HGz12
     have hcz12_1 := cellS45_1 HGz12
     have hfz12_0 := bf_ HGz12 0
     have hfz12_1 := bf_ HGz12 1
     clear HGz12 hgz12
     go_wp2
     go_meet
     case rel => exact ⟨_, (true), (by first | rfl | (simp; done) | (simp [*]; done)), H', ⟨by first | omega | exact Nat.le_refl _⟩, ⟨by repeat (first | (with_reducible first | exact HI0.out | apply IsS45.alloc | apply IsS45.drewN | apply IsS45.drew | apply IsS45.set_0 | apply IsS45.set_1) | exact HI0.out)⟩, ⟨by repeat (first | (with_reducible first | exact HK.out | apply KeepBut.set_ | apply keep_drewN | apply keep_drew | apply keep_alloc) | exact HK.out)⟩, ⟨by repeat (first | (with_reducible first | exact HB.out | apply ba_ | apply bn_ | apply bd_ | refine bs_ ?_ (IsS45.ge HI0.out)) | exact HB.out)⟩⟩
    ·rw [if_neg c11] at H
     have c11b0 : decide ((IntKind.u64.wrap (a1)) < t384) = false := decide_eq_false c11
     clear c11
     (first | rw [c11b0] | (simp only [i64_w, i32_w]; rw [c11b0]) | skip)
     have H' := A_ H
     clear H
     obtain ⟨ASz13_0, cSz13_0, HGz13, hgz13, ⟨HSz13_0, _⟩⟩ := HI0.out
     have hcz13_0 := cellS45_0 HGz13
     have hcz13_1 := cellS45_1 HGz13
     have hfz13_0 := bf_ HGz13 0
     have hfz13_1 := bf_ HGz13 1
     clear HGz13 hgz13
     go_wp2
     go_meet
     case rel => exact ⟨_, (decide (t384 > (IntKind.u64.wrap ((t385.length : Int))))), (by first | rfl | (simp; done) | (simp [*]; done)), H', ⟨by first | omega | exact Nat.le_refl _⟩, ⟨by repeat (first | (with_reducible first | exact HI0.out | apply IsS45.alloc | apply IsS45.drewN | apply IsS45.drew | apply IsS45.set_0 | apply IsS45.set_1) | exact HI0.out)⟩, ⟨by repeat (first | (with_reducible first | exact HK.out | apply KeepBut.set_ | apply keep_drewN | apply keep_drew | apply keep_alloc) | exact HK.out)⟩, ⟨by repeat (first | (with_reducible first | exact HB.out | apply ba_ | apply bn_ | apply bd_ | refine bs_ ?_ (IsS45.ge HI0.out)) | exact HB.out)⟩⟩
  case rest =>
   clear HC7
   try clear c1
   try clear p2
   try clear c3
   try clear c3b0
   try clear c4
   try clear c9
   try clear c11
   try clear c11b0
   try clear hcz10_0
   try clear hcz10_1
   try clear hcz12_0
   try clear hcz12_1
   try clear hcz13_0
   try clear hcz13_1
   try clear hfz10_0
   try clear hfz10_1
   try clear hfz12_0
   try clear hfz12_1
   try clear hfz13_0
   try clear hfz13_1
   obtain ⟨kq, x31_6, rfl, HA, HJ6, HI0, HK, HB⟩ := hcut
   cases kq with
   | zero => exact absurd HA.out (by simp [firkinref01_S_Text.j0])
   | succ kj6 =>
    have H := HA.out
    clear HA
    simp only [firkinref01_S_Text.j0] at H
    by_cases c14 : x31_6 = true
    ·subst c14
     have H1 : ((firkinref01_S_Fail.f t385 t386).bind fun bt387 => (some ((⟨#[]⟩ : ByteArray), bt387.1, bt387.2))) = some (r1, r2, r3) := by rw [if_pos rfl] at H; exact H
     clear H
     have H := H1
     clear H1
     replace H := Option.bind_eq_some_iff.mp H
     obtain ⟨⟨t387, t388⟩, A150, H⟩ := H
     replace H : (some ((⟨#[]⟩ : ByteArray), t387, t388)) = some (r1, r2, r3) := H
     have A15 := A_ A150
     clear A150
     simp only [Option.some.injEq, Prod.mk.injEq] at H
     obtain ⟨rfl, rfl, rfl⟩ := H
     go_wp2_with (first | ((with_reducible refine gate_callee (f := 40) rfl ?_); refine goesL_ (some 33) rfl rfl Try.func40 (by kernel_rfl) rfl #[.pointer (some ⟨g, 0, none⟩)] rfl (by (try simp only [List.map_toArray, List.map_cons, List.map_nil]); first | done | rfl | (simp only [List.length_drop, List.length_take]; rfl)) ?_; (with_reducible refine (firkinref01_S_Fail.calls g t385 t386 t387 t388 w0 _ ?side1 ?side2 A15.out).mono ?_); (case side1 => repeat (first | (with_reducible first | exact HI0.out | apply IsS45.alloc | apply IsS45.drewN | apply IsS45.drew | apply IsS45.set_0 | apply IsS45.set_1) | exact HI0.out)); (case side2 => repeat (first | (with_reducible first | exact HB.out | apply ba_ | apply bn_ | apply bd_ | refine bs_ ?_ (IsS45.ge HI0.out)) | exact HB.out)); rintro e w16 ⟨rfl, hi, hb, hk⟩; refine ⟨_, rfl, ?_⟩; have n0_ := A_ (KeepBut.trans (by repeat (first | (with_reducible first | exact HK.out | apply KeepBut.set_ | apply keep_drewN | apply keep_drew | apply keep_alloc) | exact HK.out)) hk (.inl rfl)); have n1_ := A_ (hb); have n2_ := A_ (hi); clear HK; clear HB; clear HI0; have HK := n0_; have HB := n1_; have HI0 := n2_; clear n0_ n1_ n2_; (try clear hb); (try clear hb2); (try clear hk); (try clear hi)))
     go_ret
     exact ⟨by first | rfl | (simp [errW_none, errW_some] <;> rfl) | (simp [*, errW_none, errW_some] <;> rfl), by repeat (first | (with_reducible first | exact HI0.out | apply IsS45.alloc | apply IsS45.drewN | apply IsS45.drew | apply IsS45.set_0 | apply IsS45.set_1) | exact HI0.out), by repeat (first | (with_reducible first | exact HB.out | apply ba_ | apply bn_ | apply bd_ | refine bs_ ?_ (IsS45.ge HI0.out)) | exact HB.out), by repeat (first | (with_reducible first | exact HK.out | apply KeepBut.set_ | apply keep_drewN | apply keep_drew | apply keep_alloc) | exact HK.out)⟩
    ·replace c14 := Bool.eq_false_iff.mpr c14
     subst c14
     have H1 : ((firkinref01_S_Take.f t385 t386 (wrap64 (t384))).bind fun bt389 => (some (strOfNums bt389.1, bt389.2.1, bt389.2.2))) = some (r1, r2, r3) := by rw [if_neg (show ¬ (false = true) by decide)] at H; exact H
     clear H
     have H := H1
     clear H1
     replace H := Option.bind_eq_some_iff.mp H
     obtain ⟨⟨t389, t392, t393⟩, A170, H⟩ := H
     replace H : (some (strOfNums t389, t392, t393)) = some (r1, r2, r3) := H
     have A17 := A_ A170
     clear A170
     simp only [Option.some.injEq, Prod.mk.injEq] at H
     obtain ⟨rfl, rfl, rfl⟩ := H
     go_wp2_with (first | ((with_reducible refine gate_callee (f := 38) rfl ?_); refine goesL_ (some 37) rfl rfl Try.func38 (by kernel_rfl) rfl #[.pointer (some ⟨g, 0, none⟩), .int .i64 (wrap64 (t384))] rfl (by (try simp only [List.map_toArray, List.map_cons, List.map_nil]); first | done | rfl | (simp only [List.length_drop, List.length_take]; rfl)) ?_; (with_reducible refine (firkinref01_S_Take.calls g t385 t386 (wrap64 (t384)) t389 t392 t393 w0 _ ?side1 ?side2 A17.out).mono ?_); (case side1 => repeat (first | (with_reducible first | exact HI0.out | apply IsS45.alloc | apply IsS45.drewN | apply IsS45.drew | apply IsS45.set_0 | apply IsS45.set_1) | exact HI0.out)); (case side2 => repeat (first | (with_reducible first | exact HB.out | apply ba_ | apply bn_ | apply bd_ | refine bs_ ?_ (IsS45.ge HI0.out)) | exact HB.out)); rintro e w18 ⟨v390, rfl, ho0, hi, hb, hk⟩; refine ⟨_, rfl, ?_⟩; have n0_ := A_ (Kd.R_lower ho0 (keep_size (w := w) (g := g) (row := none) (by repeat (first | (with_reducible first | exact HK.out | apply KeepBut.set_ | apply keep_drewN | apply keep_drew | apply keep_alloc) | exact HK.out)))); have n1_ := A_ (KeepBut.trans (by repeat (first | (with_reducible first | exact HK.out | apply KeepBut.set_ | apply keep_drewN | apply keep_drew | apply keep_alloc) | exact HK.out)) hk (.inl rfl)); have n2_ := A_ (hb); have n3_ := A_ (hi); clear HK; clear HB; clear HI0; have HO391 := n0_; have HK := n1_; have HB := n2_; have HI0 := n3_; clear n0_ n1_ n2_ n3_; (try clear hb); (try clear hb2); (try clear hk); (try clear hi); (try clear ho0); have hcv19 := own_string (P := Try.prog) Try.underlying31 Try.underlying5 Try.underlying9 (Kd.own_of_R HO391.out)))
     go_ret
     exact ⟨by first | rfl | (simp [errW_none, errW_some] <;> rfl) | (simp [*, errW_none, errW_some] <;> rfl), by repeat (first | (with_reducible first | exact HI0.out | apply IsS45.alloc | apply IsS45.drewN | apply IsS45.drew | apply IsS45.set_0 | apply IsS45.set_1) | exact HI0.out), by repeat (first | (with_reducible first | exact HB.out | apply ba_ | apply bn_ | apply bd_ | refine bs_ ?_ (IsS45.ge HI0.out)) | exact HB.out), by repeat (first | (with_reducible first | exact HK.out | apply KeepBut.set_ | apply keep_drewN | apply keep_drew | apply keep_alloc) | exact HK.out)⟩

end Go.Proofs.Ytkdlfejokahohaa.X
namespace Go.Proofs.Ytkdlfejokahohaa.X
open Go.RowKit Go.Proofs.YtkdlfejokahohaaW.PrintWords Go.Proofs.YtkdlfejokahohaaW.PrintLast Go.Proofs.YtkdlfejokahohaaW.PrintMore
attribute [local go_sem] max2_int min2_int max_two min_two max_three min_three max_four min_four   -- for this text's walks alone
set_option linter.unusedVariables false
open List (setIfInBounds_toArray set_cons_zero set_cons_succ)
set_option linter.unusedSimpArgs false

mutual
def firkinref09_Take.j0 : Nat → Int → Int → Bool → List Int → Bool → Bool → Int → ByteArray → Option (Bool × Int × ByteArray × List Int × Bool)
 | 0, _, _, _, _, _, _, _, _ => none
 | k + 1, x1, x5, x17, x1000, x1001, x399000, x399001, x399002 => if x17 = true then ((firkinref01_S_Text.f k x1000 x1001 40).bind fun bt399 => (firkinref09_Take.j1 k x1 x5 bt399.2.1 bt399.2.2 x399000 x399001 bt399.1)) else (firkinref09_Take.j1 k x1 x5 x1000 x1001 x399000 x399001 x399002)
def firkinref09_Take.j1 : Nat → Int → Int → List Int → Bool → Bool → Int → ByteArray → Option (Bool × Int × ByteArray × List Int × Bool)
 | 0, _, _, _, _, _, _, _ => none
 | k + 1, x1, x5, x1000, x1001, x399000, x399001, x399002 => if x5 = 1 then (firkinref09_Take.j2 k x1 (x1 != 3) x1000 x1001 x399000 x399001 x399002) else (firkinref09_Take.j2 k x1 false x1000 x1001 x399000 x399001 x399002)
def firkinref09_Take.j2 : Nat → Int → Bool → List Int → Bool → Bool → Int → ByteArray → Option (Bool × Int × ByteArray × List Int × Bool)
 | 0, _, _, _, _, _, _, _ => none
 | k + 1, x1, x26, x1000, x1001, x399000, x399001, x399002 => if x26 = true then ((firkinref01_S_Int.f x1000 x1001).bind fun bt402 => (firkinref09_Take.j3 k x1 bt402.2.1 bt402.2.2 x399000 bt402.1 x399002)) else (firkinref09_Take.j3 k x1 x1000 x1001 x399000 x399001 x399002)
def firkinref09_Take.j3 : Nat → Int → List Int → Bool → Bool → Int → ByteArray → Option (Bool × Int × ByteArray × List Int × Bool)
 | 0, _, _, _, _, _, _ => none
 | k + 1, x1, x1000, x1001, x399000, x399001, x399002 => if x1001 = true then ((firkinref01_S_Fail.f x1000 x1001).bind fun bt405 => (some (false, 0, (⟨#[]⟩ : ByteArray), bt405.1, bt405.2))) else ((firkinref09_May.f k x1 true x399000 x399001 x399002).bind fun t407 => (if t407 = true then (some (x399000, x399001, x399002, x1000, x1001)) else ((firkinref01_S_Fail.f x1000 x1001).bind fun bt408 => (some (false, 0, (⟨#[]⟩ : ByteArray), bt408.1, bt408.2)))))
end
def firkinref09_Take.f (k : Nat) (s0_0 : List Int) (s0_1 : Bool) (a1 : Int) : Option (Bool × Int × ByteArray × List Int × Bool) := (firkinref01_S_Below.f s0_0 s0_1 2).bind fun bt395 => (if bt395.1 = 1 then (firkinref09_Take.j0 k a1 bt395.1 (a1 == 3) bt395.2.1 bt395.2.2 (bt395.1 == 0) 0 (⟨#[]⟩ : ByteArray)) else (firkinref09_Take.j0 k a1 bt395.1 false bt395.2.1 bt395.2.2 (bt395.1 == 0) 0 (⟨#[]⟩ : ByteArray)))
theorem firkinref09_Take.mono_l : ∀ k, (∀ y0 y1 y2 y3 y4 y5 y6 y7, LeO (firkinref09_Take.j0 k y0 y1 y2 y3 y4 y5 y6 y7) (firkinref09_Take.j0 (k + 1) y0 y1 y2 y3 y4 y5 y6 y7)) ∧ (∀ y0 y1 y2 y3 y4 y5 y6, LeO (firkinref09_Take.j1 k y0 y1 y2 y3 y4 y5 y6) (firkinref09_Take.j1 (k + 1) y0 y1 y2 y3 y4 y5 y6)) ∧ (∀ y0 y1 y2 y3 y4 y5 y6, LeO (firkinref09_Take.j2 k y0 y1 y2 y3 y4 y5 y6) (firkinref09_Take.j2 (k + 1) y0 y1 y2 y3 y4 y5 y6)) ∧ (∀ y0 y1 y2 y3 y4 y5, LeO (firkinref09_Take.j3 k y0 y1 y2 y3 y4 y5) (firkinref09_Take.j3 (k + 1) y0 y1 y2 y3 y4 y5))
 | 0 => ⟨fun _ _ _ _ _ _ _ _ r h => by simp [firkinref09_Take.j0] at h, fun _ _ _ _ _ _ _ r h => by simp [firkinref09_Take.j1] at h, fun _ _ _ _ _ _ _ r h => by simp [firkinref09_Take.j2] at h, fun _ _ _ _ _ _ r h => by simp [firkinref09_Take.j3] at h⟩
 | k + 1 => by
  obtain ⟨ih0, ih1, ih2, ih3⟩ := firkinref09_Take.mono_l k
  refine ⟨?_, ?_, ?_, ?_⟩
  ·intro y0 y1 y2 y3 y4 y5 y6 y7
   unfold firkinref09_Take.j0
   repeat' first
   | (with_reducible exact ih0 _ _ _ _ _ _ _ _)
   | (with_reducible exact ih1 _ _ _ _ _ _ _)
   | (with_reducible exact ih2 _ _ _ _ _ _ _)
   | (with_reducible exact ih3 _ _ _ _ _ _)
   | (with_reducible exact firkinref01_S_Text.mono _ _ _ _)
   | (with_reducible exact firkinref09_May.mono _ _ _ _ _ _)
   | (with_reducible exact LeO.refl _)
   | (with_reducible exact LeO.none _)
   | (with_reducible refine LeO.ite ?_ ?_)
   | (with_reducible refine LeO.bind ?_ (fun _ => ?_))
   | exact ih0 _ _ _ _ _ _ _ _
   | exact ih1 _ _ _ _ _ _ _
   | exact ih2 _ _ _ _ _ _ _
   | exact ih3 _ _ _ _ _ _
   | exact firkinref01_S_Text.mono _ _ _ _
   | exact firkinref09_May.mono _ _ _ _ _ _
   | exact LeO.none _
   | refine LeO.ite ?_ ?_
   | refine LeO.bind ?_ (fun _ => ?_)
  ·intro y0 y1 y2 y3 y4 y5 y6
   unfold firkinref09_Take.j1
   repeat' first
   | (with_reducible exact ih0 _ _ _ _ _ _ _ _)
   | (with_reducible exact ih1 _ _ _ _ _ _ _)
   | (with_reducible exact ih2 _ _ _ _ _ _ _)
   | (with_reducible exact ih3 _ _ _ _ _ _)
   | (with_reducible exact firkinref01_S_Text.mono _ _ _ _)
   | (with_reducible exact firkinref09_May.mono _ _ _ _ _ _)
   | (with_reducible exact LeO.refl _)
   | (with_reducible exact LeO.none _)
   | (with_reducible refine LeO.ite ?_ ?_)
   | (with_reducible refine LeO.bind ?_ (fun _ => ?_))
   | exact ih0 _ _ _ _ _ _ _ _
   | exact ih1 _ _ _ _ _ _ _
   | exact ih2 _ _ _ _ _ _ _
   | exact ih3 _ _ _ _ _ _
   | exact firkinref01_S_Text.mono _ _ _ _
   | exact firkinref09_May.mono _ _ _ _ _ _
   | exact LeO.none _
   | refine LeO.ite ?_ ?_
   | refine LeO.bind ?_ (fun _ => ?_)
  ·intro y0 y1 y2 y3 y4 y5 y6
   unfold firkinref09_Take.j2
   repeat' first
   | (with_reducible exact ih0 _ _ _ _ _ _ _ _)
   | (with_reducible exact ih1 _ _ _ _ _ _ _)
   | (with_reducible exact ih2 _ _ _ _ _ _ _)
   | (with_reducible exact ih3 _ _ _ _ _ _)
   | (with_reducible exact firkinref01_S_Text.mono _ _ _ _)
   | (with_reducible exact firkinref09_May.mono _ _ _ _ _ _)
   | (with_reducible exact LeO.refl _)
   | (with_reducible exact LeO.none _)
   | (with_reducible refine LeO.ite ?_ ?_)
   | (with_reducible refine LeO.bind ?_ (fun _ => ?_))
   | exact ih0 _ _ _ _ _ _ _ _
   | exact ih1 _ _ _ _ _ _ _
   | exact ih2 _ _ _ _ _ _ _
   | exact ih3 _ _ _ _ _ _
   | exact firkinref01_S_Text.mono _ _ _ _
   | exact firkinref09_May.mono _ _ _ _ _ _
   | exact LeO.none _
   | refine LeO.ite ?_ ?_
   | refine LeO.bind ?_ (fun _ => ?_)
  ·intro y0 y1 y2 y3 y4 y5
   unfold firkinref09_Take.j3
   repeat' first
   | (with_reducible exact ih0 _ _ _ _ _ _ _ _)
   | (with_reducible exact ih1 _ _ _ _ _ _ _)
   | (with_reducible exact ih2 _ _ _ _ _ _ _)
   | (with_reducible exact ih3 _ _ _ _ _ _)
   | (with_reducible exact firkinref01_S_Text.mono _ _ _ _)
   | (with_reducible exact firkinref09_May.mono _ _ _ _ _ _)
   | (with_reducible exact LeO.refl _)
   | (with_reducible exact LeO.none _)
   | (with_reducible refine LeO.ite ?_ ?_)
   | (with_reducible refine LeO.bind ?_ (fun _ => ?_))
   | exact ih0 _ _ _ _ _ _ _ _
   | exact ih1 _ _ _ _ _ _ _
   | exact ih2 _ _ _ _ _ _ _
   | exact ih3 _ _ _ _ _ _
   | exact firkinref01_S_Text.mono _ _ _ _
   | exact firkinref09_May.mono _ _ _ _ _ _
   | exact LeO.none _
   | refine LeO.ite ?_ ?_
   | refine LeO.bind ?_ (fun _ => ?_)
theorem firkinref09_Take.mono : ∀ a0 a1 a2 k, LeO (firkinref09_Take.f k a0 a1 a2) (firkinref09_Take.f (k + 1) a0 a1 a2) := by
 intro a0 a1 a2 k
 obtain ⟨ih0, ih1, ih2, ih3⟩ := firkinref09_Take.mono_l k
 unfold firkinref09_Take.f
 repeat' first
   | (with_reducible exact ih0 _ _ _ _ _ _ _ _)
   | (with_reducible exact ih1 _ _ _ _ _ _ _)
   | (with_reducible exact ih2 _ _ _ _ _ _ _)
   | (with_reducible exact ih3 _ _ _ _ _ _)
   | (with_reducible exact firkinref01_S_Text.mono _ _ _ _)
   | (with_reducible exact firkinref09_May.mono _ _ _ _ _ _)
   | (with_reducible exact LeO.refl _)
   | (with_reducible exact LeO.none _)
   | (with_reducible refine LeO.ite ?_ ?_)
   | (with_reducible refine LeO.bind ?_ (fun _ => ?_))
   | exact ih0 _ _ _ _ _ _ _ _
   | exact ih1 _ _ _ _ _ _ _
   | exact ih2 _ _ _ _ _ _ _
   | exact ih3 _ _ _ _ _ _
   | exact firkinref01_S_Text.mono _ _ _ _
   | exact firkinref09_May.mono _ _ _ _ _ _
   | exact LeO.none _
   | refine LeO.ite ?_ ?_
   | refine LeO.bind ?_ (fun _ => ?_)
theorem firkinref09_Take.calls (k : Nat) (g : Nat) (s0_0 : List Int) (s0_1 : Bool) (a1 : Int) (r1 : Bool) (r2 : Int) (r3 : ByteArray) (r4 : List Int) (r5 : Bool) (w0 w : World) (hI : IsS45 w0 w g s0_0 s0_1) (hB : Below w0.heap.size w0 w) (h : firkinref09_Take.f k s0_0 s0_1 a1 = some (r1, r2, r3, r4, r5)) :
  Calls Try.prog 66 #[.pointer (some ⟨g, 0, none⟩), .int .i64 a1] w fun e w' => e = .returned (.agg #[.bool r1, .int .i64 r2, .string r3]) ∧ IsS45 w0 w' g r4 r5 ∧ Below w0.heap.size w0 w' ∧ KeepBut w w' g none := by
 have hu23 := Try.underlying23
 have HI0 := A_ hI
 have HK := A_ (KeepBut.refl w g none)
 have HL := A_ hB.size
 clear hI
 have HW0 := A_ hB.size
 have HB := A_ hB
 clear hB
 have H : ((firkinref01_S_Below.f s0_0 s0_1 2).bind fun bt395 => (if bt395.1 = 1 then (firkinref09_Take.j0 k a1 bt395.1 (a1 == 3) bt395.2.1 bt395.2.2 (bt395.1 == 0) 0 (⟨#[]⟩ : ByteArray)) else (firkinref09_Take.j0 k a1 bt395.1 false bt395.2.1 bt395.2.2 (bt395.1 == 0) 0 (⟨#[]⟩ : ByteArray)))) = some (r1, r2, r3, r4, r5) := h
 clear h
 replace H := Option.bind_eq_some_iff.mp H
 obtain ⟨⟨t395, t396, t397⟩, A30, H⟩ := H
 replace H : (if t395 = 1 then (firkinref09_Take.j0 k a1 t395 (a1 == 3) t396 t397 (t395 == 0) 0 (⟨#[]⟩ : ByteArray)) else (firkinref09_Take.j0 k a1 t395 false t396 t397 (t395 == 0) 0 (⟨#[]⟩ : ByteArray))) = some (r1, r2, r3, r4, r5) := H
 have A3 := A_ A30
 clear A30
 have HC4 := A_ H
 clear H
 go_enter Try.func66, Try.ntmps66
 go_upto_region 3 with (first | ((with_reducible refine gate_dst (N := 4) rfl ?_); refine box_event ?hg (N := 4) ?hd (cs := #[.bool false, .int .i64 0, .string (⟨#[]⟩ : ByteArray)]) (t := 23) ?hr ?_; (case hd => rfl); (case hg => rfl); (case hr => first | (go_simp; done) | (go_simp; rfl)); intro gb394 hg w5 hbox hb; have n0_ := A_ (IsS45.below (by repeat (first | (with_reducible first | exact HI0.out | apply IsS45.alloc | apply IsS45.drewN | apply IsS45.drew | apply IsS45.set_0 | apply IsS45.set_1) | exact HI0.out)) hb); have n1_ := A_ (KeepBut.trans (by repeat (first | (with_reducible first | exact HK.out | apply KeepBut.set_ | apply keep_drewN | apply keep_drew | apply keep_alloc) | exact HK.out)) (KeepBut.of_below hb g none) (.inl rfl)); have n2_ := A_ (bp_ (by repeat (first | (with_reducible first | exact HB.out | apply ba_ | apply bn_ | apply bd_ | refine bs_ ?_ (IsS45.ge HI0.out)) | exact HB.out)) hb); have n3_ := A_ (hbox); have n4_ := A_ ((by rw [hg]; exact (keep_size (w := w) (g := g) (row := none) (by repeat (first | (with_reducible first | exact HK.out | apply KeepBut.set_ | apply keep_drewN | apply keep_drew | apply keep_alloc) | exact HK.out))) : w.heap.size ≤ gb394)); have n5_ := A_ ((Nat.le_trans HW0.out (by rw [hg]; exact (keep_size (w := w) (g := g) (row := none) (by repeat (first | (with_reducible first | exact HK.out | apply KeepBut.set_ | apply keep_drewN | apply keep_drew | apply keep_alloc) | exact HK.out))) : w.heap.size ≤ gb394) : w0.heap.size ≤ gb394)); have n6_ := A_ ((by rw [hg]; exact Nat.ne_of_lt (IsS45.lt (show IsS45 w0 _ g s0_0 s0_1 from by repeat (first | (with_reducible first | exact HI0.out | apply IsS45.alloc | apply IsS45.drewN | apply IsS45.drew | apply IsS45.set_0 | apply IsS45.set_1) | exact HI0.out))) : g ≠ gb394)); have n7_ := A_ ((by rw [hg]; exact Nat.ne_of_gt (IsS45.lt (show IsS45 w0 _ g s0_0 s0_1 from by repeat (first | (with_reducible first | exact HI0.out | apply IsS45.alloc | apply IsS45.drewN | apply IsS45.drew | apply IsS45.set_0 | apply IsS45.set_1) | exact HI0.out))) : gb394 ≠ g)); clear HI0; clear HK; clear HB; have HI0 := n0_; have HK := n1_; have HB := n2_; have BK394 := n3_; have GW394 := n4_; have GE394 := n5_; have NB0_394 := n6_; have NB394_0 := n7_; clear n0_ n1_ n2_ n3_ n4_ n5_ n6_ n7_; clear hb hbox hg) | ((with_reducible refine gate_callee (f := 34) rfl ?_); refine goesL_ (some 8) rfl rfl Try.func34 (by kernel_rfl) rfl #[.pointer (some ⟨g, 0, none⟩), .int .i64 2] rfl (by (try simp only [List.map_toArray, List.map_cons, List.map_nil]); first | done | rfl | (simp only [List.length_drop, List.length_take]; rfl)) ?_; (with_reducible refine (firkinref01_S_Below.calls g s0_0 s0_1 2 t395 t396 t397 w0 _ ?side1 ?side2 A3.out).mono ?_); (case side1 => repeat (first | (with_reducible first | exact HI0.out | apply IsS45.alloc | apply IsS45.drewN | apply IsS45.drew | apply IsS45.set_0 | apply IsS45.set_1 | apply IsS45.far (p := ⟨gb394, _, none⟩) (hne := NB0_394.out)) | exact HI0.out)); (case side2 => repeat (first | (with_reducible first | exact HB.out | apply ba_ | apply bn_ | apply bd_ | refine bs_ ?_ (IsS45.ge HI0.out) | refine bs_ ?_ GE394.out) | exact HB.out)); rintro e w6 ⟨rfl, hi, hb, hk⟩; refine ⟨_, rfl, ?_⟩; have n0_ := A_ (KeepBut.blk hk (g' := gb394) (o := .cells #[.bool false, .int .i64 0, .string (⟨#[]⟩ : ByteArray)] 23 (0, 0)) (by (with_reducible repeat (first | refine kn_ ?_ _ | refine kd_ ?_ | refine ka_ ?_ _)); exact BK394.out) NB394_0.out (by simp)); have n1_ := A_ (KeepBut.trans (by repeat (first | (with_reducible first | exact HK.out | apply KeepBut.set_ | apply keep_drewN | apply keep_drew | apply keep_alloc | refine keep_far ?_ GW394.out _) | exact HK.out)) hk (.inl rfl)); have n2_ := A_ (hb); have n3_ := A_ (hi); clear BK394; clear HK; clear HB; clear HI0; have BK394 := n0_; have HK := n1_; have HB := n2_; have HI0 := n3_; clear n0_ n1_ n2_ n3_; (try clear hb); (try clear hb2); (try clear hk); (try clear hi)) | ((with_reducible refine gate_dst (N := 6) rfl ?_); refine box_event ?hg (N := 6) ?hd (cs := #[.bool false, .int .i64 0, .string (⟨#[]⟩ : ByteArray)]) (t := 23) ?hr ?_; (case hd => rfl); (case hg => rfl); (case hr => first | (go_simp; done) | (go_simp; rfl)); intro gb398 hg w7 hbox hb; have n0_ := A_ (IsS45.below (by repeat (first | (with_reducible first | exact HI0.out | apply IsS45.alloc | apply IsS45.drewN | apply IsS45.drew | apply IsS45.set_0 | apply IsS45.set_1 | apply IsS45.far (p := ⟨gb394, _, none⟩) (hne := NB0_394.out)) | exact HI0.out)) hb); have n1_ := A_ (blk_below (g := gb394) (o := .cells #[.bool false, .int .i64 0, .string (⟨#[]⟩ : ByteArray)] 23 (0, 0)) (by (with_reducible repeat (first | refine kn_ ?_ _ | refine kd_ ?_ | refine ka_ ?_ _)); exact BK394.out) hb); have n2_ := A_ (KeepBut.trans (by repeat (first | (with_reducible first | exact HK.out | apply KeepBut.set_ | apply keep_drewN | apply keep_drew | apply keep_alloc | refine keep_far ?_ GW394.out _) | exact HK.out)) (KeepBut.of_below hb g none) (.inl rfl)); have n3_ := A_ (bp_ (by repeat (first | (with_reducible first | exact HB.out | apply ba_ | apply bn_ | apply bd_ | refine bs_ ?_ (IsS45.ge HI0.out) | refine bs_ ?_ GE394.out) | exact HB.out)) hb); have n4_ := A_ (hbox); have n5_ := A_ ((by rw [hg]; exact (keep_size (w := w) (g := g) (row := none) (by repeat (first | (with_reducible first | exact HK.out | apply KeepBut.set_ | apply keep_drewN | apply keep_drew | apply keep_alloc | refine keep_far ?_ GW394.out _) | exact HK.out))) : w.heap.size ≤ gb398)); have n6_ := A_ ((Nat.le_trans HW0.out (by rw [hg]; exact (keep_size (w := w) (g := g) (row := none) (by repeat (first | (with_reducible first | exact HK.out | apply KeepBut.set_ | apply keep_drewN | apply keep_drew | apply keep_alloc | refine keep_far ?_ GW394.out _) | exact HK.out))) : w.heap.size ≤ gb398) : w0.heap.size ≤ gb398)); have n7_ := A_ ((by rw [hg]; exact Nat.ne_of_lt (blk_lt (g := gb394) (o := .cells #[.bool false, .int .i64 0, .string (⟨#[]⟩ : ByteArray)] 23 (0, 0)) (by (with_reducible repeat (first | refine kn_ ?_ _ | refine kd_ ?_ | refine ka_ ?_ _)); exact BK394.out)) : gb394 ≠ gb398)); have n8_ := A_ ((by rw [hg]; exact Nat.ne_of_gt (blk_lt (g := gb394) (o := .cells #[.bool false, .int .i64 0, .string (⟨#[]⟩ : ByteArray)] 23 (0, 0)) (by (with_reducible repeat (first | refine kn_ ?_ _ | refine kd_ ?_ | refine ka_ ?_ _)); exact BK394.out)) : gb398 ≠ gb394)); have n9_ := A_ ((by rw [hg]; exact Nat.ne_of_lt (IsS45.lt (show IsS45 w0 _ g t396 t397 from by repeat (first | (with_reducible first | exact HI0.out | apply IsS45.alloc | apply IsS45.drewN | apply IsS45.drew | apply IsS45.set_0 | apply IsS45.set_1 | apply IsS45.far (p := ⟨gb394, _, none⟩) (hne := NB0_394.out)) | exact HI0.out))) : g ≠ gb398)); have n10_ := A_ ((by rw [hg]; exact Nat.ne_of_gt (IsS45.lt (show IsS45 w0 _ g t396 t397 from by repeat (first | (with_reducible first | exact HI0.out | apply IsS45.alloc | apply IsS45.drewN | apply IsS45.drew | apply IsS45.set_0 | apply IsS45.set_1 | apply IsS45.far (p := ⟨gb394, _, none⟩) (hne := NB0_394.out)) | exact HI0.out))) : gb398 ≠ g)); clear HI0; clear BK394; clear HK; clear HB; have HI0 := n0_; have BK394 := n1_; have HK := n2_; have HB := n3_; have BK398 := n4_; have GW398 := n5_; have GE398 := n6_; have NB394_398 := n7_; have NB398_394 := n8_; have NB0_398 := n9_; have NB398_0 := n10_; clear n0_ n1_ n2_ n3_ n4_ n5_ n6_ n7_ n8_ n9_ n10_; clear hb hbox hg; have hnb8 := NB398_394.out; have hnc8 := NB394_398.out; have hnb9 := NB398_0.out; have hnc9 := NB0_398.out; have hcz10_0 : w7.cell? ⟨gb398, 0, none⟩ = some (.bool false) := (bc_ BK398.out 0).trans rfl; have hcz10_1 : w7.cell? ⟨gb398, 1, none⟩ = some (.int .i64 0) := (bc_ BK398.out 1).trans rfl; have hcz10_2 : w7.cell? ⟨gb398, 2, none⟩ = some (.string (⟨#[]⟩ : ByteArray)) := (bc_ BK398.out 2).trans rfl; have hfz10_0 := bf_ BK398.out 0; have hfz10_1 := bf_ BK398.out 1; have hfz10_2 := bf_ BK398.out 2))
 (try simp only [Act.put, setIfInBounds_toArray, set_cons_zero, set_cons_succ])
 go_cut [17] (fun v17 wc => ∃ (kq : Nat) (x17_3 : Bool), v17 = .bool x17_3 ∧ Aside0 (firkinref09_Take.j0 kq a1 t395 x17_3 t396 t397 (t395 == 0) 0 (⟨#[]⟩ : ByteArray) = some (r1, r2, r3, r4, r5)) ∧ Aside0 (kq ≤ k) ∧ Aside0 (wc.heap[gb394]? = some (.cells #[.bool false, .int .i64 0, .string (⟨#[]⟩ : ByteArray)] 23 (0, 0))) ∧ Aside0 (wc.heap[gb398]? = some (.cells #[.bool (t395 == 0), .int .i64 0, .string (⟨#[]⟩ : ByteArray)] 23 (0, 0))) ∧ Aside0 (IsS45 w0 wc g t396 t397) ∧ Aside0 (KeepBut w wc g none) ∧ Aside0 (Below w0.heap.size w0 wc))
 case first =>
  have H := HC4.out
  clear HC4
  by_cases c11 : t395 = 1
  ·rw [if_pos c11] at H
   have c11b0 : (t395 == 1) = true := beq_iff_eq.mpr c11
   have c11b1 : (t395 != 1) = false := bne_eq_false_iff_eq.mpr c11
   clear c11
   (first | rw [c11b0] | (simp only [i64_w, i32_w]; rw [c11b0]) | skip)
   have H' := A_ H
   clear H
   go_wp2
   go_meet
   case rel => exact ⟨_, ((a1 == 3)), (by first | rfl | (simp; done) | (simp [*]; done)), H', ⟨by first | omega | exact Nat.le_refl _⟩, ⟨by (with_reducible repeat (first | refine kn_ ?_ _ | refine kd_ ?_ | refine ka_ ?_ _)); refine blk_far ?_ NB394_398.out _; (with_reducible repeat (first | refine kn_ ?_ _ | refine kd_ ?_ | refine ka_ ?_ _)); refine blk_far ?_ NB394_398.out _; (with_reducible repeat (first | refine kn_ ?_ _ | refine kd_ ?_ | refine ka_ ?_ _)); refine blk_far ?_ NB394_398.out _; (with_reducible repeat (first | refine kn_ ?_ _ | refine kd_ ?_ | refine ka_ ?_ _)); exact BK394.out⟩, ⟨by (with_reducible repeat (first | refine kn_ ?_ _ | refine kd_ ?_ | refine ka_ ?_ _)); refine blk_put (cs := #[.bool (t395 == 0), .int .i64 0, .string (⟨#[]⟩ : ByteArray)]) ?_ 2 _ rfl; (with_reducible repeat (first | refine kn_ ?_ _ | refine kd_ ?_ | refine ka_ ?_ _)); refine blk_put (cs := #[.bool (t395 == 0), .int .i64 0, .string (⟨#[]⟩ : ByteArray)]) ?_ 1 _ rfl; (with_reducible repeat (first | refine kn_ ?_ _ | refine kd_ ?_ | refine ka_ ?_ _)); refine blk_put (cs := #[.bool false, .int .i64 0, .string (⟨#[]⟩ : ByteArray)]) ?_ 0 _ rfl; (with_reducible repeat (first | refine kn_ ?_ _ | refine kd_ ?_ | refine ka_ ?_ _)); exact BK398.out⟩, ⟨by repeat (first | (with_reducible first | exact HI0.out | apply IsS45.alloc | apply IsS45.drewN | apply IsS45.drew | apply IsS45.set_0 | apply IsS45.set_1 | apply IsS45.far (p := ⟨gb394, _, none⟩) (hne := NB0_394.out) | apply IsS45.far (p := ⟨gb398, _, none⟩) (hne := NB0_398.out)) | exact HI0.out)⟩, ⟨by repeat (first | (with_reducible first | exact HK.out | apply KeepBut.set_ | apply keep_drewN | apply keep_drew | apply keep_alloc | refine keep_far ?_ GW394.out _ | refine keep_far ?_ GW398.out _) | exact HK.out)⟩, ⟨by repeat (first | (with_reducible first | exact HB.out | apply ba_ | apply bn_ | apply bd_ | refine bs_ ?_ (IsS45.ge HI0.out) | refine bs_ ?_ GE394.out | refine bs_ ?_ GE398.out) | exact HB.out)⟩⟩
  ·rw [if_neg c11] at H
   have c11b0 : (t395 == 1) = false := beq_eq_false_iff_ne.mpr c11
   have c11b1 : (t395 != 1) = true := bne_iff_ne.mpr c11
   (first | rw [c11b0] | (simp only [i64_w, i32_w]; rw [c11b0]) | skip)
   have H' := A_ H
   clear H
   go_wp2
   go_meet
   case rel => exact ⟨_, (false), (by first | rfl | (simp; done) | (simp [*]; done)), H', ⟨by first | omega | exact Nat.le_refl _⟩, ⟨by (with_reducible repeat (first | refine kn_ ?_ _ | refine kd_ ?_ | refine ka_ ?_ _)); refine blk_far ?_ NB394_398.out _; (with_reducible repeat (first | refine kn_ ?_ _ | refine kd_ ?_ | refine ka_ ?_ _)); refine blk_far ?_ NB394_398.out _; (with_reducible repeat (first | refine kn_ ?_ _ | refine kd_ ?_ | refine ka_ ?_ _)); refine blk_far ?_ NB394_398.out _; (with_reducible repeat (first | refine kn_ ?_ _ | refine kd_ ?_ | refine ka_ ?_ _)); exact BK394.out⟩, ⟨by (with_reducible repeat (first | refine kn_ ?_ _ | refine kd_ ?_ | refine ka_ ?_ _)); refine blk_put (cs := #[.bool (t395 == 0), .int .i64 0, .string (⟨#[]⟩ : ByteArray)]) ?_ 2 _ rfl; (with_reducible repeat (first | refine kn_ ?_ _ | refine kd_ ?_ | refine ka_ ?_ _)); refine blk_put (cs := #[.bool (t395 == 0), .int .i64 0, .string (⟨#[]⟩ : ByteArray)]) ?_ 1 _ rfl; (with_reducible repeat (first | refine kn_ ?_ _ | refine kd_ ?_ | refine ka_ ?_ _)); refine blk_put (cs := #[.bool false, .int .i64 0, .string (⟨#[]⟩ : ByteArray)]) ?_ 0 _ rfl; (with_reducible repeat (first | refine kn_ ?_ _ | refine kd_ ?_ | refine ka_ ?_ _)); exact BK398.out⟩, ⟨by repeat (first | (with_reducible first | exact HI0.out | apply IsS45.alloc | apply IsS45.drewN | apply IsS45.drew | apply IsS45.set_0 | apply IsS45.set_1 | apply IsS45.far (p := ⟨gb394, _, none⟩) (hne := NB0_394.out) | apply IsS45.far (p := ⟨gb398, _, none⟩) (hne := NB0_398.out)) | exact HI0.out)⟩, ⟨by repeat (first | (with_reducible first | exact HK.out | apply KeepBut.set_ | apply keep_drewN | apply keep_drew | apply keep_alloc | refine keep_far ?_ GW394.out _ | refine keep_far ?_ GW398.out _) | exact HK.out)⟩, ⟨by repeat (first | (with_reducible first | exact HB.out | apply ba_ | apply bn_ | apply bd_ | refine bs_ ?_ (IsS45.ge HI0.out) | refine bs_ ?_ GE394.out | refine bs_ ?_ GE398.out) | exact HB.out)⟩⟩
 case rest =>
  clear HC4
  try clear c1
  try clear p2
  try clear c3
  try clear c6
  try clear c8
  try clear c9
  try clear c11
  try clear c11b0
  try clear c11b1
  try clear hcz10_0
  try clear hcz10_1
  try clear hcz10_2
  try clear hfz10_0
  try clear hfz10_1
  try clear hfz10_2
  obtain ⟨kq, x17_3, rfl, HA, HJ3, BK394, BK398, HI0, HK, HB⟩ := hcut
  cases kq with
  | zero => exact absurd HA.out (by simp [firkinref09_Take.j0])
  | succ kj3 =>
   have H := HA.out
   clear HA
   simp only [firkinref09_Take.j0] at H
   have HC12 := A_ H
   clear H
   go_upto_if 17 with (fail)
   go_cut [] (fun wc => ∃ (kq : Nat) (x1000_11 : List Int) (x1001_11 : Bool) (x399002_11 : ByteArray) (u1000 : Value), Aside0 (firkinref09_Take.j1 kq a1 t395 x1000_11 x1001_11 (t395 == 0) 0 x399002_11 = some (r1, r2, r3, r4, r5)) ∧ Aside0 (kq ≤ kj3) ∧ Aside0 (wc.heap[gb394]? = some (.cells #[.bool false, .int .i64 0, .string (⟨#[]⟩ : ByteArray)] 23 (0, 0))) ∧ Aside0 (wc.heap[gb398]? = some (.cells #[.bool (t395 == 0), .int .i64 0, .string x399002_11] 23 (0, 0))) ∧ Aside0 (IsS45 w0 wc g x1000_11 x1001_11) ∧ Aside0 (KeepBut w wc g none) ∧ Aside0 (Below w0.heap.size w0 wc))
   case first =>
    have H := HC12.out
    clear HC12
    by_cases c13 : x17_3 = true
    ·subst c13
     have H1 : ((firkinref01_S_Text.f kj3 t396 t397 40).bind fun bt399 => (firkinref09_Take.j1 kj3 a1 t395 bt399.2.1 bt399.2.2 (t395 == 0) 0 bt399.1)) = some (r1, r2, r3, r4, r5) := by rw [if_pos rfl] at H; exact H
     clear H
     have H := H1
     clear H1
     replace H := Option.bind_eq_some_iff.mp H
     obtain ⟨⟨t399, t400, t401⟩, A140, H⟩ := H
     replace H : (firkinref09_Take.j1 kj3 a1 t395 t400 t401 (t395 == 0) 0 t399) = some (r1, r2, r3, r4, r5) := H
     have A14 := A_ A140
     clear A140
     have H' := A_ H
     clear H
     go_wp2_with (first | ((with_reducible refine gate_callee (f := 36) rfl ?_); refine goesL_ (some 19) rfl rfl Try.func36 (by kernel_rfl) rfl #[.pointer (some ⟨g, 0, none⟩), .int .i64 40] rfl (by (try simp only [List.map_toArray, List.map_cons, List.map_nil]); first | done | rfl | (simp only [List.length_drop, List.length_take]; rfl)) ?_; (with_reducible refine (firkinref01_S_Text.calls kj3 g t396 t397 40 t399 t400 t401 w0 _ ?side1 ?side2 A14.out).mono ?_); (case side1 => repeat (first | (with_reducible first | exact HI0.out | apply IsS45.alloc | apply IsS45.drewN | apply IsS45.drew | apply IsS45.set_0 | apply IsS45.set_1 | apply IsS45.far (p := ⟨gb394, _, none⟩) (hne := NB0_394.out) | apply IsS45.far (p := ⟨gb398, _, none⟩) (hne := NB0_398.out)) | exact HI0.out)); (case side2 => repeat (first | (with_reducible first | exact HB.out | apply ba_ | apply bn_ | apply bd_ | refine bs_ ?_ (IsS45.ge HI0.out) | refine bs_ ?_ GE394.out | refine bs_ ?_ GE398.out) | exact HB.out)); rintro e w15 ⟨rfl, hi, hb, hk⟩; refine ⟨_, rfl, ?_⟩; have n0_ := A_ (KeepBut.blk hk (g' := gb394) (o := .cells #[.bool false, .int .i64 0, .string (⟨#[]⟩ : ByteArray)] 23 (0, 0)) (by (with_reducible repeat (first | refine kn_ ?_ _ | refine kd_ ?_ | refine ka_ ?_ _)); exact BK394.out) NB394_0.out (by simp)); have n1_ := A_ (KeepBut.blk hk (g' := gb398) (o := .cells #[.bool (t395 == 0), .int .i64 0, .string (⟨#[]⟩ : ByteArray)] 23 (0, 0)) (by (with_reducible repeat (first | refine kn_ ?_ _ | refine kd_ ?_ | refine ka_ ?_ _)); exact BK398.out) NB398_0.out (by simp)); have n2_ := A_ (KeepBut.trans (by repeat (first | (with_reducible first | exact HK.out | apply KeepBut.set_ | apply keep_drewN | apply keep_drew | apply keep_alloc | refine keep_far ?_ GW394.out _ | refine keep_far ?_ GW398.out _) | exact HK.out)) hk (.inl rfl)); have n3_ := A_ (hb); have n4_ := A_ (hi); clear BK394; clear BK398; clear HK; clear HB; clear HI0; have BK394 := n0_; have BK398 := n1_; have HK := n2_; have HB := n3_; have HI0 := n4_; clear n0_ n1_ n2_ n3_ n4_; (try clear hb); (try clear hb2); (try clear hk); (try clear hi); have hnb16 := NB398_394.out; have hnc16 := NB394_398.out; have hnb17 := NB398_0.out; have hnc17 := NB0_398.out; have hcz18_0 : w15.cell? ⟨gb398, 0, none⟩ = some (.bool (t395 == 0)) := (bc_ BK398.out 0).trans rfl; have hcz18_1 : w15.cell? ⟨gb398, 1, none⟩ = some (.int .i64 0) := (bc_ BK398.out 1).trans rfl; have hcz18_2 : w15.cell? ⟨gb398, 2, none⟩ = some (.string (⟨#[]⟩ : ByteArray)) := (bc_ BK398.out 2).trans rfl; have hfz18_0 := bf_ BK398.out 0; have hfz18_1 := bf_ BK398.out 1; have hfz18_2 := bf_ BK398.out 2))
     go_meet
     case rel => exact ⟨_, (t400), (t401), (t399), (Value.slice none 0 0), H', ⟨by have := HJ3.out; first | omega | exact Nat.le_refl _⟩, ⟨by (with_reducible repeat (first | refine kn_ ?_ _ | refine kd_ ?_ | refine ka_ ?_ _)); refine blk_far ?_ NB394_398.out _; (with_reducible repeat (first | refine kn_ ?_ _ | refine kd_ ?_ | refine ka_ ?_ _)); exact BK394.out⟩, ⟨by (with_reducible repeat (first | refine kn_ ?_ _ | refine kd_ ?_ | refine ka_ ?_ _)); refine blk_put (cs := #[.bool (t395 == 0), .int .i64 0, .string (⟨#[]⟩ : ByteArray)]) ?_ 2 _ rfl; (with_reducible repeat (first | refine kn_ ?_ _ | refine kd_ ?_ | refine ka_ ?_ _)); exact BK398.out⟩, ⟨by repeat (first | (with_reducible first | exact HI0.out | apply IsS45.alloc | apply IsS45.drewN | apply IsS45.drew | apply IsS45.set_0 | apply IsS45.set_1 | apply IsS45.far (p := ⟨gb394, _, none⟩) (hne := NB0_394.out) | apply IsS45.far (p := ⟨gb398, _, none⟩) (hne := NB0_398.out)) | exact HI0.out)⟩, ⟨by repeat (first | (with_reducible first | exact HK.out | apply KeepBut.set_ | apply keep_drewN | apply keep_drew | apply keep_alloc | refine keep_far ?_ GW394.out _ | refine keep_far ?_ GW398.out _) | exact HK.out)⟩, ⟨by repeat (first | (with_reducible first | exact HB.out | apply ba_ | apply bn_ | apply bd_ | refine bs_ ?_ (IsS45.ge HI0.out) | refine bs_ ?_ GE394.out | refine bs_ ?_ GE398.out) | exact HB.out)⟩⟩
    ·replace c13 := Bool.eq_false_iff.mpr c13
     subst c13
     have H1 : (firkinref09_Take.j1 kj3 a1 t395 t396 t397 (t395 == 0) 0 (⟨#[]⟩ : ByteArray)) = some (r1, r2, r3, r4, r5) := by rw [if_neg (show ¬ (false = true) by decide)] at H; exact H
     clear H
     have H := H1
     clear H1
     have H' := A_ H
     clear H
     go_wp2
     go_meet
     case rel => exact ⟨_, (t396), (t397), ((⟨#[]⟩ : ByteArray)), (Value.slice none 0 0), H', ⟨by have := HJ3.out; first | omega | exact Nat.le_refl _⟩, ⟨by (with_reducible repeat (first | refine kn_ ?_ _ | refine kd_ ?_ | refine ka_ ?_ _)); exact BK394.out⟩, ⟨by (with_reducible repeat (first | refine kn_ ?_ _ | refine kd_ ?_ | refine ka_ ?_ _)); exact BK398.out⟩, ⟨by repeat (first | (with_reducible first | exact HI0.out | apply IsS45.alloc | apply IsS45.drewN | apply IsS45.drew | apply IsS45.set_0 | apply IsS45.set_1 | apply IsS45.far (p := ⟨gb394, _, none⟩) (hne := NB0_394.out) | apply IsS45.far (p := ⟨gb398, _, none⟩) (hne := NB0_398.out)) | exact HI0.out)⟩, ⟨by repeat (first | (with_reducible first | exact HK.out | apply KeepBut.set_ | apply keep_drewN | apply keep_drew | apply keep_alloc | refine keep_far ?_ GW394.out _ | refine keep_far ?_ GW398.out _) | exact HK.out)⟩, ⟨by repeat (first | (with_reducible first | exact HB.out | apply ba_ | apply bn_ | apply bd_ | refine bs_ ?_ (IsS45.ge HI0.out) | refine bs_ ?_ GE394.out | refine bs_ ?_ GE398.out) | exact HB.out)⟩⟩
   case rest =>
    clear HC12
    try clear c1
    try clear p2
    try clear c3
    try clear c6
    try clear c8
    try clear c9
    try clear c11
    try clear c11b0
    try clear c11b1
    try clear c13
    try clear c16
    try clear c17
    try clear hcz10_0
    try clear hcz10_1
    try clear hcz10_2
    try clear hcz18_0
    try clear hcz18_1
    try clear hcz18_2
    try clear hfz10_0
    try clear hfz10_1
    try clear hfz10_2
    try clear hfz18_0
    try clear hfz18_1
    try clear hfz18_2
    try clear p2
    obtain ⟨kq, x1000_11, x1001_11, x399002_11, u1000, HA, HJ11, BK394, BK398, HI0, HK, HB⟩ := hcut
    cases kq with
    | zero => exact absurd HA.out (by simp [firkinref09_Take.j1])
    | succ kj11 =>
     have H := HA.out
     clear HA
     simp only [firkinref09_Take.j1] at H
     have HC19 := A_ H
     clear H
     go_upto_region 5 with (fail)
     go_cut [26] (fun v26 wc => ∃ (kq : Nat) (x26_18 : Bool), v26 = .bool x26_18 ∧ Aside0 (firkinref09_Take.j2 kq a1 x26_18 x1000_11 x1001_11 (t395 == 0) 0 x399002_11 = some (r1, r2, r3, r4, r5)) ∧ Aside0 (kq ≤ kj11) ∧ Aside0 (wc.heap[gb394]? = some (.cells #[.bool false, .int .i64 0, .string (⟨#[]⟩ : ByteArray)] 23 (0, 0))) ∧ Aside0 (wc.heap[gb398]? = some (.cells #[.bool (t395 == 0), .int .i64 0, .string x399002_11] 23 (0, 0))) ∧ Aside0 (IsS45 w0 wc g x1000_11 x1001_11) ∧ Aside0 (KeepBut w wc g none) ∧ Aside0 (Below w0.heap.size w0 wc))
     case first =>
      have H := HC19.out
      clear HC19
      by_cases c20 : t395 = 1
      ·rw [if_pos c20] at H
       have c20b0 : (t395 == 1) = true := beq_iff_eq.mpr c20
       have c20b1 : (t395 != 1) = false := bne_eq_false_iff_eq.mpr c20
       clear c20
       (first | rw [c20b0] | (simp only [i64_w, i32_w]; rw [c20b0]) | skip)
       have H' := A_ H
       clear H
       go_wp2
       go_meet
       case rel => exact ⟨_, ((a1 != 3)), (by first | rfl | (simp; done) | (simp [*]; done)), H', ⟨by have := HJ3.out; have := HJ11.out; first | omega | exact Nat.le_refl _⟩, ⟨by (with_reducible repeat (first | refine kn_ ?_ _ | refine kd_ ?_ | refine ka_ ?_ _)); exact BK394.out⟩, ⟨by (with_reducible repeat (first | refine kn_ ?_ _ | refine kd_ ?_ | refine ka_ ?_ _)); exact BK398.out⟩, ⟨by repeat (first | (with_reducible first | exact HI0.out | apply IsS45.alloc | apply IsS45.drewN | apply IsS45.drew | apply IsS45.set_0 | apply IsS45.set_1 | apply IsS45.far (p := ⟨gb394, _, none⟩) (hne := NB0_394.out) | apply IsS45.far (p := ⟨gb398, _, none⟩) (hne := NB0_398.out)) | exact HI0.out)⟩, ⟨by repeat (first | (with_reducible first | exact HK.out | apply KeepBut.set_ | apply keep_drewN | apply keep_drew | apply keep_alloc | refine keep_far ?_ GW394.out _ | refine keep_far ?_ GW398.out _) | exact HK.out)⟩, ⟨by repeat (first | (with_reducible first | exact HB.out | apply ba_ | apply bn_ | apply bd_ | refine bs_ ?_ (IsS45.ge HI0.out) | refine bs_ ?_ GE394.out | refine bs_ ?_ GE398.out) | exact HB.out)⟩⟩
      ·rw [if_neg c20] at H
       have c20b0 : (t395 == 1) = false := beq_eq_false_iff_ne.mpr c20
       have c20b1 : (t395 != 1) = true := bne_iff_ne.mpr c20
       (first | rw [c20b0] | (simp only [i64_w, i32_w]; rw [c20b0]) | skip)
       have H' := A_ H
       clear H
       go_wp2
       go_meet
       case rel => exact ⟨_, (false), (by first | rfl | (simp; done) | (simp [*]; done)), H', ⟨by have := HJ3.out; have := HJ11.out; first | omega | exact Nat.le_refl _⟩, ⟨by (with_reducible repeat (first | refine kn_ ?_ _ | refine kd_ ?_ | refine ka_ ?_ _)); exact BK394.out⟩, ⟨by (with_reducible repeat (first | refine kn_ ?_ _ | refine kd_ ?_ | refine ka_ ?_ _)); exact BK398.out⟩, ⟨by repeat (first | (with_reducible first | exact HI0.out | apply IsS45.alloc | apply IsS45.drewN | apply IsS45.drew | apply IsS45.set_0 | apply IsS45.set_1 | apply IsS45.far (p := ⟨gb394, _, none⟩) (hne := NB0_394.out) | apply IsS45.far (p := ⟨gb398, _, none⟩) (hne := NB0_398.out)) | exact HI0.out)⟩, ⟨by repeat (first | (with_reducible first | exact HK.out | apply KeepBut.set_ | apply keep_drewN | apply keep_drew | apply keep_alloc | refine keep_far ?_ GW394.out _ | refine keep_far ?_ GW398.out _) | exact HK.out)⟩, ⟨by repeat (first | (with_reducible first | exact HB.out | apply ba_ | apply bn_ | apply bd_ | refine bs_ ?_ (IsS45.ge HI0.out) | refine bs_ ?_ GE394.out | refine bs_ ?_ GE398.out) | exact HB.out)⟩⟩
     case rest =>
      clear HC19
      try clear c1
      try clear c2
      try clear p2
      try clear c3
      try clear c6
      try clear c8
      try clear c9
      try clear c11
      try clear c11b0
      try clear c11b1
      try clear c13
      try clear c16
      try clear c17
      try clear c20
      try clear c20b0
      try clear c20b1
      try clear hcz10_0
      try clear hcz10_1
      try clear hcz10_2
      try clear hcz18_0
      try clear hcz18_1
      try clear hcz18_2
      try clear hfz10_0
      try clear hfz10_1
      try clear hfz10_2
      try clear hfz18_0
      try clear hfz18_1
      try clear hfz18_2
      try clear p2
      obtain ⟨kq, x26_18, rfl, HA, HJ18, BK394, BK398, HI0, HK, HB⟩ := hcut
      cases kq with
      | zero => exact absurd HA.out (by simp [firkinref09_Take.j2])
      | succ kj18 =>
       have H := HA.out
       clear HA
       simp only [firkinref09_Take.j2] at H
       have HC21 := A_ H
       clear H
       go_upto_if 26 with (fail)
       go_cut [] (fun wc => ∃ (kq : Nat) (x1000_20 : List Int) (x1001_20 : Bool) (x399001_20 : Int) (u1000 : Value), Aside0 (firkinref09_Take.j3 kq a1 x1000_20 x1001_20 (t395 == 0) x399001_20 x399002_11 = some (r1, r2, r3, r4, r5)) ∧ Aside0 (kq ≤ kj18) ∧ Aside0 (wc.heap[gb394]? = some (.cells #[.bool false, .int .i64 0, .string (⟨#[]⟩ : ByteArray)] 23 (0, 0))) ∧ Aside0 (wc.heap[gb398]? = some (.cells #[.bool (t395 == 0), .int .i64 x399001_20, .string x399002_11] 23 (0, 0))) ∧ Aside0 (IsS45 w0 wc g x1000_20 x1001_20) ∧ Aside0 (KeepBut w wc g none) ∧ Aside0 (Below w0.heap.size w0 wc))
       case first =>
        have H := HC21.out
        clear HC21
        by_cases c22 : x26_18 = true
        ·subst c22
         have H1 : ((firkinref01_S_Int.f x1000_11 x1001_11).bind fun bt402 => (firkinref09_Take.j3 kj18 a1 bt402.2.1 bt402.2.2 (t395 == 0) bt402.1 x399002_11)) = some (r1, r2, r3, r4, r5) := by rw [if_pos rfl] at H; exact H
         clear H
         have H := H1
         clear H1
         replace H := Option.bind_eq_some_iff.mp H
         obtain ⟨⟨t402, t403, t404⟩, A230, H⟩ := H
         replace H : (firkinref09_Take.j3 kj18 a1 t403 t404 (t395 == 0) t402 x399002_11) = some (r1, r2, r3, r4, r5) := H
         have A23 := A_ A230
         clear A230
         have H' := A_ H
         clear H
         go_wp2_with (first | ((with_reducible refine gate_callee (f := 32) rfl ?_); refine goesL_ (some 28) rfl rfl Try.func32 (by kernel_rfl) rfl #[.pointer (some ⟨g, 0, none⟩)] rfl (by (try simp only [List.map_toArray, List.map_cons, List.map_nil]); first | done | rfl | (simp only [List.length_drop, List.length_take]; rfl)) ?_; (with_reducible refine (firkinref01_S_Int.calls g x1000_11 x1001_11 t402 t403 t404 w0 _ ?side1 ?side2 A23.out).mono ?_); (case side1 => repeat (first | (with_reducible first | exact HI0.out | apply IsS45.alloc | apply IsS45.drewN | apply IsS45.drew | apply IsS45.set_0 | apply IsS45.set_1 | apply IsS45.far (p := ⟨gb394, _, none⟩) (hne := NB0_394.out) | apply IsS45.far (p := ⟨gb398, _, none⟩) (hne := NB0_398.out)) | exact HI0.out)); (case side2 => repeat (first | (with_reducible first | exact HB.out | apply ba_ | apply bn_ | apply bd_ | refine bs_ ?_ (IsS45.ge HI0.out) | refine bs_ ?_ GE394.out | refine bs_ ?_ GE398.out) | exact HB.out)); rintro e w24 ⟨rfl, hi, hb, hk⟩; refine ⟨_, rfl, ?_⟩; have n0_ := A_ (KeepBut.blk hk (g' := gb394) (o := .cells #[.bool false, .int .i64 0, .string (⟨#[]⟩ : ByteArray)] 23 (0, 0)) (by (with_reducible repeat (first | refine kn_ ?_ _ | refine kd_ ?_ | refine ka_ ?_ _)); exact BK394.out) NB394_0.out (by simp)); have n1_ := A_ (KeepBut.blk hk (g' := gb398) (o := .cells #[.bool (t395 == 0), .int .i64 0, .string x399002_11] 23 (0, 0)) (by (with_reducible repeat (first | refine kn_ ?_ _ | refine kd_ ?_ | refine ka_ ?_ _)); exact BK398.out) NB398_0.out (by simp)); have n2_ := A_ (KeepBut.trans (by repeat (first | (with_reducible first | exact HK.out | apply KeepBut.set_ | apply keep_drewN | apply keep_drew | apply keep_alloc | refine keep_far ?_ GW394.out _ | refine keep_far ?_ GW398.out _) | exact HK.out)) hk (.inl rfl)); have n3_ := A_ (hb); have n4_ := A_ (hi); clear BK394; clear BK398; clear HK; clear HB; clear HI0; have BK394 := n0_; have BK398 := n1_; have HK := n2_; have HB := n3_; have HI0 := n4_; clear n0_ n1_ n2_ n3_ n4_; (try clear hb); (try clear hb2); (try clear hk); (try clear hi); have hnb25 := NB398_394.out; have hnc25 := NB394_398.out; have hnb26 := NB398_0.out; have hnc26 := NB0_398.out; have hcz27_0 : w24.cell? ⟨gb398, 0, none⟩ = some (.bool (t395 == 0)) := (bc_ BK398.out 0).trans rfl; have hcz27_1 : w24.cell? ⟨gb398, 1, none⟩ = some (.int .i64 0) := (bc_ BK398.out 1).trans rfl; have hcz27_2 : w24.cell? ⟨gb398, 2, none⟩ = some (.string x399002_11) := (bc_ BK398.out 2).trans rfl; have hfz27_0 := bf_ BK398.out 0; have hfz27_1 := bf_ BK398.out 1; have hfz27_2 := bf_ BK398.out 2))
         go_meet
         case rel => exact ⟨_, (t403), (t404), (t402), (Value.slice none 0 0), H', ⟨by have := HJ3.out; have := HJ11.out; have := HJ18.out; first | omega | exact Nat.le_refl _⟩, ⟨by (with_reducible repeat (first | refine kn_ ?_ _ | refine kd_ ?_ | refine ka_ ?_ _)); refine blk_far ?_ NB394_398.out _; (with_reducible repeat (first | refine kn_ ?_ _ | refine kd_ ?_ | refine ka_ ?_ _)); exact BK394.out⟩, ⟨by (with_reducible repeat (first | refine kn_ ?_ _ | refine kd_ ?_ | refine ka_ ?_ _)); refine blk_put (cs := #[.bool (t395 == 0), .int .i64 0, .string x399002_11]) ?_ 1 _ rfl; (with_reducible repeat (first | refine kn_ ?_ _ | refine kd_ ?_ | refine ka_ ?_ _)); exact BK398.out⟩, ⟨by repeat (first | (with_reducible first | exact HI0.out | apply IsS45.alloc | apply IsS45.drewN | apply IsS45.drew | apply IsS45.set_0 | apply IsS45.set_1 | apply IsS45.far (p := ⟨gb394, _, none⟩) (hne := NB0_394.out) | apply IsS45.far (p := ⟨gb398, _, none⟩) (hne := NB0_398.out)) | exact HI0.out)⟩, ⟨by repeat (first | (with_reducible first | exact HK.out | apply KeepBut.set_ | apply keep_drewN | apply keep_drew | apply keep_alloc | refine keep_far ?_ GW394.out _ | refine keep_far ?_ GW398.out _) | exact HK.out)⟩, ⟨by repeat (first | (with_reducible first | exact HB.out | apply ba_ | apply bn_ | apply bd_ | refine bs_ ?_ (IsS45.ge HI0.out) | refine bs_ ?_ GE394.out | refine bs_ ?_ GE398.out) | exact HB.out)⟩⟩
        ·replace c22 := Bool.eq_false_iff.mpr c22
         subst c22
         have H1 : (firkinref09_Take.j3 kj18 a1 x1000_11 x1001_11 (t395 == 0) 0 x399002_11) = some (r1, r2, r3, r4, r5) := by rw [if_neg (show ¬ (false = true) by decide)] at H; exact H
         clear H
         have H := H1
         clear H1
         have H' := A_ H
         clear H
         go_wp2
         go_meet
         case rel => exact ⟨_, (x1000_11), (x1001_11), (0), (Value.slice none 0 0), H', ⟨by have := HJ3.out; have := HJ11.out; have := HJ18.out; first | omega | exact Nat.le_refl _⟩, ⟨by (with_reducible repeat (first | refine kn_ ?_ _ | refine kd_ ?_ | refine ka_ ?_ _)); exact BK394.out⟩, ⟨by (with_reducible repeat (first | refine kn_ ?_ _ | refine kd_ ?_ | refine ka_ ?_ _)); exact BK398.out⟩, ⟨by repeat (first | (with_reducible first | exact HI0.out | apply IsS45.alloc | apply IsS45.drewN | apply IsS45.drew | apply IsS45.set_0 | apply IsS45.set_1 | apply IsS45.far (p := ⟨gb394, _, none⟩) (hne := NB0_394.out) | apply IsS45.far (p := ⟨gb398, _, none⟩) (hne := NB0_398.out)) | exact HI0.out)⟩, ⟨by repeat (first | (with_reducible first | exact HK.out | apply KeepBut.set_ | apply keep_drewN | apply keep_drew | apply keep_alloc | refine keep_far ?_ GW394.out _ | refine keep_far ?_ GW398.out _) | exact HK.out)⟩, ⟨by repeat (first | (with_reducible first | exact HB.out | apply ba_ | apply bn_ | apply bd_ | refine bs_ ?_ (IsS45.ge HI0.out) | refine bs_ ?_ GE394.out | refine bs_ ?_ GE398.out) | exact HB.out)⟩⟩
       case rest =>
        clear HC21
        try clear c1
        try clear c2
        try clear p2
        try clear c3
        try clear c6
        try clear c8
        try clear c9
        try clear c11
        try clear c11b0
        try clear c11b1
        try clear c13
        try clear c16
        try clear c17
        try clear c20
        try clear c20b0
        try clear c20b1
        try clear c22
        try clear c25
        try clear c26
        try clear hcz10_0
        try clear hcz10_1
        try clear hcz10_2
        try clear hcz18_0
        try clear hcz18_1
        try clear hcz18_2
        try clear hcz27_0
        try clear hcz27_1
        try clear hcz27_2
        try clear hfz10_0
        try clear hfz10_1
        try clear hfz10_2
        try clear hfz18_0
        try clear hfz18_1
        try clear hfz18_2
        try clear hfz27_0
        try clear hfz27_1
        try clear hfz27_2
        try clear p2
        obtain ⟨kq, x1000_20, x1001_20, x399001_20, u1000, HA, HJ20, BK394, BK398, HI0, HK, HB⟩ := hcut
        cases kq with
        | zero => exact absurd HA.out (by simp [firkinref09_Take.j3])
        | succ kj20 =>
         have H := HA.out
         clear HA
         simp only [firkinref09_Take.j3] at H
         by_cases c28 : x1001_20 = true
         ·subst c28
          have H1 : ((firkinref01_S_Fail.f x1000_20 true).bind fun bt405 => (some (false, 0, (⟨#[]⟩ : ByteArray), bt405.1, bt405.2))) = some (r1, r2, r3, r4, r5) := by rw [if_pos rfl] at H; exact H
          clear H
          have H := H1
          clear H1
          replace H := Option.bind_eq_some_iff.mp H
          obtain ⟨⟨t405, t406⟩, A290, H⟩ := H
          replace H : (some (false, 0, (⟨#[]⟩ : ByteArray), t405, t406)) = some (r1, r2, r3, r4, r5) := H
          have A29 := A_ A290
          clear A290
          simp only [Option.some.injEq, Prod.mk.injEq] at H
          obtain ⟨rfl, rfl, rfl, rfl, rfl⟩ := H
          obtain ⟨ASz30_0, cSz30_0, HGz30, hgz30, ⟨HSz30_0, _⟩⟩ := HI0.out
          have hcz30_0 := cellS45_0 HGz30
          have hcz30_1 := cellS45_1 HGz30
          have hfz30_0 := bf_ HGz30 0
          have hfz30_1 := bf_ HGz30 1
          clear HGz30 hgz30
          go_wp2_with (first | ((with_reducible refine gate_callee (f := 40) rfl ?_); refine goesL_ (some 41) rfl rfl Try.func40 (by kernel_rfl) rfl #[.pointer (some ⟨g, 0, none⟩)] rfl (by (try simp only [List.map_toArray, List.map_cons, List.map_nil]); first | done | rfl | (simp only [List.length_drop, List.length_take]; rfl)) ?_; (with_reducible refine (firkinref01_S_Fail.calls g x1000_20 true t405 t406 w0 _ ?side1 ?side2 A29.out).mono ?_); (case side1 => repeat (first | (with_reducible first | exact HI0.out | apply IsS45.alloc | apply IsS45.drewN | apply IsS45.drew | apply IsS45.set_0 | apply IsS45.set_1 | apply IsS45.far (p := ⟨gb394, _, none⟩) (hne := NB0_394.out) | apply IsS45.far (p := ⟨gb398, _, none⟩) (hne := NB0_398.out)) | exact HI0.out)); (case side2 => repeat (first | (with_reducible first | exact HB.out | apply ba_ | apply bn_ | apply bd_ | refine bs_ ?_ (IsS45.ge HI0.out) | refine bs_ ?_ GE394.out | refine bs_ ?_ GE398.out) | exact HB.out)); rintro e w31 ⟨rfl, hi, hb, hk⟩; refine ⟨_, rfl, ?_⟩; have n0_ := A_ (KeepBut.blk hk (g' := gb394) (o := .cells #[.bool false, .int .i64 0, .string (⟨#[]⟩ : ByteArray)] 23 (0, 0)) (by (with_reducible repeat (first | refine kn_ ?_ _ | refine kd_ ?_ | refine ka_ ?_ _)); exact BK394.out) NB394_0.out (by simp)); have n1_ := A_ (KeepBut.blk hk (g' := gb398) (o := .cells #[.bool (t395 == 0), .int .i64 x399001_20, .string x399002_11] 23 (0, 0)) (by (with_reducible repeat (first | refine kn_ ?_ _ | refine kd_ ?_ | refine ka_ ?_ _)); exact BK398.out) NB398_0.out (by simp)); have n2_ := A_ (KeepBut.trans (by repeat (first | (with_reducible first | exact HK.out | apply KeepBut.set_ | apply keep_drewN | apply keep_drew | apply keep_alloc | refine keep_far ?_ GW394.out _ | refine keep_far ?_ GW398.out _) | exact HK.out)) hk (.inl rfl)); have n3_ := A_ (hb); have n4_ := A_ (hi); clear BK394; clear BK398; clear HK; clear HB; clear HI0; have BK394 := n0_; have BK398 := n1_; have HK := n2_; have HB := n3_; have HI0 := n4_; clear n0_ n1_ n2_ n3_ n4_; (try clear hb); (try clear hb2); (try clear hk); (try clear hi); have hnb32 := NB394_398.out; have hnc32 := NB398_394.out; have hnb33 := NB394_0.out; have hnc33 := NB0_394.out; have hcz34_0 : w31.cell? ⟨gb394, 0, none⟩ = some (.bool false) := (bc_ BK394.out 0).trans rfl; have hcz34_1 : w31.cell? ⟨gb394, 1, none⟩ = some (.int .i64 0) := (bc_ BK394.out 1).trans rfl; have hcz34_2 : w31.cell? ⟨gb394, 2, none⟩ = some (.string (⟨#[]⟩ : ByteArray)) := (bc_ BK394.out 2).trans rfl; have hfz34_0 := bf_ BK394.out 0; have hfz34_1 := bf_ BK394.out 1; have hfz34_2 := bf_ BK394.out 2))
          refine bodyPost_ret (results_cell_row rfl _ _ gb394 23 #[.bool false, .int .i64 0, .string (⟨#[]⟩ : ByteArray)] (0, 0) _ rfl (by (with_reducible repeat (first | refine kn_ ?_ _ | refine kd_ ?_ | refine ka_ ?_ _)); refine blk_put (cs := #[.bool false, .int .i64 0, .string (⟨#[]⟩ : ByteArray)]) ?_ 2 _ rfl; (with_reducible repeat (first | refine kn_ ?_ _ | refine kd_ ?_ | refine ka_ ?_ _)); refine blk_put (cs := #[.bool false, .int .i64 0, .string (⟨#[]⟩ : ByteArray)]) ?_ 1 _ rfl; (with_reducible repeat (first | refine kn_ ?_ _ | refine kd_ ?_ | refine ka_ ?_ _)); refine blk_put (cs := #[.bool false, .int .i64 0, .string (⟨#[]⟩ : ByteArray)]) ?_ 0 _ rfl; (with_reducible repeat (first | refine kn_ ?_ _ | refine kd_ ?_ | refine ka_ ?_ _)); exact BK394.out) Try.underlying23 rfl (by kernel_rfl)) rfl ?_
          exact ⟨by first | rfl | (simp [errW_none, errW_some] <;> rfl) | (simp [*, errW_none, errW_some] <;> rfl), by repeat (first | (with_reducible first | exact HI0.out | apply IsS45.alloc | apply IsS45.drewN | apply IsS45.drew | apply IsS45.set_0 | apply IsS45.set_1 | apply IsS45.far (p := ⟨gb394, _, none⟩) (hne := NB0_394.out) | apply IsS45.far (p := ⟨gb398, _, none⟩) (hne := NB0_398.out)) | exact HI0.out), by repeat (first | (with_reducible first | exact HB.out | apply ba_ | apply bn_ | apply bd_ | refine bs_ ?_ (IsS45.ge HI0.out) | refine bs_ ?_ GE394.out | refine bs_ ?_ GE398.out) | exact HB.out), by repeat (first | (with_reducible first | exact HK.out | apply KeepBut.set_ | apply keep_drewN | apply keep_drew | apply keep_alloc | refine keep_far ?_ GW394.out _ | refine keep_far ?_ GW398.out _) | exact HK.out)⟩
         ·replace c28 := Bool.eq_false_iff.mpr c28
          subst c28
          have H1 : ((firkinref09_May.f kj20 a1 true (t395 == 0) x399001_20 x399002_11).bind fun t407 => (if t407 = true then (some ((t395 == 0), x399001_20, x399002_11, x1000_20, false)) else ((firkinref01_S_Fail.f x1000_20 false).bind fun bt408 => (some (false, 0, (⟨#[]⟩ : ByteArray), bt408.1, bt408.2))))) = some (r1, r2, r3, r4, r5) := by rw [if_neg (show ¬ (false = true) by decide)] at H; exact H
          clear H
          have H := H1
          clear H1
          replace H := Option.bind_eq_some_iff.mp H
          obtain ⟨t407, A350, H⟩ := H
          replace H : (if t407 = true then (some ((t395 == 0), x399001_20, x399002_11, x1000_20, false)) else ((firkinref01_S_Fail.f x1000_20 false).bind fun bt408 => (some (false, 0, (⟨#[]⟩ : ByteArray), bt408.1, bt408.2)))) = some (r1, r2, r3, r4, r5) := H
          have A35 := A_ A350
          clear A350
          by_cases c36 : t407 = true
          ·subst c36
           have H1 : (some ((t395 == 0), x399001_20, x399002_11, x1000_20, false)) = some (r1, r2, r3, r4, r5) := by rw [if_pos rfl] at H; exact H
           clear H
           have H := H1
           clear H1
           simp only [Option.some.injEq, Prod.mk.injEq] at H
           obtain ⟨rfl, rfl, rfl, rfl, rfl⟩ := H
           obtain ⟨ASz37_0, cSz37_0, HGz37, hgz37, ⟨HSz37_0, _⟩⟩ := HI0.out
           have hcz37_0 := cellS45_0 HGz37
           have hcz37_1 := cellS45_1 HGz37
           have hfz37_0 := bf_ HGz37 0
           have hfz37_1 := bf_ HGz37 1
           clear HGz37 hgz37
           have hnb38 := NB398_394.out
           have hnc38 := NB394_398.out
           have hnb39 := NB398_0.out
           have hnc39 := NB0_398.out
           have hcz40_0 : wc.cell? ⟨gb398, 0, none⟩ = some (.bool (t395 == 0)) := (bc_ BK398.out 0).trans rfl
           have hcz40_1 : wc.cell? ⟨gb398, 1, none⟩ = some (.int .i64 x399001_20) := (bc_ BK398.out 1).trans rfl
           have hcz40_2 : wc.cell? ⟨gb398, 2, none⟩ = some (.string x399002_11) := (bc_ BK398.out 2).trans rfl
           have hfz40_0 := bf_ BK398.out 0
           have hfz40_1 := bf_ BK398.out 1
           have hfz40_2 := bf_ BK398.out 2
           go_wp2_with (first | (go_at_call 67; (with_reducible refine (firkinref09_May.calls kj20 a1 true (t395 == 0) x399001_20 x399002_11 true _ A35.out).mono ?_); rintro e w41 ⟨rfl, hb⟩; have n0_ := A_ (blk_below (g := gb394) (o := .cells #[.bool false, .int .i64 0, .string (⟨#[]⟩ : ByteArray)] 23 (0, 0)) (by (with_reducible repeat (first | refine kn_ ?_ _ | refine kd_ ?_ | refine ka_ ?_ _)); exact BK394.out) hb); have n1_ := A_ (blk_below (g := gb398) (o := .cells #[.bool (t395 == 0), .int .i64 x399001_20, .string x399002_11] 23 (0, 0)) (by (with_reducible repeat (first | refine kn_ ?_ _ | refine kd_ ?_ | refine ka_ ?_ _)); exact BK398.out) hb); have n2_ := A_ (IsS45.below (by repeat (first | (with_reducible first | exact HI0.out | apply IsS45.alloc | apply IsS45.drewN | apply IsS45.drew | apply IsS45.set_0 | apply IsS45.set_1 | apply IsS45.far (p := ⟨gb394, _, none⟩) (hne := NB0_394.out) | apply IsS45.far (p := ⟨gb398, _, none⟩) (hne := NB0_398.out)) | exact HI0.out)) hb); have n3_ := A_ (KeepBut.trans (by repeat (first | (with_reducible first | exact HK.out | apply KeepBut.set_ | apply keep_drewN | apply keep_drew | apply keep_alloc | refine keep_far ?_ GW394.out _ | refine keep_far ?_ GW398.out _) | exact HK.out)) (KeepBut.of_below hb g none) (.inl rfl)); have n4_ := A_ (bp_ (by repeat (first | (with_reducible first | exact HB.out | apply ba_ | apply bn_ | apply bd_ | refine bs_ ?_ (IsS45.ge HI0.out) | refine bs_ ?_ GE394.out | refine bs_ ?_ GE398.out) | exact HB.out)) hb); clear BK394; clear BK398; clear HI0; clear HK; clear HB; have BK394 := n0_; have BK398 := n1_; have HI0 := n2_; have HK := n3_; have HB := n4_; clear n0_ n1_ n2_ n3_ n4_; (try clear hb); (try clear hb2); (try clear hk); (try clear hi); have hcz42_0 : w41.cell? ⟨gb398, 0, none⟩ = some (.bool (t395 == 0)) := (bc_ BK398.out 0).trans rfl; have hcz42_1 : w41.cell? ⟨gb398, 1, none⟩ = some (.int .i64 x399001_20) := (bc_ BK398.out 1).trans rfl; have hcz42_2 : w41.cell? ⟨gb398, 2, none⟩ = some (.string x399002_11) := (bc_ BK398.out 2).trans rfl; have hfz42_0 := bf_ BK398.out 0; have hfz42_1 := bf_ BK398.out 1; have hfz42_2 := bf_ BK398.out 2; have hnb43 := NB394_0.out; have hnc43 := NB0_394.out; have hcz44_0 : w41.cell? ⟨gb394, 0, none⟩ = some (.bool false) := (bc_ BK394.out 0).trans rfl; have hcz44_1 : w41.cell? ⟨gb394, 1, none⟩ = some (.int .i64 0) := (bc_ BK394.out 1).trans rfl; have hcz44_2 : w41.cell? ⟨gb394, 2, none⟩ = some (.string (⟨#[]⟩ : ByteArray)) := (bc_ BK394.out 2).trans rfl; have hfz44_0 := bf_ BK394.out 0; have hfz44_1 := bf_ BK394.out 1; have hfz44_2 := bf_ BK394.out 2))
           refine bodyPost_ret (results_cell_row rfl _ _ gb394 23 #[.bool (t395 == 0), .int .i64 x399001_20, .string x399002_11] (0, 0) _ rfl (by (with_reducible repeat (first | refine kn_ ?_ _ | refine kd_ ?_ | refine ka_ ?_ _)); refine blk_put (cs := #[.bool (t395 == 0), .int .i64 x399001_20, .string (⟨#[]⟩ : ByteArray)]) ?_ 2 _ rfl; (with_reducible repeat (first | refine kn_ ?_ _ | refine kd_ ?_ | refine ka_ ?_ _)); refine blk_put (cs := #[.bool (t395 == 0), .int .i64 0, .string (⟨#[]⟩ : ByteArray)]) ?_ 1 _ rfl; (with_reducible repeat (first | refine kn_ ?_ _ | refine kd_ ?_ | refine ka_ ?_ _)); refine blk_put (cs := #[.bool false, .int .i64 0, .string (⟨#[]⟩ : ByteArray)]) ?_ 0 _ rfl; (with_reducible repeat (first | refine kn_ ?_ _ | refine kd_ ?_ | refine ka_ ?_ _)); exact BK394.out) Try.underlying23 rfl (by kernel_rfl)) rfl ?_
           exact ⟨by first | rfl | (simp [errW_none, errW_some] <;> rfl) | (simp [*, errW_none, errW_some] <;> rfl), by repeat (first | (with_reducible first | exact HI0.out | apply IsS45.alloc | apply IsS45.drewN | apply IsS45.drew | apply IsS45.set_0 | apply IsS45.set_1 | apply IsS45.far (p := ⟨gb394, _, none⟩) (hne := NB0_394.out) | apply IsS45.far (p := ⟨gb398, _, none⟩) (hne := NB0_398.out)) | exact HI0.out), by repeat (first | (with_reducible first | exact HB.out | apply ba_ | apply bn_ | apply bd_ | refine bs_ ?_ (IsS45.ge HI0.out) | refine bs_ ?_ GE394.out | refine bs_ ?_ GE398.out) | exact HB.out), by repeat (first | (with_reducible first | exact HK.out | apply KeepBut.set_ | apply keep_drewN | apply keep_drew | apply keep_alloc | refine keep_far ?_ GW394.out _ | refine keep_far ?_ GW398.out _) | exact HK.out)⟩
          ·replace c36 := Bool.eq_false_iff.mpr c36
           subst c36
           have H1 : ((firkinref01_S_Fail.f x1000_20 false).bind fun bt408 => (some (false, 0, (⟨#[]⟩ : ByteArray), bt408.1, bt408.2))) = some (r1, r2, r3, r4, r5) := by rw [if_neg (show ¬ (false = true) by decide)] at H; exact H
           clear H
           have H := H1
           clear H1
           replace H := Option.bind_eq_some_iff.mp H
           obtain ⟨⟨t408, t409⟩, A450, H⟩ := H
           replace H : (some (false, 0, (⟨#[]⟩ : ByteArray), t408, t409)) = some (r1, r2, r3, r4, r5) := H
           have A45 := A_ A450
           clear A450
           simp only [Option.some.injEq, Prod.mk.injEq] at H
           obtain ⟨rfl, rfl, rfl, rfl, rfl⟩ := H
           obtain ⟨ASz46_0, cSz46_0, HGz46, hgz46, ⟨HSz46_0, _⟩⟩ := HI0.out
           have hcz46_0 := cellS45_0 HGz46
           have hcz46_1 := cellS45_1 HGz46
           have hfz46_0 := bf_ HGz46 0
           have hfz46_1 := bf_ HGz46 1
           clear HGz46 hgz46
           have hnb47 := NB398_394.out
           have hnc47 := NB394_398.out
           have hnb48 := NB398_0.out
           have hnc48 := NB0_398.out
           have hcz49_0 : wc.cell? ⟨gb398, 0, none⟩ = some (.bool (t395 == 0)) := (bc_ BK398.out 0).trans rfl
           have hcz49_1 : wc.cell? ⟨gb398, 1, none⟩ = some (.int .i64 x399001_20) := (bc_ BK398.out 1).trans rfl
           have hcz49_2 : wc.cell? ⟨gb398, 2, none⟩ = some (.string x399002_11) := (bc_ BK398.out 2).trans rfl
           have hfz49_0 := bf_ BK398.out 0
           have hfz49_1 := bf_ BK398.out 1
           have hfz49_2 := bf_ BK398.out 2
           go_wp2_with (first | (go_at_call 67; (with_reducible refine (firkinref09_May.calls kj20 a1 true (t395 == 0) x399001_20 x399002_11 false _ A35.out).mono ?_); rintro e w50 ⟨rfl, hb⟩; have n0_ := A_ (blk_below (g := gb394) (o := .cells #[.bool false, .int .i64 0, .string (⟨#[]⟩ : ByteArray)] 23 (0, 0)) (by (with_reducible repeat (first | refine kn_ ?_ _ | refine kd_ ?_ | refine ka_ ?_ _)); exact BK394.out) hb); have n1_ := A_ (blk_below (g := gb398) (o := .cells #[.bool (t395 == 0), .int .i64 x399001_20, .string x399002_11] 23 (0, 0)) (by (with_reducible repeat (first | refine kn_ ?_ _ | refine kd_ ?_ | refine ka_ ?_ _)); exact BK398.out) hb); have n2_ := A_ (IsS45.below (by repeat (first | (with_reducible first | exact HI0.out | apply IsS45.alloc | apply IsS45.drewN | apply IsS45.drew | apply IsS45.set_0 | apply IsS45.set_1 | apply IsS45.far (p := ⟨gb394, _, none⟩) (hne := NB0_394.out) | apply IsS45.far (p := ⟨gb398, _, none⟩) (hne := NB0_398.out)) | exact HI0.out)) hb); have n3_ := A_ (KeepBut.trans (by repeat (first | (with_reducible first | exact HK.out | apply KeepBut.set_ | apply keep_drewN | apply keep_drew | apply keep_alloc | refine keep_far ?_ GW394.out _ | refine keep_far ?_ GW398.out _) | exact HK.out)) (KeepBut.of_below hb g none) (.inl rfl)); have n4_ := A_ (bp_ (by repeat (first | (with_reducible first | exact HB.out | apply ba_ | apply bn_ | apply bd_ | refine bs_ ?_ (IsS45.ge HI0.out) | refine bs_ ?_ GE394.out | refine bs_ ?_ GE398.out) | exact HB.out)) hb); clear BK394; clear BK398; clear HI0; clear HK; clear HB; have BK394 := n0_; have BK398 := n1_; have HI0 := n2_; have HK := n3_; have HB := n4_; clear n0_ n1_ n2_ n3_ n4_; (try clear hb); (try clear hb2); (try clear hk); (try clear hi)) | ((with_reducible refine gate_callee (f := 40) rfl ?_); refine goesL_ (some 41) rfl rfl Try.func40 (by kernel_rfl) rfl #[.pointer (some ⟨g, 0, none⟩)] rfl (by (try simp only [List.map_toArray, List.map_cons, List.map_nil]); first | done | rfl | (simp only [List.length_drop, List.length_take]; rfl)) ?_; (with_reducible refine (firkinref01_S_Fail.calls g x1000_20 false t408 t409 w0 _ ?side1 ?side2 A45.out).mono ?_); (case side1 => repeat (first | (with_reducible first | exact HI0.out | apply IsS45.alloc | apply IsS45.drewN | apply IsS45.drew | apply IsS45.set_0 | apply IsS45.set_1 | apply IsS45.far (p := ⟨gb394, _, none⟩) (hne := NB0_394.out) | apply IsS45.far (p := ⟨gb398, _, none⟩) (hne := NB0_398.out)) | exact HI0.out)); (case side2 => repeat (first | (with_reducible first | exact HB.out | apply ba_ | apply bn_ | apply bd_ | refine bs_ ?_ (IsS45.ge HI0.out) | refine bs_ ?_ GE394.out | refine bs_ ?_ GE398.out) | exact HB.out)); rintro e w51 ⟨rfl, hi, hb, hk⟩; refine ⟨_, rfl, ?_⟩; have n0_ := A_ (KeepBut.blk hk (g' := gb394) (o := .cells #[.bool false, .int .i64 0, .string (⟨#[]⟩ : ByteArray)] 23 (0, 0)) (by (with_reducible repeat (first | refine kn_ ?_ _ | refine kd_ ?_ | refine ka_ ?_ _)); exact BK394.out) NB394_0.out (by simp)); have n1_ := A_ (KeepBut.blk hk (g' := gb398) (o := .cells #[.bool (t395 == 0), .int .i64 x399001_20, .string x399002_11] 23 (0, 0)) (by (with_reducible repeat (first | refine kn_ ?_ _ | refine kd_ ?_ | refine ka_ ?_ _)); exact BK398.out) NB398_0.out (by simp)); have n2_ := A_ (KeepBut.trans (by repeat (first | (with_reducible first | exact HK.out | apply KeepBut.set_ | apply keep_drewN | apply keep_drew | apply keep_alloc | refine keep_far ?_ GW394.out _ | refine keep_far ?_ GW398.out _) | exact HK.out)) hk (.inl rfl)); have n3_ := A_ (hb); have n4_ := A_ (hi); clear BK394; clear BK398; clear HK; clear HB; clear HI0; have BK394 := n0_; have BK398 := n1_; have HK := n2_; have HB := n3_; have HI0 := n4_; clear n0_ n1_ n2_ n3_ n4_; (try clear hb); (try clear hb2); (try clear hk); (try clear hi); have hnb52 := NB394_0.out; have hnc52 := NB0_394.out; have hcz53_0 : w51.cell? ⟨gb394, 0, none⟩ = some (.bool false) := (bc_ BK394.out 0).trans rfl; have hcz53_1 : w51.cell? ⟨gb394, 1, none⟩ = some (.int .i64 0) := (bc_ BK394.out 1).trans rfl; have hcz53_2 : w51.cell? ⟨gb394, 2, none⟩ = some (.string (⟨#[]⟩ : ByteArray)) := (bc_ BK394.out 2).trans rfl; have hfz53_0 := bf_ BK394.out 0; have hfz53_1 := bf_ BK394.out 1; have hfz53_2 := bf_ BK394.out 2))
           refine bodyPost_ret (results_cell_row rfl _ _ gb394 23 #[.bool false, .int .i64 0, .string (⟨#[]⟩ : ByteArray)] (0, 0) _ rfl (by (with_reducible repeat (first | refine kn_ ?_ _ | refine kd_ ?_ | refine ka_ ?_ _)); refine blk_put (cs := #[.bool false, .int .i64 0, .string (⟨#[]⟩ : ByteArray)]) ?_ 2 _ rfl; (with_reducible repeat (first | refine kn_ ?_ _ | refine kd_ ?_ | refine ka_ ?_ _)); refine blk_put (cs := #[.bool false, .int .i64 0, .string (⟨#[]⟩ : ByteArray)]) ?_ 1 _ rfl; (with_reducible repeat (first | refine kn_ ?_ _ | refine kd_ ?_ | refine ka_ ?_ _)); refine blk_put (cs := #[.bool false, .int .i64 0, .string (⟨#[]⟩ : ByteArray)]) ?_ 0 _ rfl; (with_reducible repeat (first | refine kn_ ?_ _ | refine kd_ ?_ | refine ka_ ?_ _)); exact BK394.out) Try.underlying23 rfl (by kernel_rfl)) rfl ?_
           exact ⟨by first | rfl | (simp [errW_none, errW_some] <;> rfl) | (simp [*, errW_none, errW_some] <;> rfl), by repeat (first | (with_reducible first | exact HI0.out | apply IsS45.alloc | apply IsS45.drewN | apply IsS45.drew | apply IsS45.set_0 | apply IsS45.set_1 | apply IsS45.far (p := ⟨gb394, _, none⟩) (hne := NB0_394.out) | apply IsS45.far (p := ⟨gb398, _, none⟩) (hne := NB0_398.out)) | exact HI0.out), by repeat (first | (with_reducible first | exact HB.out | apply ba_ | apply bn_ | apply bd_ | refine bs_ ?_ (IsS45.ge HI0.out) | refine bs_ ?_ GE394.out | refine bs_ ?_ GE398.out) | exact HB.out), by repeat (first | (with_reducible first | exact HK.out | apply KeepBut.set_ | apply keep_drewN | apply keep_drew | apply keep_alloc | refine keep_far ?_ GW394.out _ | refine keep_far ?_ GW398.out _) | exact HK.out)⟩

end Go.Proofs.Ytkdlfejokahohaa.X
