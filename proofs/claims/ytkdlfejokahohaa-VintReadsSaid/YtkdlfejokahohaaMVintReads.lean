/- VintReads: for every input the call returns true, and each argument reads behind the call as it read before it. No condition. (Part 3 of 3: this session's texts, laid together by wip/merge.py.) -/
import Derived.Test.YtkdlfejokahohaaX0
import Derived.Test.YtkdlfejokahohaaDec
import Derived.Laws.BitsAllLaws
import Derived.Test.YtkdlfejokahohaaMem
import Derived.Test.YtkdlfejokahohaaMem2
import Derived.Deep.RegionHeld3
import Derived.Lib.Hide
import Derived.Test.YtkdlfejokahohaaWf
import Derived.Test.YtkdlfejokahohaaRows
import Derived.Test.YtkdlfejokahohaaOpens
import Derived.WalkKit
import Derived.ProofKit
import Derived.OpenShut
import Derived.ShutString
import Derived.ChangeOld
import Derived.Below
import Derived.SizedLaws
import Derived.Test.YtkdlfejokahohaaMVintReads0
import Derived.Test.YtkdlfejokahohaaMVintReads1
-- Printed for this claim by a program of this session (wip/xprint.py) over the kit's printer; Lean checks it.
namespace Go.Proofs.Ytkdlfejokahohaa.X
open Go.RowKit Go.Proofs.YtkdlfejokahohaaW.PrintWords Go.Proofs.YtkdlfejokahohaaW.PrintLast Go.Proofs.YtkdlfejokahohaaW.PrintMore
attribute [local go_sem] max2_int min2_int max_two min_two max_three min_three max_four min_four   -- for this text's walks alone
set_option linter.unusedVariables false
set_option linter.unusedSimpArgs false

/-! ### firkinref01_S_Text: function 36 -/
def firkinref01_S_Text.j0 : Nat → Int → Bool → List Int → Bool → Option (ByteArray × List Int × Bool)
  | 0, _, _, _, _ => none
  | k + 1, x5, x31, x1000, x1001 => if x31 = true then ((firkinref01_S_Fail.f x1000 x1001).bind fun bt312 => (some ((⟨#[]⟩ : ByteArray), bt312.1, bt312.2))) else ((firkinref01_S_Take.f x1000 x1001 (wrap64 (x5))).bind fun bt314 => (some (strOfNums bt314.1, bt314.2.1, bt314.2.2)))
def firkinref01_S_Text.f (k : Nat) (s0_0 : List Int) (s0_1 : Bool) (a1 : Int) : Option (ByteArray × List Int × Bool) := if a1 < 0 then ((firkinref01_S_Fail.f s0_0 s0_1).bind fun bt307 => (some ((⟨#[]⟩ : ByteArray), bt307.1, bt307.2))) else ((firkinref01_S_Num.f s0_0 s0_1).bind fun bt309 => (if bt309.2.2 = true then (firkinref01_S_Text.j0 k bt309.1 true bt309.2.1 bt309.2.2) else (if bt309.1 > (IntKind.u64.wrap (a1)) then (firkinref01_S_Text.j0 k bt309.1 true bt309.2.1 bt309.2.2) else (firkinref01_S_Text.j0 k bt309.1 (decide (bt309.1 > (IntKind.u64.wrap ((bt309.2.1.length : Int))))) bt309.2.1 bt309.2.2))))
theorem firkinref01_S_Text.mono_l : ∀ k, (∀ y0 y1 y2 y3, LeO (firkinref01_S_Text.j0 k y0 y1 y2 y3) (firkinref01_S_Text.j0 (k + 1) y0 y1 y2 y3))
  | 0 => fun _ _ _ _ r h => by simp [firkinref01_S_Text.j0] at h
  | k + 1 => by
    have ih0 := firkinref01_S_Text.mono_l k
    · intro y0 y1 y2 y3
      unfold firkinref01_S_Text.j0
      repeat' first
      | (with_reducible exact ih0 _ _ _ _)
      | (with_reducible exact LeO.refl _)
      | (with_reducible exact LeO.none _)
      | (with_reducible refine LeO.ite ?_ ?_)
      | (with_reducible refine LeO.bind ?_ (fun _ => ?_))
      | exact ih0 _ _ _ _
      | exact LeO.none _
      | refine LeO.ite ?_ ?_
      | refine LeO.bind ?_ (fun _ => ?_)
theorem firkinref01_S_Text.mono : ∀ a0 a1 a2 k, LeO (firkinref01_S_Text.f k a0 a1 a2) (firkinref01_S_Text.f (k + 1) a0 a1 a2) := by
  intro a0 a1 a2 k
  have ih0 := firkinref01_S_Text.mono_l k
  unfold firkinref01_S_Text.f
  repeat' first
      | (with_reducible exact ih0 _ _ _ _)
      | (with_reducible exact LeO.refl _)
      | (with_reducible exact LeO.none _)
      | (with_reducible refine LeO.ite ?_ ?_)
      | (with_reducible refine LeO.bind ?_ (fun _ => ?_))
      | exact ih0 _ _ _ _
      | exact LeO.none _
      | refine LeO.ite ?_ ?_
      | refine LeO.bind ?_ (fun _ => ?_)
set_option maxHeartbeats 8000000 in
set_option maxRecDepth 100000 in
theorem firkinref01_S_Text.calls (k : Nat) (g : Nat) (s0_0 : List Int) (s0_1 : Bool) (a1 : Int) (r1 : ByteArray) (r2 : List Int) (r3 : Bool) (w0 w : World) (hI : IsS45 w0 w g s0_0 s0_1) (hB : Below w0.heap.size w0 w) (h : firkinref01_S_Text.f k s0_0 s0_1 a1 = some (r1, r2, r3)) :
    Calls Try.prog 36 #[.pointer (some ⟨g, 0, none⟩), .int .i64 a1] w fun e w' => e = .returned (.string r1) ∧ IsS45 w0 w' g r2 r3 ∧ Below w0.heap.size w0 w' ∧ KeepBut w w' g none := by
  have HI0 := Aside0.mk hI
  have HK := Aside0.mk (KeepBut.refl w g none)
  have HL := Aside0.mk hB.size
  clear hI
  have HW0 := Aside0.mk hB.size
  have HB := Aside0.mk hB
  clear hB
  have H : (if a1 < 0 then ((firkinref01_S_Fail.f s0_0 s0_1).bind fun bt307 => (some ((⟨#[]⟩ : ByteArray), bt307.1, bt307.2))) else ((firkinref01_S_Num.f s0_0 s0_1).bind fun bt309 => (if bt309.2.2 = true then (firkinref01_S_Text.j0 k bt309.1 true bt309.2.1 bt309.2.2) else (if bt309.1 > (IntKind.u64.wrap (a1)) then (firkinref01_S_Text.j0 k bt309.1 true bt309.2.1 bt309.2.2) else (firkinref01_S_Text.j0 k bt309.1 (decide (bt309.1 > (IntKind.u64.wrap ((bt309.2.1.length : Int))))) bt309.2.1 bt309.2.2))))) = some (r1, r2, r3) := h
  clear h
  by_cases c3 : a1 < 0
  · rw [if_pos c3] at H
    have c3b0 : decide (a1 < 0) = true := decide_eq_true c3
    clear c3
    replace H := Option.bind_eq_some_iff.mp H
    obtain ⟨⟨t307, t308⟩, A40, H⟩ := H
    replace H : (some ((⟨#[]⟩ : ByteArray), t307, t308)) = some (r1, r2, r3) := H
    have A4 := Aside0.mk A40
    clear A40
    simp only [Option.some.injEq, Prod.mk.injEq] at H
    obtain ⟨rfl, rfl, rfl⟩ := H
    go_enter Try.func36, Try.ntmps36
    go_wp2_with (first | ((with_reducible refine gate_callee (f := 40) rfl ?_); refine goesL_ (some 9) rfl rfl Try.func40 (by kernel_rfl) rfl #[.pointer (some ⟨g, 0, none⟩)] rfl (by (try simp only [List.map_toArray, List.map_cons, List.map_nil]); first | done | rfl | (simp only [List.length_drop, List.length_take]; rfl)) ?_; (with_reducible refine (firkinref01_S_Fail.calls g s0_0 s0_1 t307 t308 w0 _ ?side1 ?side2 A4.out).mono ?_); (case side1 => repeat (first | (with_reducible first | exact HI0.out | apply IsS45.alloc | apply IsS45.drewN | apply IsS45.drew | apply IsS45.set_0 | apply IsS45.set_1) | exact HI0.out)); (case side2 => repeat (first | (with_reducible first | exact HB.out | apply below_alloc | apply pw_below_drewN | apply below_drew1 | refine below_set ?_ (IsS45.ge HI0.out)) | exact HB.out)); rintro e w5 ⟨rfl, hi, hb, hk⟩; refine ⟨_, rfl, ?_⟩; have n0_ := Aside0.mk (KeepBut.trans (by repeat (first | (with_reducible first | exact HK.out | apply KeepBut.set_ | apply keep_drewN | apply keep_drew | apply keep_alloc) | exact HK.out)) hk (.inl rfl)); have n1_ := Aside0.mk (hb); have n2_ := Aside0.mk (hi); clear HK; clear HB; clear HI0; have HK := n0_; have HB := n1_; have HI0 := n2_; clear n0_ n1_ n2_; (try clear hb); (try clear hb2); (try clear hk); (try clear hi)))
    go_ret
    exact ⟨by first | rfl | (simp [errW_none, errW_some] <;> rfl) | (simp [*, errW_none, errW_some] <;> rfl), by repeat (first | (with_reducible first | exact HI0.out | apply IsS45.alloc | apply IsS45.drewN | apply IsS45.drew | apply IsS45.set_0 | apply IsS45.set_1) | exact HI0.out), by repeat (first | (with_reducible first | exact HB.out | apply below_alloc | apply pw_below_drewN | apply below_drew1 | refine below_set ?_ (IsS45.ge HI0.out)) | exact HB.out), by repeat (first | (with_reducible first | exact HK.out | apply KeepBut.set_ | apply keep_drewN | apply keep_drew | apply keep_alloc) | exact HK.out)⟩
  · rw [if_neg c3] at H
    have c3b0 : decide (a1 < 0) = false := decide_eq_false c3
    clear c3
    replace H := Option.bind_eq_some_iff.mp H
    obtain ⟨⟨t309, t310, t311⟩, A60, H⟩ := H
    replace H : (if t311 = true then (firkinref01_S_Text.j0 k t309 true t310 t311) else (if t309 > (IntKind.u64.wrap (a1)) then (firkinref01_S_Text.j0 k t309 true t310 t311) else (firkinref01_S_Text.j0 k t309 (decide (t309 > (IntKind.u64.wrap ((t310.length : Int))))) t310 t311))) = some (r1, r2, r3) := H
    have A6 := Aside0.mk A60
    clear A60
    have HC7 := Aside0.mk H
    clear H
    go_enter Try.func36, Try.ntmps36
    go_upto_region 5 with (first | ((with_reducible refine gate_callee (f := 30) rfl ?_); refine goesL_ (some 11) rfl rfl Try.func30 (by kernel_rfl) rfl #[.pointer (some ⟨g, 0, none⟩)] rfl (by (try simp only [List.map_toArray, List.map_cons, List.map_nil]); first | done | rfl | (simp only [List.length_drop, List.length_take]; rfl)) ?_; (with_reducible refine (firkinref01_S_Num.calls g s0_0 s0_1 t309 t310 t311 w0 _ ?side1 ?side2 A6.out).mono ?_); (case side1 => repeat (first | (with_reducible first | exact HI0.out | apply IsS45.alloc | apply IsS45.drewN | apply IsS45.drew | apply IsS45.set_0 | apply IsS45.set_1) | exact HI0.out)); (case side2 => repeat (first | (with_reducible first | exact HB.out | apply below_alloc | apply pw_below_drewN | apply below_drew1 | refine below_set ?_ (IsS45.ge HI0.out)) | exact HB.out)); rintro e w8 ⟨rfl, hi, hb, hk⟩; refine ⟨_, rfl, ?_⟩; have n0_ := Aside0.mk (KeepBut.trans (by repeat (first | (with_reducible first | exact HK.out | apply KeepBut.set_ | apply keep_drewN | apply keep_drew | apply keep_alloc) | exact HK.out)) hk (.inl rfl)); have n1_ := Aside0.mk (hb); have n2_ := Aside0.mk (hi); clear HK; clear HB; clear HI0; have HK := n0_; have HB := n1_; have HI0 := n2_; clear n0_ n1_ n2_; (try clear hb); (try clear hb2); (try clear hk); (try clear hi)))
    (try simp only [Act.put, List.setIfInBounds_toArray, List.set_cons_zero, List.set_cons_succ])
    go_cut [31] (fun v31 wc => ∃ (kq : Nat) (x31_6 : Bool), v31 = .bool x31_6 ∧ Aside0 (firkinref01_S_Text.j0 kq t309 x31_6 t310 t311 = some (r1, r2, r3)) ∧ Aside0 (kq ≤ k) ∧ Aside0 (IsS45 w0 wc g t310 t311) ∧ Aside0 (KeepBut w wc g none) ∧ Aside0 (Below w0.heap.size w0 wc))
    case first =>
      have H := HC7.out
      clear HC7
      by_cases c9 : t311 = true
      · subst c9
        have H1 : (firkinref01_S_Text.j0 k t309 true t310 true) = some (r1, r2, r3) := by rw [if_pos rfl] at H; exact H
        clear H
        have H := H1
        clear H1
        have H' := Aside0.mk H
        clear H
        obtain ⟨ASz10_0, cSz10_0, HGz10, hgz10, ⟨HSz10_0, _⟩⟩ := HI0.out
        have hcz10_0 := cellS45_0 HGz10
        have hcz10_1 := cellS45_1 HGz10
        have hfz10_0 := blk_frozen HGz10 0
        have hfz10_1 := blk_frozen HGz10 1
        clear HGz10 hgz10
        go_wp2
        go_meet
        case rel => exact ⟨_, (true), (by first | rfl | (simp; done) | (simp [*]; done)), H', ⟨by first | omega | exact Nat.le_refl _⟩, ⟨by repeat (first | (with_reducible first | exact HI0.out | apply IsS45.alloc | apply IsS45.drewN | apply IsS45.drew | apply IsS45.set_0 | apply IsS45.set_1) | exact HI0.out)⟩, ⟨by repeat (first | (with_reducible first | exact HK.out | apply KeepBut.set_ | apply keep_drewN | apply keep_drew | apply keep_alloc) | exact HK.out)⟩, ⟨by repeat (first | (with_reducible first | exact HB.out | apply below_alloc | apply pw_below_drewN | apply below_drew1 | refine below_set ?_ (IsS45.ge HI0.out)) | exact HB.out)⟩⟩
      · replace c9 := Bool.eq_false_iff.mpr c9
        subst c9
        have H1 : (if t309 > (IntKind.u64.wrap (a1)) then (firkinref01_S_Text.j0 k t309 true t310 false) else (firkinref01_S_Text.j0 k t309 (decide (t309 > (IntKind.u64.wrap ((t310.length : Int))))) t310 false)) = some (r1, r2, r3) := by rw [if_neg (show ¬ (false = true) by decide)] at H; exact H
        clear H
        have H := H1
        clear H1
        by_cases c11 : t309 > (IntKind.u64.wrap (a1))
        · rw [if_pos c11] at H
          have c11b0 : decide ((IntKind.u64.wrap (a1)) < t309) = true := decide_eq_true c11
          clear c11
          (first | rw [c11b0] | (simp only [i64_w, i32_w]; rw [c11b0]) | skip)
          have H' := Aside0.mk H
          clear H
          obtain ⟨ASz12_0, cSz12_0, HGz12, hgz12, ⟨HSz12_0, _⟩⟩ := HI0.out
          have hcz12_0 := cellS45_0 HGz12
          have hcz12_1 := cellS45_1 HGz12
          have hfz12_0 := blk_frozen HGz12 0
          have hfz12_1 := blk_frozen HGz12 1
          clear HGz12 hgz12
          go_wp2
          go_meet
          case rel => exact ⟨_, (true), (by first | rfl | (simp; done) | (simp [*]; done)), H', ⟨by first | omega | exact Nat.le_refl _⟩, ⟨by repeat (first | (with_reducible first | exact HI0.out | apply IsS45.alloc | apply IsS45.drewN | apply IsS45.drew | apply IsS45.set_0 | apply IsS45.set_1) | exact HI0.out)⟩, ⟨by repeat (first | (with_reducible first | exact HK.out | apply KeepBut.set_ | apply keep_drewN | apply keep_drew | apply keep_alloc) | exact HK.out)⟩, ⟨by repeat (first | (with_reducible first | exact HB.out | apply below_alloc | apply pw_below_drewN | apply below_drew1 | refine below_set ?_ (IsS45.ge HI0.out)) | exact HB.out)⟩⟩
        · rw [if_neg c11] at H
          have c11b0 : decide ((IntKind.u64.wrap (a1)) < t309) = false := decide_eq_false c11
          clear c11
          (first | rw [c11b0] | (simp only [i64_w, i32_w]; rw [c11b0]) | skip)
          have H' := Aside0.mk H
          clear H
          obtain ⟨ASz13_0, cSz13_0, HGz13, hgz13, ⟨HSz13_0, _⟩⟩ := HI0.out
          have hcz13_0 := cellS45_0 HGz13
          have hcz13_1 := cellS45_1 HGz13
          have hfz13_0 := blk_frozen HGz13 0
          have hfz13_1 := blk_frozen HGz13 1
          clear HGz13 hgz13
          go_wp2
          go_meet
          case rel => exact ⟨_, (decide (t309 > (IntKind.u64.wrap ((t310.length : Int))))), (by first | rfl | (simp; done) | (simp [*]; done)), H', ⟨by first | omega | exact Nat.le_refl _⟩, ⟨by repeat (first | (with_reducible first | exact HI0.out | apply IsS45.alloc | apply IsS45.drewN | apply IsS45.drew | apply IsS45.set_0 | apply IsS45.set_1) | exact HI0.out)⟩, ⟨by repeat (first | (with_reducible first | exact HK.out | apply KeepBut.set_ | apply keep_drewN | apply keep_drew | apply keep_alloc) | exact HK.out)⟩, ⟨by repeat (first | (with_reducible first | exact HB.out | apply below_alloc | apply pw_below_drewN | apply below_drew1 | refine below_set ?_ (IsS45.ge HI0.out)) | exact HB.out)⟩⟩
    case rest =>
      clear HC7
      try clear c1
      try clear p2
      try clear c3
      try clear c3b0
      try clear c4
      try clear c9
      try clear c11
      try clear c11b0
      try clear hcz10_0
      try clear hcz10_1
      try clear hcz12_0
      try clear hcz12_1
      try clear hcz13_0
      try clear hcz13_1
      try clear hfz10_0
      try clear hfz10_1
      try clear hfz12_0
      try clear hfz12_1
      try clear hfz13_0
      try clear hfz13_1
      obtain ⟨kq, x31_6, rfl, HA, HJ6, HI0, HK, HB⟩ := hcut
      cases kq with
      | zero => exact absurd HA.out (by simp [firkinref01_S_Text.j0])
      | succ kj6 =>
        have H := HA.out
        clear HA
        simp only [firkinref01_S_Text.j0] at H
        by_cases c14 : x31_6 = true
        · subst c14
          have H1 : ((firkinref01_S_Fail.f t310 t311).bind fun bt312 => (some ((⟨#[]⟩ : ByteArray), bt312.1, bt312.2))) = some (r1, r2, r3) := by rw [if_pos rfl] at H; exact H
          clear H
          have H := H1
          clear H1
          replace H := Option.bind_eq_some_iff.mp H
          obtain ⟨⟨t312, t313⟩, A150, H⟩ := H
          replace H : (some ((⟨#[]⟩ : ByteArray), t312, t313)) = some (r1, r2, r3) := H
          have A15 := Aside0.mk A150
          clear A150
          simp only [Option.some.injEq, Prod.mk.injEq] at H
          obtain ⟨rfl, rfl, rfl⟩ := H
          go_wp2_with (first | ((with_reducible refine gate_callee (f := 40) rfl ?_); refine goesL_ (some 33) rfl rfl Try.func40 (by kernel_rfl) rfl #[.pointer (some ⟨g, 0, none⟩)] rfl (by (try simp only [List.map_toArray, List.map_cons, List.map_nil]); first | done | rfl | (simp only [List.length_drop, List.length_take]; rfl)) ?_; (with_reducible refine (firkinref01_S_Fail.calls g t310 t311 t312 t313 w0 _ ?side1 ?side2 A15.out).mono ?_); (case side1 => repeat (first | (with_reducible first | exact HI0.out | apply IsS45.alloc | apply IsS45.drewN | apply IsS45.drew | apply IsS45.set_0 | apply IsS45.set_1) | exact HI0.out)); (case side2 => repeat (first | (with_reducible first | exact HB.out | apply below_alloc | apply pw_below_drewN | apply below_drew1 | refine below_set ?_ (IsS45.ge HI0.out)) | exact HB.out)); rintro e w16 ⟨rfl, hi, hb, hk⟩; refine ⟨_, rfl, ?_⟩; have n0_ := Aside0.mk (KeepBut.trans (by repeat (first | (with_reducible first | exact HK.out | apply KeepBut.set_ | apply keep_drewN | apply keep_drew | apply keep_alloc) | exact HK.out)) hk (.inl rfl)); have n1_ := Aside0.mk (hb); have n2_ := Aside0.mk (hi); clear HK; clear HB; clear HI0; have HK := n0_; have HB := n1_; have HI0 := n2_; clear n0_ n1_ n2_; (try clear hb); (try clear hb2); (try clear hk); (try clear hi)))
          go_ret
          exact ⟨by first | rfl | (simp [errW_none, errW_some] <;> rfl) | (simp [*, errW_none, errW_some] <;> rfl), by repeat (first | (with_reducible first | exact HI0.out | apply IsS45.alloc | apply IsS45.drewN | apply IsS45.drew | apply IsS45.set_0 | apply IsS45.set_1) | exact HI0.out), by repeat (first | (with_reducible first | exact HB.out | apply below_alloc | apply pw_below_drewN | apply below_drew1 | refine below_set ?_ (IsS45.ge HI0.out)) | exact HB.out), by repeat (first | (with_reducible first | exact HK.out | apply KeepBut.set_ | apply keep_drewN | apply keep_drew | apply keep_alloc) | exact HK.out)⟩
        · replace c14 := Bool.eq_false_iff.mpr c14
          subst c14
          have H1 : ((firkinref01_S_Take.f t310 t311 (wrap64 (t309))).bind fun bt314 => (some (strOfNums bt314.1, bt314.2.1, bt314.2.2))) = some (r1, r2, r3) := by rw [if_neg (show ¬ (false = true) by decide)] at H; exact H
          clear H
          have H := H1
          clear H1
          replace H := Option.bind_eq_some_iff.mp H
          obtain ⟨⟨t314, t317, t318⟩, A170, H⟩ := H
          replace H : (some (strOfNums t314, t317, t318)) = some (r1, r2, r3) := H
          have A17 := Aside0.mk A170
          clear A170
          simp only [Option.some.injEq, Prod.mk.injEq] at H
          obtain ⟨rfl, rfl, rfl⟩ := H
          go_wp2_with (first | ((with_reducible refine gate_callee (f := 38) rfl ?_); refine goesL_ (some 37) rfl rfl Try.func38 (by kernel_rfl) rfl #[.pointer (some ⟨g, 0, none⟩), .int .i64 (wrap64 (t309))] rfl (by (try simp only [List.map_toArray, List.map_cons, List.map_nil]); first | done | rfl | (simp only [List.length_drop, List.length_take]; rfl)) ?_; (with_reducible refine (firkinref01_S_Take.calls g t310 t311 (wrap64 (t309)) t314 t317 t318 w0 _ ?side1 ?side2 A17.out).mono ?_); (case side1 => repeat (first | (with_reducible first | exact HI0.out | apply IsS45.alloc | apply IsS45.drewN | apply IsS45.drew | apply IsS45.set_0 | apply IsS45.set_1) | exact HI0.out)); (case side2 => repeat (first | (with_reducible first | exact HB.out | apply below_alloc | apply pw_below_drewN | apply below_drew1 | refine below_set ?_ (IsS45.ge HI0.out)) | exact HB.out)); rintro e w18 ⟨v315, rfl, ho0, hi, hb, hk⟩; refine ⟨_, rfl, ?_⟩; have n0_ := Aside0.mk (Kd.R_lower ho0 (keep_size (w := w) (g := g) (row := none) (by repeat (first | (with_reducible first | exact HK.out | apply KeepBut.set_ | apply keep_drewN | apply keep_drew | apply keep_alloc) | exact HK.out)))); have n1_ := Aside0.mk (KeepBut.trans (by repeat (first | (with_reducible first | exact HK.out | apply KeepBut.set_ | apply keep_drewN | apply keep_drew | apply keep_alloc) | exact HK.out)) hk (.inl rfl)); have n2_ := Aside0.mk (hb); have n3_ := Aside0.mk (hi); clear HK; clear HB; clear HI0; have HO316 := n0_; have HK := n1_; have HB := n2_; have HI0 := n3_; clear n0_ n1_ n2_ n3_; (try clear hb); (try clear hb2); (try clear hk); (try clear hi); (try clear ho0); have hcv19 := own_string (P := Try.prog) Try.underlying31 Try.underlying5 Try.underlying9 (Kd.own_of_R HO316.out)))
          go_ret
          exact ⟨by first | rfl | (simp [errW_none, errW_some] <;> rfl) | (simp [*, errW_none, errW_some] <;> rfl), by repeat (first | (with_reducible first | exact HI0.out | apply IsS45.alloc | apply IsS45.drewN | apply IsS45.drew | apply IsS45.set_0 | apply IsS45.set_1) | exact HI0.out), by repeat (first | (with_reducible first | exact HB.out | apply below_alloc | apply pw_below_drewN | apply below_drew1 | refine below_set ?_ (IsS45.ge HI0.out)) | exact HB.out), by repeat (first | (with_reducible first | exact HK.out | apply KeepBut.set_ | apply keep_drewN | apply keep_drew | apply keep_alloc) | exact HK.out)⟩

/-! ### vint_Source_Left: function 42 -/
def vint_Source_Left.f (s0_0 : List Int) (s0_1 : Bool) : Option (Int × List Int × Bool) := (vint_Source_Ok.f s0_0 s0_1).bind fun bt319 => (if bt319.1 = true then (some ((bt319.2.1.length : Int), bt319.2.1, bt319.2.2)) else (some (0, bt319.2.1, bt319.2.2)))
set_option maxHeartbeats 8000000 in
set_option maxRecDepth 100000 in
theorem vint_Source_Left.calls (g : Nat) (s0_0 : List Int) (s0_1 : Bool) (r1 : Int) (r2 : List Int) (r3 : Bool) (w0 w : World) (hI : IsS93 w0 w g s0_0 s0_1) (hB : Below w0.heap.size w0 w) (h : vint_Source_Left.f s0_0 s0_1 = some (r1, r2, r3)) :
    Calls Try.prog 42 #[.pointer (some ⟨g, 0, none⟩)] w fun e w' => e = .returned (.int .i64 r1) ∧ IsS93 w0 w' g r2 r3 ∧ Below w0.heap.size w0 w' ∧ KeepBut w w' g none := by
  have HI0 := Aside0.mk hI
  have HK := Aside0.mk (KeepBut.refl w g none)
  have HL := Aside0.mk hB.size
  clear hI
  have HW0 := Aside0.mk hB.size
  have HB := Aside0.mk hB
  clear hB
  have H : ((vint_Source_Ok.f s0_0 s0_1).bind fun bt319 => (if bt319.1 = true then (some ((bt319.2.1.length : Int), bt319.2.1, bt319.2.2)) else (some (0, bt319.2.1, bt319.2.2)))) = some (r1, r2, r3) := h
  clear h
  replace H := Option.bind_eq_some_iff.mp H
  obtain ⟨⟨t319, t320, t321⟩, A20, H⟩ := H
  replace H : (if t319 = true then (some ((t320.length : Int), t320, t321)) else (some (0, t320, t321))) = some (r1, r2, r3) := H
  have A2 := Aside0.mk A20
  clear A20
  by_cases c3 : t319 = true
  · subst c3
    have H1 : (some ((t320.length : Int), t320, t321)) = some (r1, r2, r3) := by rw [if_pos rfl] at H; exact H
    clear H
    have H := H1
    clear H1
    simp only [Option.some.injEq, Prod.mk.injEq] at H
    obtain ⟨rfl, rfl, rfl⟩ := H
    go_enter Try.func42, Try.ntmps42
    go_wp2_with (first | ((with_reducible refine gate_callee (f := 41) rfl ?_); refine goesL_ (some 4) rfl rfl Try.func41 (by kernel_rfl) rfl #[.pointer (some ⟨g, 0, none⟩)] rfl (by (try simp only [List.map_toArray, List.map_cons, List.map_nil]); first | done | rfl | (simp only [List.length_drop, List.length_take]; rfl)) ?_; (with_reducible refine (vint_Source_Ok.calls g s0_0 s0_1 true t320 t321 w0 _ ?side1 ?side2 A2.out).mono ?_); (case side1 => repeat (first | (with_reducible first | exact HI0.out | apply IsS93.alloc | apply IsS93.drewN | apply IsS93.drew | apply IsS93.set_0 | apply IsS93.set_1) | exact HI0.out)); (case side2 => repeat (first | (with_reducible first | exact HB.out | apply below_alloc | apply pw_below_drewN | apply below_drew1 | refine below_set ?_ (IsS93.ge HI0.out)) | exact HB.out)); rintro e w4 ⟨rfl, hi, hb, hk⟩; refine ⟨_, rfl, ?_⟩; have n0_ := Aside0.mk (KeepBut.trans (by repeat (first | (with_reducible first | exact HK.out | apply KeepBut.set_ | apply keep_drewN | apply keep_drew | apply keep_alloc) | exact HK.out)) hk (.inl rfl)); have n1_ := Aside0.mk (hb); have n2_ := Aside0.mk (hi); clear HK; clear HB; clear HI0; have HK := n0_; have HB := n1_; have HI0 := n2_; clear n0_ n1_ n2_; (try clear hb); (try clear hb2); (try clear hk); (try clear hi); obtain ⟨ASz5_0, cSz5_0, HGz5, hgz5, ⟨HSz5_0, _⟩⟩ := HI0.out; have hcz5_0 := cellS93_0 HGz5; have hcz5_1 := cellS93_1 HGz5; have hfz5_0 := blk_frozen HGz5 0; have hfz5_1 := blk_frozen HGz5 1; clear HGz5 hgz5))
    go_ret
    exact ⟨by first | rfl | (simp [errW_none, errW_some] <;> rfl) | (simp [*, errW_none, errW_some] <;> rfl), by repeat (first | (with_reducible first | exact HI0.out | apply IsS93.alloc | apply IsS93.drewN | apply IsS93.drew | apply IsS93.set_0 | apply IsS93.set_1) | exact HI0.out), by repeat (first | (with_reducible first | exact HB.out | apply below_alloc | apply pw_below_drewN | apply below_drew1 | refine below_set ?_ (IsS93.ge HI0.out)) | exact HB.out), by repeat (first | (with_reducible first | exact HK.out | apply KeepBut.set_ | apply keep_drewN | apply keep_drew | apply keep_alloc) | exact HK.out)⟩
  · replace c3 := Bool.eq_false_iff.mpr c3
    subst c3
    have H1 : (some (0, t320, t321)) = some (r1, r2, r3) := by rw [if_neg (show ¬ (false = true) by decide)] at H; exact H
    clear H
    have H := H1
    clear H1
    simp only [Option.some.injEq, Prod.mk.injEq] at H
    obtain ⟨rfl, rfl, rfl⟩ := H
    go_enter Try.func42, Try.ntmps42
    go_wp2_with (first | ((with_reducible refine gate_callee (f := 41) rfl ?_); refine goesL_ (some 4) rfl rfl Try.func41 (by kernel_rfl) rfl #[.pointer (some ⟨g, 0, none⟩)] rfl (by (try simp only [List.map_toArray, List.map_cons, List.map_nil]); first | done | rfl | (simp only [List.length_drop, List.length_take]; rfl)) ?_; (with_reducible refine (vint_Source_Ok.calls g s0_0 s0_1 false t320 t321 w0 _ ?side1 ?side2 A2.out).mono ?_); (case side1 => repeat (first | (with_reducible first | exact HI0.out | apply IsS93.alloc | apply IsS93.drewN | apply IsS93.drew | apply IsS93.set_0 | apply IsS93.set_1) | exact HI0.out)); (case side2 => repeat (first | (with_reducible first | exact HB.out | apply below_alloc | apply pw_below_drewN | apply below_drew1 | refine below_set ?_ (IsS93.ge HI0.out)) | exact HB.out)); rintro e w6 ⟨rfl, hi, hb, hk⟩; refine ⟨_, rfl, ?_⟩; have n0_ := Aside0.mk (KeepBut.trans (by repeat (first | (with_reducible first | exact HK.out | apply KeepBut.set_ | apply keep_drewN | apply keep_drew | apply keep_alloc) | exact HK.out)) hk (.inl rfl)); have n1_ := Aside0.mk (hb); have n2_ := Aside0.mk (hi); clear HK; clear HB; clear HI0; have HK := n0_; have HB := n1_; have HI0 := n2_; clear n0_ n1_ n2_; (try clear hb); (try clear hb2); (try clear hk); (try clear hi)))
    go_ret
    exact ⟨by first | rfl | (simp [errW_none, errW_some] <;> rfl) | (simp [*, errW_none, errW_some] <;> rfl), by repeat (first | (with_reducible first | exact HI0.out | apply IsS93.alloc | apply IsS93.drewN | apply IsS93.drew | apply IsS93.set_0 | apply IsS93.set_1) | exact HI0.out), by repeat (first | (with_reducible first | exact HB.out | apply below_alloc | apply pw_below_drewN | apply below_drew1 | refine below_set ?_ (IsS93.ge HI0.out)) | exact HB.out), by repeat (first | (with_reducible first | exact HK.out | apply KeepBut.set_ | apply keep_drewN | apply keep_drew | apply keep_alloc) | exact HK.out)⟩

/-! ### firkinref01_S_End: function 44 -/
def firkinref01_S_End.f (s0_0 : List Int) (s0_1 : Bool) : Option (Bool × List Int × Bool) := if s0_1 = true then (some (false, s0_0, s0_1)) else (some (((s0_0.length : Int) == 0), s0_0, s0_1))
set_option maxHeartbeats 8000000 in
set_option maxRecDepth 100000 in
theorem firkinref01_S_End.calls (g : Nat) (s0_0 : List Int) (s0_1 : Bool) (r1 : Bool) (r2 : List Int) (r3 : Bool) (w0 w : World) (hI : IsS45 w0 w g s0_0 s0_1) (hB : Below w0.heap.size w0 w) (h : firkinref01_S_End.f s0_0 s0_1 = some (r1, r2, r3)) :
    Calls Try.prog 44 #[.pointer (some ⟨g, 0, none⟩)] w fun e w' => e = .returned (.bool r1) ∧ IsS45 w0 w' g r2 r3 ∧ Below w0.heap.size w0 w' ∧ KeepBut w w' g none := by
  have HI0 := Aside0.mk hI
  have HK := Aside0.mk (KeepBut.refl w g none)
  have HL := Aside0.mk hB.size
  clear hI
  have HW0 := Aside0.mk hB.size
  have HB := Aside0.mk hB
  clear hB
  have H : (if s0_1 = true then (some (false, s0_0, s0_1)) else (some (((s0_0.length : Int) == 0), s0_0, s0_1))) = some (r1, r2, r3) := h
  clear h
  by_cases c2 : s0_1 = true
  · subst c2
    have H1 : (some (false, s0_0, true)) = some (r1, r2, r3) := by rw [if_pos rfl] at H; exact H
    clear H
    have H := H1
    clear H1
    simp only [Option.some.injEq, Prod.mk.injEq] at H
    obtain ⟨rfl, rfl, rfl⟩ := H
    obtain ⟨ASz3_0, cSz3_0, HGz3, hgz3, ⟨HSz3_0, _⟩⟩ := HI0.out
    have hcz3_0 := cellS45_0 HGz3
    have hcz3_1 := cellS45_1 HGz3
    have hfz3_0 := blk_frozen HGz3 0
    have hfz3_1 := blk_frozen HGz3 1
    clear HGz3 hgz3
    go_enter Try.func44, Try.ntmps44
    go_wp2
    go_ret
    exact ⟨by first | rfl | (simp [errW_none, errW_some] <;> rfl) | (simp [*, errW_none, errW_some] <;> rfl), by repeat (first | (with_reducible first | exact HI0.out | apply IsS45.alloc | apply IsS45.drewN | apply IsS45.drew | apply IsS45.set_0 | apply IsS45.set_1) | exact HI0.out), by repeat (first | (with_reducible first | exact HB.out | apply below_alloc | apply pw_below_drewN | apply below_drew1 | refine below_set ?_ (IsS45.ge HI0.out)) | exact HB.out), by repeat (first | (with_reducible first | exact HK.out | apply KeepBut.set_ | apply keep_drewN | apply keep_drew | apply keep_alloc) | exact HK.out)⟩
  · replace c2 := Bool.eq_false_iff.mpr c2
    subst c2
    have H1 : (some (((s0_0.length : Int) == 0), s0_0, false)) = some (r1, r2, r3) := by rw [if_neg (show ¬ (false = true) by decide)] at H; exact H
    clear H
    have H := H1
    clear H1
    simp only [Option.some.injEq, Prod.mk.injEq] at H
    obtain ⟨rfl, rfl, rfl⟩ := H
    obtain ⟨ASz4_0, cSz4_0, HGz4, hgz4, ⟨HSz4_0, _⟩⟩ := HI0.out
    have hcz4_0 := cellS45_0 HGz4
    have hcz4_1 := cellS45_1 HGz4
    have hfz4_0 := blk_frozen HGz4 0
    have hfz4_1 := blk_frozen HGz4 1
    clear HGz4 hgz4
    go_enter Try.func44, Try.ntmps44
    go_wp2
    go_ret
    exact ⟨by first | rfl | (simp [errW_none, errW_some] <;> rfl) | (simp [*, errW_none, errW_some] <;> rfl), by repeat (first | (with_reducible first | exact HI0.out | apply IsS45.alloc | apply IsS45.drewN | apply IsS45.drew | apply IsS45.set_0 | apply IsS45.set_1) | exact HI0.out), by repeat (first | (with_reducible first | exact HB.out | apply below_alloc | apply pw_below_drewN | apply below_drew1 | refine below_set ?_ (IsS45.ge HI0.out)) | exact HB.out), by repeat (first | (with_reducible first | exact HK.out | apply KeepBut.set_ | apply keep_drewN | apply keep_drew | apply keep_alloc) | exact HK.out)⟩

end Go.Proofs.Ytkdlfejokahohaa.X
/- Numbers as bytes, written: what vint.Num and its reference compute, and that what is written is read again. -/
namespace Go.Proofs.Ytkdlfejokahohaa.Enc
open Go.RowKit Go.Proofs.Ytkdlfejokahohaa.X Go.Proofs.Ytkdlfejokahohaa.Dec Go.Proofs.YtkdlfejokahohaaW.PrintWords Go.Proofs.YtkdlfejokahohaaW.PrintLast Go.Proofs.YtkdlfejokahohaaW.PrintMore
set_option linter.unusedVariables false
theorem len_bounds : ∀ (m n : Nat), n ≤ m → n < 2 ^ 64 → n < 2 ^ Lib.bitLen n ∧ (n ≠ 0 → 2 ^ (Lib.bitLen n - 1) ≤ n) := by
  intro m
  induction m with
  | zero =>
    intro n h _
    obtain rfl : n = 0 := by omega
    exact ⟨by decide, fun h => absurd rfl h⟩
  | succ m ih =>
    intro n h hl
    by_cases h0 : n = 0
    · subst h0; exact ⟨by decide, fun h => absurd rfl h⟩
    · rw [Lib.bitLen_half n h0 hl]
      obtain ⟨h1, h2⟩ := ih (n / 2) (by omega) (by omega)
      refine ⟨by rw [Nat.add_comm, Nat.pow_succ]; omega, fun _ => ?_⟩
      rw [Nat.add_sub_cancel_left]
      by_cases h3 : n / 2 = 0
      · rw [h3]
        have : Lib.bitLen 0 = 0 := by decide
        rw [this]; simp; omega
      · have h4 := h2 h3
        have h5 : Lib.bitLen (n / 2) ≠ 0 := by intro e; rw [e] at h1; simp at h1; omega
        obtain ⟨q, hq⟩ : ∃ q, Lib.bitLen (n / 2) = q + 1 := ⟨_, (Nat.succ_pred h5).symm⟩
        rw [hq] at h4 ⊢
        rw [Nat.add_sub_cancel] at h4
        rw [Nat.pow_succ]; omega
/-- How many bytes a number has. -/
def grp (n : Nat) : Nat := max 1 ((Lib.bitLen n + 6) / 7)
/-- n has just G groups of seven bits. -/
def Has (n G : Nat) : Prop := 1 ≤ G ∧ n < 2 ^ (7 * G) ∧ (1 < G → 2 ^ (7 * (G - 1)) ≤ n)
theorem grp_has {n : Nat} (h : n < 2 ^ 64) : Has n (grp n) := by
  by_cases h0 : n = 0
  · subst h0; exact ⟨by decide, by decide, by decide⟩
  obtain ⟨h1, h2⟩ := len_bounds n n (Nat.le_refl _) h
  unfold grp
  generalize Lib.bitLen n = L at *
  exact ⟨by omega, Nat.lt_of_lt_of_le h1 (Nat.pow_le_pow_right (by decide) (by omega)), fun hg => Nat.le_trans (Nat.pow_le_pow_right (by decide) (by omega)) (h2 h0)⟩
theorem len_le (n : Nat) (h : n < 2 ^ 64) : Lib.bitLen n ≤ 64 := by
  obtain ⟨h1, h2⟩ := len_bounds n n (Nat.le_refl _) h
  by_cases h0 : n = 0
  · subst h0; decide
  · apply Classical.byContradiction
    intro hc
    have := h2 h0
    have h3 : (2 : Nat) ^ 64 ≤ 2 ^ (Lib.bitLen n - 1) := Nat.pow_le_pow_right (by decide) (by omega)
    omega
theorem grp_le {n : Nat} (h : n < 2 ^ 64) : grp n ≤ 10 := by
  have := len_le n h
  unfold grp; omega
theorem Has.uniq {n G G' : Nat} (h : Has n G) (h' : Has n G') : G = G' := by
  rcases Nat.lt_trichotomy G G' with hl | he | hl
  · exfalso
    have h1 := h'.2.2 (by have := h.1; omega)
    have h2 : 2 ^ (7 * G) ≤ 2 ^ (7 * (G' - 1)) := Nat.pow_le_pow_right (by decide) (by omega)
    have := h.2.1
    omega
  · exact he
  · exfalso
    have h1 := h.2.2 (by have := h'.1; omega)
    have h2 : 2 ^ (7 * G') ≤ 2 ^ (7 * (G - 1)) := Nat.pow_le_pow_right (by decide) (by omega)
    have := h'.2.1
    omega
def encByte (n G i : Nat) : Nat := n / 2 ^ (7 * i) % 128 + (if i + 1 < G then 128 else 0)
def encL (n G : Nat) : List Int := (List.range G).map fun i => ((encByte n G i : Nat) : Int)
/-- A number's bytes. -/
def enc (n : Nat) : List Int := encL n (grp n)
theorem encL_length (n G : Nat) : (encL n G).length = G := by simp [encL]
theorem encL_get (n G i : Nat) (h : i < G) : (encL n G).getD i 0 = ((encByte n G i : Nat) : Int) := by
  simp [encL, List.getD, h]
theorem encByte_lt (n G i : Nat) : encByte n G i < 256 := by
  unfold encByte
  have : n / 2 ^ (7 * i) % 128 < 128 := Nat.mod_lt _ (by decide)
  split <;> omega
theorem encL_bytes (n G : Nat) : IsBytes (encL n G) := by
  intro x hx
  simp only [encL, List.mem_map, List.mem_range] at hx
  obtain ⟨i, _, rfl⟩ := hx
  have := encByte_lt n G i
  omega
theorem enc_bytes (n : Nat) : IsBytes (enc n) := encL_bytes n _
/-- What the loop of vint.Num has laid after i rounds. -/
def laid (n G i : Nat) : List Int := (List.range G).map fun q => if q < i then ((n / 2 ^ (7 * q) % 128 + 128 : Nat) : Int) else 0
theorem laid_length (n G i : Nat) : (laid n G i).length = G := by simp [laid]
theorem laid_zero (n G : Nat) : laid n G 0 = List.replicate G 0 := by
  apply List.ext_getElem (by simp [laid]); intro j h1 h2; simp [laid]
theorem laid_set (n G i : Nat) (h : i < G) : (laid n G i).set i ((n / 2 ^ (7 * i) % 128 + 128 : Nat) : Int) = laid n G (i + 1) := by
  apply List.ext_getElem (by simp [laid]); intro j h1 h2
  simp only [laid, List.getElem_set, List.getElem_map, List.getElem_range]
  by_cases e : i = j
  · subst e; simp
  · by_cases hj : j < i
    · rw [if_neg e, if_pos hj, if_pos (by omega)]
    · rw [if_neg e, if_neg hj, if_neg (by omega)]
theorem laid_end (n G : Nat) (h : 1 ≤ G) : (laid n G G).set (G - 1) ((n / 2 ^ (7 * (G - 1)) % 128 : Nat) : Int) = encL n G := by
  apply List.ext_getElem (by simp [laid, encL]); intro j h1 h2
  have hj : j < G := by simpa [laid] using h1
  simp only [laid, encL, List.getElem_set, List.getElem_map, List.getElem_range, encByte]
  by_cases e : G - 1 = j
  · rw [if_pos e, if_neg (by omega), ← e, Nat.add_zero]
  · rw [if_neg e, if_pos hj, if_pos (by omega)]
theorem shr_nat (n i : Nat) (hi : 7 * i ≤ 64) : shr .u64 (n : Int) ((7 * i : Nat) : Int) = ((n / 2 ^ (7 * i) : Nat) : Int) := by
  unfold shr
  rw [show min ((7 * i : Nat) : Int).toNat (IntKind.u64).bits = 7 * i from by simp [IntKind.bits]; omega]
  simp
theorem seven (y : Nat) : Go.bits .or .u8 (Go.bits .andNot .u8 ((y : Int) % 256) 128) 128 = ((y % 128 + 128 : Nat) : Int) := by
  have e : ((y : Int) % 256) = ((y % 256 : Nat) : Int) := by omega
  have hm : y % 256 < 256 := Nat.mod_lt _ (by decide)
  rw [e, u8_andNot _ _ (by omega) (by omega) (by omega) (by omega), show 255 - (128 : Int).toNat = 2 ^ 7 - 1 by decide, Nat.and_two_pow_sub_one_eq_mod, Int.toNat_natCast]
  rw [u8_or128_right _ (by omega) (by omega)]
  omega
theorem last_seven (m : Nat) (h : m < 128) : Go.bits .andNot .u8 ((m + 128 : Nat) : Int) 128 = ((m : Nat) : Int) := by
  rw [u8_andNot _ _ (by omega) (by omega) (by omega) (by omega), show 255 - (128 : Int).toNat = 2 ^ 7 - 1 by decide, Nat.and_two_pow_sub_one_eq_mod, Int.toNat_natCast]
  omega
theorem rd_nat (xs : List Int) (q : Nat) : rd xs (q : Int) = xs.getD q 0 := rfl
theorem num_loop (n G : Nat) (hG : 1 ≤ G) (hG2 : G ≤ 10) (d : Nat) : ∀ (k i : Nat), i + d = G → d < k →
    vint_Num.l0 k (n : Int) (G : Int) (laid n G i) (G : Int) (i : Int) = some (encL n G) := by
  induction d with
  | zero =>
    intro k i hd hk
    obtain ⟨k, rfl⟩ : ∃ m, k = m + 1 := ⟨k - 1, by omega⟩
    obtain rfl : i = G := by omega
    rw [vint_Num.l0, if_neg (by omega), w64 (by omega) (by omega), if_pos (by omega), if_pos (by rw [laid_length]; omega)]
    rw [show ((i : Int) - 1) = ((i - 1 : Nat) : Int) by omega, rd_nat, Int.toNat_natCast]
    have hg : (laid n i i).getD (i - 1) 0 = ((n / 2 ^ (7 * (i - 1)) % 128 + 128 : Nat) : Int) := by
      simp only [laid, List.getD]
      rw [List.getElem?_map, List.getElem?_range (by omega)]
      simp; omega
    rw [hg, last_seven _ (Nat.mod_lt _ (by decide)), laid_end n i hG]
  | succ d ih =>
    intro k i hd hk
    obtain ⟨k, rfl⟩ : ∃ m, k = m + 1 := ⟨k - 1, by omega⟩
    rw [vint_Num.l0, if_pos (by omega), w64 (x := 7 * (i : Int)) (by omega) (by omega), if_pos (by omega), if_pos (by omega), if_pos (by rw [laid_length]; omega)]
    rw [show (7 * (i : Int)) = ((7 * i : Nat) : Int) by omega, shr_nat n i (by omega), seven, Int.toNat_natCast, laid_set n G i (by omega), w64 (by omega) (by omega), show ((i : Int) + 1) = ((i + 1 : Nat) : Int) by omega]
    exact ih k (i + 1) (by omega) (by omega)
theorem num_is (n : Nat) (h : n < 18446744073709551616) (k : Nat) (hk : 10 < k) : vint_Num.f k (n : Int) = some (enc n) := by
  have hl := len_le n h
  have hg := grp_le (n := n) h
  unfold vint_Num.f bits_Len64.f
  rw [if_pos ⟨by omega, by omega⟩, Option.bind_some, Int.toNat_natCast]
  have e : mx 1 (wrap64 (Int.tdiv (wrap64 ((wrap64 (((Lib.bitLen n : Nat) : Int) + 7)) - 1)) 7)) = ((grp n : Nat) : Int) := by
    rw [w64 (x := ((Lib.bitLen n : Nat) : Int) + 7) (by omega) (by omega), w64 (x := ((Lib.bitLen n : Nat) : Int) + 7 - 1) (by omega) (by omega), Int.tdiv_eq_ediv_of_nonneg (by omega), w64 (by omega) (by omega)]
    unfold mx grp
    split <;> omega
  rw [e]
  rw [if_pos (by omega), Int.toNat_natCast, if_pos (by omega), Option.bind_some, List.length_replicate, ← laid_zero n]
  have := num_loop n (grp n) (grp_has h).1 hg (grp n) k 0 (by omega) (by omega)
  exact this
theorem rnum_loop (n G : Nat) (hn : Has n G) (hlt : n < 18446744073709551616) (hG : G ≤ 10) (d : Nat) : ∀ (k i : Nat) (acc : List Int), i + d = G → 1 ≤ d → d < k → acc = (encL n G).take i →
    firkinref01_Num.l0 k ((n / 2 ^ (7 * i) : Nat) : Int) acc = some (encL n G) := by
  induction d with
  | zero => intro k i acc hd h1; omega
  | succ d ih =>
    intro k i acc hd _ hk hacc
    obtain ⟨k, rfl⟩ : ∃ m, k = m + 1 := ⟨k - 1, by omega⟩
    have hq : n / 2 ^ (7 * i) < 18446744073709551616 := Nat.lt_of_le_of_lt (Nat.div_le_self _ _) hlt
    have hlen : acc.length ≤ 10 := by rw [hacc, List.length_take, encL_length]; omega
    have hget : (encL n G)[i]? = some ((encByte n G i : Nat) : Int) := by
      rw [encL, List.getElem?_map, List.getElem?_range (by omega)]; rfl
    have hsnoc : (encL n G).take i ++ [((encByte n G i : Nat) : Int)] = (encL n G).take (i + 1) := by
      have hi : i < (encL n G).length := by rw [encL_length]; omega
      rw [List.take_succ_eq_append_getElem hi]
      congr 1
      rw [List.getElem?_eq_getElem hi] at hget
      rw [Option.some.inj hget]
    have hpow : 2 ^ (7 * (i + 1)) = 2 ^ (7 * i) * 128 := by rw [show 7 * (i + 1) = 7 * i + 7 by omega, Nat.pow_add]
    rw [firkinref01_Num.l0]
    by_cases hd0 : d = 0
    · have hi : i + 1 = G := by omega
      have hsm : n / 2 ^ (7 * i) < 128 := by
        have := hn.2.1
        rw [← hi, hpow] at this
        exact Nat.div_lt_of_lt_mul this
      rw [if_neg (by omega), if_pos (by omega), hacc]
      have he : encByte n G i = n / 2 ^ (7 * i) := by unfold encByte; rw [if_neg (by omega), Nat.mod_eq_of_lt hsm, Nat.add_zero]
      rw [show (((n / 2 ^ (7 * i) : Nat) : Int) % 256) = ((n / 2 ^ (7 * i) : Nat) : Int) by omega, ← he, hsnoc, List.take_of_length_le (by rw [encL_length]; omega)]
    · have hbig : 128 ≤ n / 2 ^ (7 * i) := by
        have h1 := hn.2.2 (by omega)
        have h2 : 2 ^ (7 * (i + 1)) ≤ 2 ^ (7 * (G - 1)) := Nat.pow_le_pow_right (by decide) (by omega)
        rw [hpow] at h2
        rw [Nat.le_div_iff_mul_le (Nat.two_pow_pos _), Nat.mul_comm]
        omega
      have he : encByte n G i = n / 2 ^ (7 * i) % 128 + 128 := by unfold encByte; rw [if_pos (by omega)]
      have hdd : n / 2 ^ (7 * i) / 128 = n / 2 ^ (7 * (i + 1)) := by rw [Nat.div_div_eq_div_mul, hpow]
      rw [if_pos (by omega), if_pos (by omega), Int.tdiv_eq_ediv_of_nonneg (by omega), Int.tmod_eq_emod_of_nonneg (by omega)]
      rw [IntKind.wrap_u64, IntKind.wrap_u64]
      rw [show ((((n / 2 ^ (7 * i) : Nat) : Int) / 128) % 18446744073709551616) = ((n / 2 ^ (7 * i) / 128 : Nat) : Int) by omega, hdd]
      rw [show (((((n / 2 ^ (7 * i) : Nat) : Int) % 128 + 128) % 18446744073709551616) % 256) = ((n / 2 ^ (7 * i) % 128 + 128 : Nat) : Int) by omega, ← he]
      exact ih k (i + 1) _ (by omega) (by omega) (by omega) (by rw [hacc, hsnoc])
theorem rnum_is (n : Nat) (h : n < 18446744073709551616) (k : Nat) (hk : 11 < k) : firkinref01_Num.f k (n : Int) = some (enc n) := by
  unfold firkinref01_Num.f
  have hg := grp_le (n := n) h
  have := rnum_loop n (grp n) (grp_has h) h hg (grp n) k 0 [] (by omega) (grp_has h).1 (by omega) (by simp)
  rw [Nat.mul_zero, Nat.pow_zero, Nat.div_one] at this
  exact this
/-- A signed number's bytes. -/
def zig (n : Int) : Nat := if n < 0 then (-2 * n - 1).toNat else (2 * n).toNat
theorem zig_lt {n : Int} (h0 : -9223372036854775808 ≤ n) (h1 : n < 9223372036854775808) : zig n < 18446744073709551616 := by unfold zig; split <;> omega
theorem xor_all (a : Nat) (h : a < 18446744073709551616) : a ^^^ 18446744073709551615 = 18446744073709551615 - a := by
  have h1 : (2 ^ 64 - 1 - a) = a ^^^ (2 ^ 64 - 1) := by
    apply Nat.eq_of_testBit_eq
    intro i
    rw [Nat.testBit_xor, Nat.testBit_two_pow_sub_one]
    have h2 := Nat.testBit_two_pow_sub_succ (n := 64) (x := a) h i
    rw [show 2 ^ 64 - 1 - a = 2 ^ 64 - (a + 1) by omega, h2]
    by_cases hi : i < 64
    · simp [hi]
    · have h64 : (2 : Nat) ^ 64 = 18446744073709551616 := by decide
      have hp : (2 : Nat) ^ 64 ≤ 2 ^ i := Nat.pow_le_pow_right (by decide) (by omega)
      have : a.testBit i = false := Nat.testBit_lt_two_pow (by omega)
      simp [hi, this]
  have h3 : (2 : Nat) ^ 64 - 1 = 18446744073709551615 := by decide
  rw [h3] at h1
  exact h1.symm
theorem int_is (n : Int) (h0 : -9223372036854775808 ≤ n) (h1 : n < 9223372036854775808) (k : Nat) (hk : 10 < k) : vint_Int.f k n = some (enc (zig n)) := by
  unfold vint_Int.f
  have hz := zig_lt h0 h1
  have e : Go.bits .xor .u64 (IntKind.u64.wrap ((IntKind.u64.wrap n) * 2)) (IntKind.u64.wrap (n / 9223372036854775808)) = ((zig n : Nat) : Int) := by
    rw [IntKind.wrap_u64, IntKind.wrap_u64, IntKind.wrap_u64]
    by_cases hn : n < 0
    · have e1 : n / 9223372036854775808 = -1 := by omega
      rw [e1, show ((-1 : Int) % 18446744073709551616) = 18446744073709551615 by decide, u64_xor _ _ (by omega) (by omega) (by omega) (by omega), show (18446744073709551615 : Int).toNat = 18446744073709551615 by decide, xor_all _ (by omega)]
      unfold zig
      rw [if_pos hn]
      omega
    · have e1 : n / 9223372036854775808 = 0 := by omega
      rw [e1, show ((0 : Int) % 18446744073709551616) = 0 by decide, u64_xor _ _ (by omega) (by omega) (by omega) (by omega), show (0 : Int).toNat = 0 from rfl, Nat.xor_zero]
      unfold zig
      rw [if_neg hn]
      omega
  rw [e, num_is _ hz k hk]; rfl
theorem rint_is (n : Int) (h0 : -9223372036854775808 ≤ n) (h1 : n < 9223372036854775808) (k : Nat) (hk : 11 < k) : firkinref01_Int.f k n = some (enc (zig n)) := by
  unfold firkinref01_Int.f
  have hz := zig_lt h0 h1
  simp only [IntKind.wrap_u64]
  by_cases hn : n < 0
  · rw [if_pos hn]
    have e : ((2 * ((-(n % 18446744073709551616)) % 18446744073709551616)) % 18446744073709551616 - 1) % 18446744073709551616 = ((zig n : Nat) : Int) := by
      unfold zig; rw [if_pos hn]; omega
    rw [e, rnum_is _ hz k hk]; rfl
  · rw [if_neg hn]
    have e : (2 * (n % 18446744073709551616)) % 18446744073709551616 = ((zig n : Nat) : Int) := by
      unfold zig; rw [if_neg hn]; omega
    rw [e, rnum_is _ hz k hk]; rfl
end Go.Proofs.Ytkdlfejokahohaa.Enc
/- What is written is read again, and bytes that are read as a number are just its own: plain laws on lists. -/
namespace Go.Proofs.Ytkdlfejokahohaa.Round
open Go.RowKit Go.Proofs.Ytkdlfejokahohaa.Dec Go.Proofs.Ytkdlfejokahohaa.Enc Go.Proofs.YtkdlfejokahohaaW.PrintWords Go.Proofs.YtkdlfejokahohaaW.PrintLast Go.Proofs.YtkdlfejokahohaaW.PrintMore
set_option linter.unusedVariables false
theorem valS_shift (l : List Int) : ∀ i, valS i l = 2 ^ (7 * i) * valS 0 l := by
  induction l with
  | nil => intro i; simp [valS]
  | cons c l ih =>
    intro i
    simp only [valS]
    have hp : 2 ^ (7 * (i + 1)) = 2 ^ (7 * i) * 128 := by rw [show 7 * (i + 1) = 7 * i + 7 by omega, Nat.pow_add]
    have h1 : 2 ^ (7 * (0 + 1)) = 128 := by decide
    rw [ih (i + 1), ih (0 + 1), hp, h1, Nat.mul_zero, Nat.pow_zero, Nat.mul_one, Nat.mul_add, Nat.mul_comm (c.toNat % 128), Nat.mul_assoc]
theorem valS_append (l m : List Int) : ∀ i, valS i (l ++ m) = valS i l + valS (i + l.length) m := by
  induction l with
  | nil => intro i; simp [valS]
  | cons c l ih =>
    intro i
    simp only [List.cons_append, valS, ih (i + 1), List.length_cons]
    rw [show i + 1 + l.length = i + (l.length + 1) by omega]
    omega
theorem digit (l : List Int) (j : Nat) (h : j < l.length) : valS 0 l / 2 ^ (7 * j) % 128 = (l.getD j 0).toNat % 128 := by
  have e : valS 0 l = valS 0 (l.take j) + 2 ^ (7 * j) * valS 0 (l.drop j) := by
    conv => lhs; rw [← List.take_append_drop j l]
    rw [valS_append, valS_shift _ (0 + _), List.length_take, Nat.min_eq_left (Nat.le_of_lt h), Nat.zero_add]
  have hlt := valS_lt (l.take j) 0
  rw [List.length_take, Nat.min_eq_left (Nat.le_of_lt h), Nat.zero_add] at hlt
  rw [e, Nat.add_mul_div_left _ _ (Nat.two_pow_pos _), Nat.div_eq_of_lt hlt, Nat.zero_add, drop_get h]
  simp only [valS]
  rw [valS_shift _ (0 + 1)]
  have : (2 : Nat) ^ (7 * (0 + 1)) = 128 := by decide
  rw [this]
  omega
/-- What is known of the bytes of a number that is read. -/
theorem szS_spec (l : List Int) : ∀ i, i ≤ 9 → szS i l ≠ 0 → i < szS i l ∧ (∀ j, i + j + 1 < szS i l → 128 ≤ l.getD j 0) ∧ l.getD (szS i l - 1 - i) 0 < 128 ∧ (1 < szS i l → l.getD (szS i l - 1 - i) 0 ≠ 0) := by
  induction l with
  | nil => intro i hi h; exact absurd rfl h
  | cons c l ih =>
    intro i hi h
    by_cases c1 : (i = 9 ∧ 1 < c) ∨ (0 < i ∧ c = 0)
    · rw [szS, if_pos c1] at h; exact absurd rfl h
    · by_cases c2 : c < 128
      · have e : szS i (c :: l) = i + 1 := by rw [szS, if_neg c1, if_pos c2]
        rw [e]
        refine ⟨by omega, fun j hj => by omega, ?_, fun h1 => ?_⟩
        · rw [show i + 1 - 1 - i = 0 by omega]; exact c2
        · rw [show i + 1 - 1 - i = 0 by omega]
          show c ≠ 0
          intro hc; exact c1 (Or.inr ⟨by omega, hc⟩)
      · by_cases h9 : i = 9
        · rw [szS, if_neg c1, if_neg c2, if_pos h9] at h; exact absurd rfl h
        · have e : szS i (c :: l) = szS (i + 1) l := by rw [szS, if_neg c1, if_neg c2, if_neg h9]
          rw [e] at h ⊢
          obtain ⟨h1, h2, h3, h4⟩ := ih (i + 1) (by omega) h
          refine ⟨by omega, fun j hj => ?_, ?_, fun hk => ?_⟩
          · match j with
            | 0 => show 128 ≤ c; omega
            | j + 1 => exact h2 j (by omega)
          · rw [show szS (i + 1) l - 1 - i = (szS (i + 1) l - 1 - (i + 1)) + 1 by omega]; exact h3
          · rw [show szS (i + 1) l - 1 - i = (szS (i + 1) l - 1 - (i + 1)) + 1 by omega]; exact h4 hk
theorem has_val {l : List Int} (hb : IsBytes l) (h : szS 0 l ≠ 0) : Has (valS 0 (l.take (szS 0 l))) (szS 0 l) := by
  obtain ⟨h1, h2, h3, h4⟩ := szS_spec l 0 (by decide) h
  have hle := szS_le l 0 (by decide)
  have hlt := valS_lt (l.take (szS 0 l)) 0
  rw [List.length_take, Nat.min_eq_left (by omega), Nat.zero_add] at hlt
  refine ⟨by omega, hlt, fun hk => ?_⟩
  have h6 := h4 hk
  clear h2 h4 hlt h
  generalize szS 0 l = K at *
  obtain ⟨k, rfl⟩ : ∃ k, K = k + 1 := ⟨K - 1, by omega⟩
  rw [valS_take (by omega), Nat.add_sub_cancel]
  simp only [Nat.add_sub_cancel, Nat.sub_zero] at h3 h6
  have h5 := hb.get k
  have h7 : 1 ≤ (l.getD k 0).toNat % 128 := by omega
  have := Nat.mul_le_mul_right (2 ^ (7 * k)) h7
  omega
theorem enc_val {l : List Int} (hb : IsBytes l) (h : szS 0 l ≠ 0) : encL (valS 0 (l.take (szS 0 l))) (szS 0 l) = l.take (szS 0 l) := by
  obtain ⟨h1, h2, h3, h4⟩ := szS_spec l 0 (by decide) h
  have hle := szS_le l 0 (by decide)
  apply List.ext_getElem (by rw [encL_length, List.length_take]; omega)
  intro j hj1 hj2
  have hj : j < szS 0 l := by rw [encL_length] at hj1; exact hj1
  have e1 : (encL (valS 0 (l.take (szS 0 l))) (szS 0 l))[j] = ((encByte (valS 0 (l.take (szS 0 l))) (szS 0 l) j : Nat) : Int) := by simp [encL]
  have hget : (l.take (szS 0 l)).getD j 0 = l.getD j 0 := by simp [List.getD, hj]
  have e2 : (l.take (szS 0 l))[j] = l.getD j 0 := by simp [List.getD, show j < l.length by omega]
  rw [e1, e2]
  unfold encByte
  rw [digit _ j (by rw [List.length_take]; omega), hget]
  have hb2 := hb.get j
  by_cases hl : j + 1 < szS 0 l
  · rw [if_pos hl]
    have := h2 j (by omega)
    omega
  · rw [if_neg hl]
    rw [show szS 0 l - 1 - 0 = j by omega] at h3
    omega
theorem val_enc (n : Nat) : ∀ j, j ≤ grp n → valS 0 ((enc n).take j) = n % 2 ^ (7 * j) := by
  intro j
  induction j with
  | zero => intro _; simp [valS, Nat.mod_one]
  | succ j ih =>
    intro hj
    rw [valS_take (by unfold enc; rw [encL_length]; omega), ih (by omega)]
    unfold enc
    rw [encL_get _ _ _ (by omega), Int.toNat_natCast]
    have hm : encByte n (grp n) j % 128 = n / 2 ^ (7 * j) % 128 := by unfold encByte; split <;> omega
    rw [hm, show 7 * (j + 1) = 7 * j + 7 by omega, Nat.pow_add, Nat.mod_mul, Nat.mul_comm (2 ^ (7 * j))]
theorem val_all {n : Nat} (h : n < 18446744073709551616) : valS 0 (enc n) = n := by
  have := val_enc n (grp n) (Nat.le_refl _)
  rw [List.take_of_length_le (by unfold enc; rw [encL_length]; omega), Nat.mod_eq_of_lt (grp_has h).2.1] at this
  exact this
theorem size_enc {n : Nat} (h : n < 18446744073709551616) (rest : List Int) : szS 0 (enc n ++ rest) = grp n := by
  have hh := grp_has h
  have hg := grp_le h
  have key : ∀ d i, i + d = grp n → 1 ≤ d → szS i ((enc n).drop i ++ rest) = grp n := by
    intro d
    induction d with
    | zero => intro i _ h0; omega
    | succ d ih =>
      intro i hi _
      have hlt : i < (enc n).length := by unfold enc; rw [encL_length]; omega
      have hget : (enc n).getD i 0 = ((encByte n (grp n) i : Nat) : Int) := by unfold enc; exact encL_get _ _ _ (by omega)
      rw [drop_get hlt, hget, List.cons_append, szS]
      have hb := encByte_lt n (grp n) i
      by_cases hd : d = 0
      · have he : encByte n (grp n) i = n / 2 ^ (7 * i) % 128 := by unfold encByte; rw [if_neg (by omega), Nat.add_zero]
        have hig : grp n = i + 1 := by omega
        have hsm : n / 2 ^ (7 * i) < 128 := by
          have h2 := hh.2.1
          rw [hig, show 7 * (i + 1) = 7 * i + 7 by omega, Nat.pow_add] at h2
          exact Nat.div_lt_of_lt_mul h2
        have hpos : 0 < i → 1 ≤ n / 2 ^ (7 * i) := by
          intro hi0
          have h2 := hh.2.2 (by omega)
          rw [hig, Nat.add_sub_cancel] at h2
          rw [Nat.le_div_iff_mul_le (Nat.two_pow_pos _)]; omega
        have h9 : i = 9 → n / 2 ^ (7 * i) ≤ 1 := by
          intro hi9
          subst hi9
          have h4 : (2 : Nat) ^ (7 * 9) = 9223372036854775808 := by decide
          rw [h4]; omega
        rw [he, Nat.mod_eq_of_lt hsm]
        rw [if_neg (by rintro (⟨a, b⟩ | ⟨a, b⟩)
                       · have := h9 a; omega
                       · have := hpos a; omega), if_pos (by omega), hig]
      · have he : encByte n (grp n) i = n / 2 ^ (7 * i) % 128 + 128 := by unfold encByte; rw [if_pos (by omega)]
        rw [if_neg (by omega), if_neg (by omega), if_neg (by omega)]
        exact ih (i + 1) (by omega) (by omega)
  have := key (grp n) 0 (by omega) hh.1
  rwa [List.drop_zero] at this
/-- What is written is read again. -/
theorem num_enc {n : Nat} (h : n < 18446744073709551616) (rest : List Int) : numS (enc n ++ rest) false = ((n : Int), rest, false) := by
  have hl : (enc n).length = grp n := by unfold enc; rw [encL_length]
  unfold numS
  rw [if_neg (by decide), size_enc h, if_neg (by have := (grp_has h).1; omega), ← hl, List.take_left, List.drop_left, val_all h]
/-- Bytes that are read as a number begin with just its own. -/
theorem enc_num {l : List Int} (hb : IsBytes l) (h : szS 0 l ≠ 0) : enc (valS 0 (l.take (szS 0 l))) = l.take (szS 0 l) := by
  have hv := val_lt hb (Nat.le_refl (szS 0 l))
  have e := Has.uniq (grp_has hv) (has_val hb h)
  unfold enc
  rw [e]
  exact enc_val hb h
/-- The signed number that an unsigned one stands for. -/
def zag (n : Nat) : Int := if n % 2 = 1 then -((n / 2 : Nat) : Int) - 1 else ((n / 2 : Nat) : Int)
theorem zig_zag (n : Nat) : zig (zag n) = n := by unfold zig zag; split <;> split <;> omega
theorem zag_zig (n : Int) : zag (zig n) = n := by unfold zig zag; split <;> split <;> omega
theorem zag_range {n : Nat} (h : n < 18446744073709551616) : -9223372036854775808 ≤ zag n ∧ zag n < 9223372036854775808 := by unfold zag; split <;> omega
theorem xor_neg (a : Int) (h0 : 0 ≤ a) (h1 : a < 9223372036854775808) : Go.bits .xor .i64 a (-1) = -a - 1 := by
  have e : BitVec.ofInt 64 (-1) = BitVec.allOnes 64 := by decide
  have e2 : (BitVec.ofInt 64 a).toNat = a.toNat := by
    rw [BitVec.toNat_ofInt]
    have : a % ((2 ^ 64 : Nat) : Int) = a := Int.emod_eq_of_lt h0 (by have : ((2 ^ 64 : Nat) : Int) = 18446744073709551616 := by decide
                                                                      omega)
    rw [this]
  show IntKind.i64.wrap (((BitVec.ofInt 64 a) ^^^ (BitVec.ofInt 64 (-1))).toNat : Int) = _
  rw [e, BitVec.xor_allOnes, BitVec.toNat_not, e2]
  have h64 : (2 : Nat) ^ 64 = 18446744073709551616 := by decide
  rw [h64, i64_w]
  unfold wrap64
  omega
theorem xor_nil (a : Int) (h0 : 0 ≤ a) (h1 : a < 9223372036854775808) : Go.bits .xor .i64 a 0 = a := by
  have e : BitVec.ofInt 64 0 = 0#64 := by decide
  have e2 : (BitVec.ofInt 64 a).toNat = a.toNat := by
    rw [BitVec.toNat_ofInt]
    have : a % ((2 ^ 64 : Nat) : Int) = a := Int.emod_eq_of_lt h0 (by have : ((2 ^ 64 : Nat) : Int) = 18446744073709551616 := by decide
                                                                      omega)
    rw [this]
  show IntKind.i64.wrap (((BitVec.ofInt 64 a) ^^^ (BitVec.ofInt 64 0)).toNat : Int) = _
  rw [e, BitVec.xor_zero, e2, i64_w]
  unfold wrap64
  omega
/-- How an unsigned number becomes the signed one. -/
theorem int_val (n : Nat) (h : n < 18446744073709551616) : Go.bits .xor .i64 (wrap64 ((n : Int) / 2)) (wrap64 (-(wrap64 (Go.bits .and .u64 (n : Int) 1)))) = zag n := by
  have e : Go.bits .and .u64 (n : Int) 1 = ((n % 2 : Nat) : Int) := by
    rw [u64_and _ _ (by omega) (by omega) (by omega) (by omega), show (1 : Int).toNat = 1 from rfl, Nat.and_one_is_mod, Int.toNat_natCast]
  rw [e, w64 (x := ((n % 2 : Nat) : Int)) (by omega) (by omega), w64 (by omega) (by omega), w64 (by omega) (by omega)]
  unfold zag
  by_cases h1 : n % 2 = 1
  · rw [if_pos h1, h1, show (-((1 : Nat) : Int)) = -1 from rfl, xor_neg _ (by omega) (by omega)]; omega
  · rw [if_neg h1, show n % 2 = 0 by omega, show (-((0 : Nat) : Int)) = 0 from rfl, xor_nil _ (by omega) (by omega)]; omega
end Go.Proofs.Ytkdlfejokahohaa.Round
/- What is read of a source, plain law: the code's source and the document's read the same. -/
namespace Go.Proofs.Ytkdlfejokahohaa.Read
open Go Go.RowKit Go.Proofs.Ytkdlfejokahohaa.X Go.Proofs.Ytkdlfejokahohaa.Dec Go.Proofs.Ytkdlfejokahohaa.Enc Go.Proofs.Ytkdlfejokahohaa.Round Go.Proofs.YtkdlfejokahohaaW.PrintWords Go.Proofs.YtkdlfejokahohaaW.PrintLast Go.Proofs.YtkdlfejokahohaaW.PrintMore
set_option linter.unusedVariables false
/-- A source as it can be: of one that failed nothing is left. -/
def GoodS (l : List Int) (bad : Bool) : Prop := Fit l ∧ (bad = true → l = [])
theorem GoodS.nil (b : Bool) : GoodS [] b := ⟨Fit.nil, fun _ => rfl⟩
theorem GoodS.of {l : List Int} (h : Fit l) : GoodS l false := ⟨h, fun h => by cases h⟩
theorem GoodS.drop {l : List Int} {b : Bool} (h : GoodS l b) (k : Nat) : GoodS (l.drop k) b := ⟨h.1.drop k, fun e => by rw [h.2 e]; exact List.drop_nil⟩
def gNum (l : List Int) (bad : Bool) : Int × List Int × Bool :=
  if bad = true ∨ szS 0 l = 0 then (0, [], true) else (((valS 0 (l.take (szS 0 l)) : Nat) : Int), l.drop (szS 0 l), false)
theorem gNum_good {l : List Int} {b : Bool} (h : GoodS l b) : GoodS (gNum l b).2.1 (gNum l b).2.2 := by
  unfold gNum; split
  · exact GoodS.nil _
  · exact GoodS.of (h.1.drop _)
theorem gNum_len (l : List Int) (b : Bool) : (gNum l b).2.1.length ≤ l.length := by
  unfold gNum; split <;> simp
theorem gNum_range {l : List Int} {b : Bool} (h : GoodS l b) : 0 ≤ (gNum l b).1 ∧ (gNum l b).1 < 18446744073709551616 := by
  unfold gNum; split
  · simp
  · have := val_lt h.1.1 (Nat.le_refl (szS 0 l))
    show 0 ≤ ((_ : Nat) : Int) ∧ ((_ : Nat) : Int) < _
    omega
theorem num_g {l : List Int} {b : Bool} (h : GoodS l b) : vint_Source_Num.f l b = some (gNum l b) := by
  unfold vint_Source_Num.f numS gNum
  rw [if_pos h.1]
  cases b with
  | true => rw [if_pos rfl, if_pos (.inl rfl), h.2 rfl]
  | false =>
    rw [if_neg (by decide)]
    by_cases hz : szS 0 l = 0
    · rw [if_pos hz, if_pos (.inr hz)]
    · rw [if_neg hz, if_neg (by simp [hz])]
theorem rnum_g {l : List Int} {b : Bool} (h : GoodS l b) : firkinref01_S_Num.f l b = some (gNum l b) := by
  unfold firkinref01_S_Num.f rnumS gNum
  rw [if_pos h.1]
  cases b with
  | true => obtain rfl := h.2 rfl; rfl
  | false =>
    by_cases hz : szS 0 l = 0
    · rw [if_pos hz, if_pos (.inr hz)]
    · rw [if_neg hz, if_neg (by simp [hz])]
def gInt (l : List Int) (bad : Bool) : Int × List Int × Bool := (zag (gNum l bad).1.toNat, (gNum l bad).2.1, (gNum l bad).2.2)
theorem int_g {l : List Int} {b : Bool} (h : GoodS l b) : vint_Source_Int.f l b = some (gInt l b) := by
  unfold vint_Source_Int.f
  rw [num_g h, Option.bind_some]
  obtain ⟨h0, h1⟩ := gNum_range h
  have e := int_val (gNum l b).1.toNat (by omega)
  rw [Int.toNat_of_nonneg h0] at e
  rw [e]
  rfl
theorem rint_val (n : Int) (h0 : 0 ≤ n) (h1 : n < 18446744073709551616) :
    (if Int.tmod n 2 = 1 then wrap64 ((wrap64 (-(wrap64 (IntKind.u64.wrap (Int.tdiv n 2))))) - 1) else wrap64 (IntKind.u64.wrap (Int.tdiv n 2))) = zag n.toNat := by
  rw [Int.tmod_eq_emod_of_nonneg h0, Int.tdiv_eq_ediv_of_nonneg h0, IntKind.wrap_u64]
  unfold zag wrap64
  split <;> split <;> omega
theorem rint_g {l : List Int} {b : Bool} (h : GoodS l b) : firkinref01_S_Int.f l b = some (gInt l b) := by
  unfold firkinref01_S_Int.f
  rw [rnum_g h, Option.bind_some]
  obtain ⟨h0, h1⟩ := gNum_range h
  have e := rint_val _ h0 h1
  unfold gInt
  rw [← e]
  by_cases hc : Int.tmod (gNum l b).1 2 = 1
  · rw [if_pos hc, if_pos hc]
  · rw [if_neg hc, if_neg hc]
def gBelow (l : List Int) (bad : Bool) (n : Int) : Int × List Int × Bool :=
  if (gNum l bad).2.2 = true ∨ n ≤ 0 ∨ n ≤ (gNum l bad).1 then (0, [], true) else gNum l bad
theorem gBelow_good {l : List Int} {b : Bool} (h : GoodS l b) (n : Int) : GoodS (gBelow l b n).2.1 (gBelow l b n).2.2 := by
  unfold gBelow; split
  · exact GoodS.nil _
  · exact gNum_good h
theorem gBelow_len (l : List Int) (b : Bool) (n : Int) : (gBelow l b n).2.1.length ≤ l.length := by
  unfold gBelow; split
  · simp
  · exact gNum_len l b
theorem gBelow_range {l : List Int} {b : Bool} (h : GoodS l b) (n : Int) : 0 ≤ (gBelow l b n).1 ∧ ((gBelow l b n).1 < n ∨ (gBelow l b n).1 = 0) := by
  unfold gBelow; split
  · simp
  · have := gNum_range h; omega
theorem wrap_u64_of {n : Int} (h0 : 0 ≤ n) (h1 : n < 18446744073709551616) : IntKind.u64.wrap n = n := by rw [IntKind.wrap_u64]; omega
theorem below_g {l : List Int} {b : Bool} (h : GoodS l b) (n : Int) (hn : n < 9223372036854775808) : vint_Source_Below.f l b n = some (gBelow l b n) := by
  unfold vint_Source_Below.f vint_Source_Ok.f vint_Source_Fail.f
  rw [num_g h, Option.bind_some]
  obtain ⟨h0, h1⟩ := gNum_range h
  unfold gBelow
  generalize gNum l b = g at h0 h1 ⊢
  obtain ⟨x, l', b'⟩ := g
  simp only [Option.bind_some] at h0 h1 ⊢
  cases b' with
  | true => simp
  | false =>
    by_cases hn0 : n > 0
    · rw [wrap_u64_of (by omega) (by omega)]
      by_cases hx : x < n
      · have hw : wrap64 x = x := w64 (by omega) (by omega)
        have : ¬ n ≤ 0 := by omega
        simp [hn0, hx, hw, this]
      · have : n ≤ x := by omega
        simp [hn0, hx, this]
    · have : n ≤ 0 := by omega
      simp [hn0, this]
theorem rbelow_g {l : List Int} {b : Bool} (h : GoodS l b) (n : Int) (hn : n < 9223372036854775808) : firkinref01_S_Below.f l b n = some (gBelow l b n) := by
  unfold firkinref01_S_Below.f firkinref01_S_Fail.f
  rw [rnum_g h, Option.bind_some]
  obtain ⟨h0, h1⟩ := gNum_range h
  unfold gBelow
  generalize gNum l b = g at h0 h1 ⊢
  obtain ⟨x, l', b'⟩ := g
  simp only [Option.bind_some] at h0 h1 ⊢
  cases b' with
  | true => simp
  | false =>
    by_cases hn0 : n < 1
    · have : n ≤ 0 := by omega
      simp [hn0, this]
    · have hn2 : ¬ n ≤ 0 := by omega
      rw [wrap_u64_of (by omega) (by omega)]
      by_cases hx : x ≥ n
      · have : n ≤ x := by omega
        simp [hn0, hn2, this]
      · have hw : wrap64 x = x := w64 (by omega) (by omega)
        have : ¬ n ≤ x := by omega
        simp [hn0, hn2, hw, this]
def gTake (l : List Int) (bad : Bool) (n : Int) : List Int × List Int × Bool :=
  if bad = true ∨ n < 0 ∨ (l.length : Int) < n then ([], [], true) else (l.take n.toNat, l.drop n.toNat, false)
theorem gTake_good {l : List Int} {b : Bool} (h : GoodS l b) (n : Int) : GoodS (gTake l b n).2.1 (gTake l b n).2.2 := by
  unfold gTake; split
  · exact GoodS.nil _
  · exact GoodS.of (h.1.drop _)
theorem gTake_len (l : List Int) (b : Bool) (n : Int) : (gTake l b n).2.1.length ≤ l.length := by unfold gTake; split <;> simp
theorem gTake_bytes {l : List Int} {b : Bool} (h : GoodS l b) (n : Int) : IsBytes (gTake l b n).1 := by
  unfold gTake; split
  · intro x hx; simp at hx
  · exact h.1.1.take _
theorem take_g {l : List Int} {b : Bool} (h : GoodS l b) (n : Int) : vint_Source_Take.f l b n = some (gTake l b n) := by
  unfold vint_Source_Take.f; rw [if_pos h.1.2]; rfl
theorem rtake_g {l : List Int} {b : Bool} (h : GoodS l b) (n : Int) : firkinref01_S_Take.f l b n = some (gTake l b n) := by
  unfold firkinref01_S_Take.f; rw [if_pos h.1.2]; rfl
def gText (l : List Int) (bad : Bool) (most : Int) : ByteArray × List Int × Bool :=
  if (gNum l bad).2.2 = true ∨ most < 0 ∨ most < (gNum l bad).1 ∨ ((gNum l bad).2.1.length : Int) < (gNum l bad).1 then (⟨#[]⟩, [], true)
  else (strOfNums ((gNum l bad).2.1.take (gNum l bad).1.toNat), (gNum l bad).2.1.drop (gNum l bad).1.toNat, false)
theorem gText_good {l : List Int} {b : Bool} (h : GoodS l b) (n : Int) : GoodS (gText l b n).2.1 (gText l b n).2.2 := by
  unfold gText; split
  · exact GoodS.nil _
  · exact GoodS.of ((gNum_good h).1.drop _)
theorem gText_len (l : List Int) (b : Bool) (n : Int) : (gText l b n).2.1.length ≤ l.length := by
  have := gNum_len l b
  unfold gText; split
  · simp
  · simp; omega
theorem len_u64 {l : List Int} (h : Fit l) : IntKind.u64.wrap ((l.length : Int)) = (l.length : Int) := wrap_u64_of (by omega) (by have := h.2; omega)
theorem text_g {l : List Int} {b : Bool} (h : GoodS l b) (n : Int) (hn : n < 9223372036854775808) (k : Nat) : vint_Source_Text.f (k + 1) l b n = some (gText l b n) := by
  unfold vint_Source_Text.f vint_Source_Ok.f
  rw [num_g h, Option.bind_some]
  obtain ⟨h0, h1⟩ := gNum_range h
  have hg := gNum_good h
  unfold gText
  generalize gNum l b = g at h0 h1 hg ⊢
  obtain ⟨x, l', b'⟩ := g
  simp only [Option.bind_some] at h0 h1 hg ⊢
  have hj : ∀ y, vint_Source_Text.j0 (k + 1) x true y b' = some (⟨#[]⟩, [], true) := fun y => by rw [vint_Source_Text.j0, if_pos rfl]; rfl
  rw [hj]
  cases b' with
  | true => simp
  | false =>
    have hlen := hg.1.2
    by_cases hn0 : n < 0
    · simp [hn0]
    · rw [wrap_u64_of (by omega) (by omega), len_u64 hg.1]
      by_cases hx : x > n
      · have : n < x := hx
        simp [hn0, this]
      · have hx2 : ¬ n < x := hx
        by_cases hz : x > (l'.length : Int)
        · have hz2 : ((l'.length : Int) < x) := hz
          simp [hn0, hx2, hz2, hj]
        · have hz2 : ¬ ((l'.length : Int) < x) := hz
          have hw : wrap64 x = x := w64 (by omega) (by omega)
          rw [if_pos (by rfl), if_neg hn0, if_neg hx, decide_eq_false hz, vint_Source_Text.j0, if_neg (by decide), hw, take_g hg]
          unfold gTake
          have hx0 : ¬ x < 0 := by omega
          simp [hn0, hx2, hz2, hx0]
theorem rtext_g {l : List Int} {b : Bool} (h : GoodS l b) (n : Int) (hn : n < 9223372036854775808) (k : Nat) : firkinref01_S_Text.f (k + 1) l b n = some (gText l b n) := by
  unfold firkinref01_S_Text.f firkinref01_S_Fail.f
  obtain ⟨h0, h1⟩ := gNum_range h
  have hg := gNum_good h
  unfold gText
  rw [rnum_g h]
  generalize gNum l b = g at h0 h1 hg ⊢
  obtain ⟨x, l', b'⟩ := g
  simp only [Option.bind_some] at h0 h1 hg ⊢
  have hj : ∀ y, firkinref01_S_Text.j0 (k + 1) x true y b' = some (⟨#[]⟩, [], true) := fun y => by rw [firkinref01_S_Text.j0, if_pos rfl]; rfl
  rw [hj]
  by_cases hn0 : n < 0
  · simp [hn0]
  rw [if_neg hn0]
  cases b' with
  | true => simp
  | false =>
    have hlen := hg.1.2
    rw [wrap_u64_of (by omega) (by omega), len_u64 hg.1]
    by_cases hx : x > n
    · have : n < x := hx
      simp [hn0, this]
    · have hx2 : ¬ n < x := hx
      by_cases hz : x > (l'.length : Int)
      · have hz2 : ((l'.length : Int) < x) := hz
        simp [hn0, hx2, hz2, hj]
      · have hz2 : ¬ ((l'.length : Int) < x) := hz
        have hw : wrap64 x = x := w64 (by omega) (by omega)
        rw [if_neg (by decide), if_neg hx, decide_eq_false hz, firkinref01_S_Text.j0, if_neg (by decide), hw, rtake_g hg]
        unfold gTake
        have hx0 : ¬ x < 0 := by omega
        simp [hn0, hx2, hz2, hx0]
theorem left_g {l : List Int} {b : Bool} (h : GoodS l b) : vint_Source_Left.f l b = some ((l.length : Int), l, b) := by
  unfold vint_Source_Left.f vint_Source_Ok.f
  cases b with
  | true => rw [h.2 rfl]; rfl
  | false => rfl
def gEnd (l : List Int) (b : Bool) : Bool := !b && l.isEmpty
theorem isEmpty_len (l : List Int) : (((l.length : Int) == 0) : Bool) = l.isEmpty := by cases l <;> simp; omega
theorem end_g (l : List Int) (b : Bool) : vint_Source_End.f l b = some (gEnd l b, l, b) := by
  unfold vint_Source_End.f vint_Source_Ok.f gEnd
  cases b <;> simp [isEmpty_len]
theorem rend_g (l : List Int) (b : Bool) : firkinref01_S_End.f l b = some (gEnd l b, l, b) := by
  unfold firkinref01_S_End.f gEnd
  cases b <;> simp [isEmpty_len]
end Go.Proofs.Ytkdlfejokahohaa.Read
/- What a nil source answers. -/
namespace Go.Proofs.Ytkdlfejokahohaa.X
open Go.RowKit Go.Proofs.YtkdlfejokahohaaW.PrintWords Go.Proofs.YtkdlfejokahohaaW.PrintLast Go.Proofs.YtkdlfejokahohaaW.PrintMore
set_option linter.unusedVariables false
set_option linter.unusedSimpArgs false
set_option maxHeartbeats 4000000 in
set_option maxRecDepth 100000 in
theorem vint_Source_Ok.nil (w : World) : Calls Try.prog 41 #[.pointer none] w fun e w' => e = .returned (.bool false) ∧ w' = w := by
  have hne : ∀ w : World, (binOp .neq 41 (.pointer none) (.pointer none)).run Try.prog w = .ok (.bool false) w := fun w => run_neq_pointer_nil w 41 none (by kernel_rfl)
  go_enter Try.func41, Try.ntmps41
  go_wp2_with fail
  go_ret
  exact ⟨rfl, rfl⟩
set_option maxHeartbeats 4000000 in
set_option maxRecDepth 100000 in
theorem vint_Source_Fail.nil (w : World) : Calls Try.prog 39 #[.pointer none] w fun e w' => e = .returned (.tuple #[]) ∧ w' = w := by
  have hne : ∀ w : World, (binOp .neq 41 (.pointer none) (.pointer none)).run Try.prog w = .ok (.bool false) w := fun w => run_neq_pointer_nil w 41 none (by kernel_rfl)
  go_enter Try.func39, Try.ntmps39
  go_wp2_with fail
  go_end0
  exact ⟨rfl, rfl⟩
set_option maxHeartbeats 4000000 in
set_option maxRecDepth 100000 in
theorem vint_Source_Left.nil (w : World) : Calls Try.prog 42 #[.pointer none] w fun e w' => e = .returned (.int .i64 0) ∧ w' = w := by
  go_enter Try.func42, Try.ntmps42
  go_wp2_with (first | (refine (vint_Source_Ok.nil _).mono ?_; rintro e w1 ⟨rfl, rfl⟩))
  go_ret
  exact ⟨rfl, rfl⟩
set_option maxHeartbeats 4000000 in
set_option maxRecDepth 100000 in
theorem vint_Source_End.nil (w : World) : Calls Try.prog 43 #[.pointer none] w fun e w' => e = .returned (.bool false) ∧ w' = w := by
  go_enter Try.func43, Try.ntmps43
  go_wp2_with (first | (refine (vint_Source_Ok.nil _).mono ?_; rintro e w1 ⟨rfl, rfl⟩))
  go_ret
  exact ⟨rfl, rfl⟩
set_option maxHeartbeats 4000000 in
set_option maxRecDepth 100000 in
theorem vint_Source_Num.nil (w : World) : Calls Try.prog 29 #[.pointer none] w fun e w' => e = .returned (.int .u64 0) ∧ w' = w := by
  go_enter Try.func29, Try.ntmps29
  go_wp2_with (first | (refine (vint_Source_Ok.nil _).mono ?_; rintro e w1 ⟨rfl, rfl⟩))
  go_ret
  exact ⟨rfl, rfl⟩
set_option maxHeartbeats 4000000 in
set_option maxRecDepth 100000 in
theorem vint_Source_Int.nil (w : World) : Calls Try.prog 31 #[.pointer none] w fun e w' => e = .returned (.int .i64 0) ∧ w' = w := by
  go_enter Try.func31, Try.ntmps31
  go_wp2_with (first | (refine (vint_Source_Num.nil _).mono ?_; rintro e w1 ⟨rfl, rfl⟩))
  go_ret
  exact ⟨congrArg (fun z => Ending.returned (.int .i64 z)) (show Go.bits .xor .i64 0 (wrap64 (-wrap64 (Go.bits .and .u64 0 1))) = 0 by decide +kernel), rfl⟩
set_option maxHeartbeats 4000000 in
set_option maxRecDepth 100000 in
theorem vint_Source_Below.nil (n : Int) (w : World) : Calls Try.prog 33 #[.pointer none, .int .i64 n] w fun e w' => e = .returned (.int .i64 0) ∧ w' = w := by
  go_enter Try.func33, Try.ntmps33
  go_wp2_with (first | (refine (vint_Source_Num.nil _).mono ?_; rintro e w1 ⟨rfl, rfl⟩) | (refine (vint_Source_Ok.nil _).mono ?_; rintro e w1 ⟨rfl, rfl⟩) | (refine (vint_Source_Fail.nil _).mono ?_; rintro e w1 ⟨rfl, rfl⟩))
  go_ret
  exact ⟨rfl, rfl⟩
set_option maxHeartbeats 4000000 in
set_option maxRecDepth 100000 in
theorem vint_Source_Take.nil (n : Int) (w : World) : Calls Try.prog 37 #[.pointer none, .int .i64 n] w fun e w' => e = .returned (.slice none 0 0) ∧ w' = w := by
  go_enter Try.func37, Try.ntmps37
  go_wp2_with (first | (refine (vint_Source_Ok.nil _).mono ?_; rintro e w1 ⟨rfl, rfl⟩) | (refine (vint_Source_Fail.nil _).mono ?_; rintro e w1 ⟨rfl, rfl⟩))
  go_ret
  exact ⟨rfl, rfl⟩
set_option maxHeartbeats 4000000 in
set_option maxRecDepth 100000 in
theorem vint_Source_Text.nil (n : Int) (w : World) : Calls Try.prog 35 #[.pointer none, .int .i64 n] w fun e w' => e = .returned (.string ⟨#[]⟩) ∧ w' = w := by
  go_enter Try.func35, Try.ntmps35
  go_wp2_with (first | (refine (vint_Source_Num.nil _).mono ?_; rintro e w1 ⟨rfl, rfl⟩) | (refine (vint_Source_Ok.nil _).mono ?_; rintro e w1 ⟨rfl, rfl⟩) | (refine (vint_Source_Fail.nil _).mono ?_; rintro e w1 ⟨rfl, rfl⟩))
  go_ret
  exact ⟨rfl, rfl⟩
end Go.Proofs.Ytkdlfejokahohaa.X
/- What a source tells without being read from: the world stays as it is. -/
namespace Go.Proofs.Ytkdlfejokahohaa.X
open Go.RowKit Go.Proofs.YtkdlfejokahohaaW.PrintWords Go.Proofs.YtkdlfejokahohaaW.PrintLast Go.Proofs.YtkdlfejokahohaaW.PrintMore
set_option linter.unusedVariables false
set_option linter.unusedSimpArgs false
set_option maxHeartbeats 4000000 in
set_option maxRecDepth 100000 in
theorem vint_Source_Ok.same (g : Nat) (l : List Int) (bad : Bool) (w0 w : World) (hI : IsS93 w0 w g l bad) : Calls Try.prog 41 #[.pointer (some ⟨g, 0, none⟩)] w fun e w' => e = .returned (.bool !bad) ∧ w' = w := by
  have HI := Aside0.mk hI
  obtain ⟨A1, c1, hb1, hg1, hr1, hc1⟩ := hI
  have h0 : w.cell? ⟨g, 0, none⟩ = some (.slice A1 l.length c1) := (blk_cell hb1 0).trans rfl
  have h1 : w.cell? ⟨g, 1, none⟩ = some (.bool bad) := (blk_cell hb1 1).trans rfl
  have hu := Try.underlying93
  have hne : ∀ w : World, (binOp .neq 41 (.pointer (some ⟨g, 0, none⟩)) (.pointer none)).run Try.prog w = .ok (.bool true) w := fun w => run_neq_pointer_nil w 41 (some ⟨g, 0, none⟩) (by kernel_rfl)
  clear hb1
  cases bad <;>
    (go_enter Try.func41, Try.ntmps41
     go_wp2_with fail
     go_ret
     exact ⟨rfl, rfl⟩)
set_option maxHeartbeats 4000000 in
set_option maxRecDepth 100000 in
theorem vint_Source_Left.same (g : Nat) (l : List Int) (bad : Bool) (w0 w : World) (hI : IsS93 w0 w g l bad) : Calls Try.prog 42 #[.pointer (some ⟨g, 0, none⟩)] w fun e w' => e = .returned (.int .i64 (if bad = true then 0 else (l.length : Int))) ∧ w' = w := by
  have HI := Aside0.mk hI
  obtain ⟨A1, c1, hb1, hg1, hr1, hc1⟩ := hI
  have h0 : w.cell? ⟨g, 0, none⟩ = some (.slice A1 l.length c1) := (blk_cell hb1 0).trans rfl
  have h1 : w.cell? ⟨g, 1, none⟩ = some (.bool bad) := (blk_cell hb1 1).trans rfl
  have hu := Try.underlying93
  clear hb1
  cases bad <;>
    (go_enter Try.func42, Try.ntmps42
     go_wp2_with (refine (vint_Source_Ok.same g l _ w0 _ HI.out).mono ?_; rintro e w1 ⟨rfl, rfl⟩)
     go_ret
     exact ⟨rfl, rfl⟩)
set_option maxHeartbeats 4000000 in
set_option maxRecDepth 100000 in
theorem vint_Source_End.same (g : Nat) (l : List Int) (bad : Bool) (w0 w : World) (hI : IsS93 w0 w g l bad) : Calls Try.prog 43 #[.pointer (some ⟨g, 0, none⟩)] w fun e w' => e = .returned (.bool (!bad && ((l.length : Int) == 0))) ∧ w' = w := by
  have HI := Aside0.mk hI
  obtain ⟨A1, c1, hb1, hg1, hr1, hc1⟩ := hI
  have h0 : w.cell? ⟨g, 0, none⟩ = some (.slice A1 l.length c1) := (blk_cell hb1 0).trans rfl
  have h1 : w.cell? ⟨g, 1, none⟩ = some (.bool bad) := (blk_cell hb1 1).trans rfl
  have hu := Try.underlying93
  clear hb1
  cases bad <;>
    (go_enter Try.func43, Try.ntmps43
     go_wp2_with (refine (vint_Source_Ok.same g l _ w0 _ HI.out).mono ?_; rintro e w1 ⟨rfl, rfl⟩)
     go_ret
     exact ⟨rfl, rfl⟩)
set_option maxHeartbeats 4000000 in
set_option maxRecDepth 100000 in
theorem firkinref01_S_End.same (g : Nat) (l : List Int) (bad : Bool) (w0 w : World) (hI : IsS45 w0 w g l bad) : Calls Try.prog 44 #[.pointer (some ⟨g, 0, none⟩)] w fun e w' => e = .returned (.bool (!bad && ((l.length : Int) == 0))) ∧ w' = w := by
  have HI := Aside0.mk hI
  obtain ⟨A1, c1, hb1, hg1, hr1, hc1⟩ := hI
  have h0 : w.cell? ⟨g, 0, none⟩ = some (.slice A1 l.length c1) := (blk_cell hb1 0).trans rfl
  have h1 : w.cell? ⟨g, 1, none⟩ = some (.bool bad) := (blk_cell hb1 1).trans rfl
  have hu := Try.underlying45
  clear hb1
  cases bad <;>
    (go_enter Try.func44, Try.ntmps44
     go_wp2_with fail
     go_ret
     exact ⟨rfl, rfl⟩)
theorem vint_Source_Left.same2 (g : Nat) (l : List Int) (bad : Bool) (w0 w : World) (hI : IsS93 w0 w g l bad) (hg : bad = true → l = []) : Calls Try.prog 42 #[.pointer (some ⟨g, 0, none⟩)] w fun e w' => e = .returned (.int .i64 (l.length : Int)) ∧ w' = w := by
  have h := vint_Source_Left.same g l bad w0 w hI
  have e : (if bad = true then (0 : Int) else (l.length : Int)) = (l.length : Int) := by
    cases bad
    · rfl
    · rw [hg rfl]; rfl
  rwa [e] at h
end Go.Proofs.Ytkdlfejokahohaa.X
/- firkinlaw01.live, the page's examples: it answers true. -/
namespace Go.Proofs.Ytkdlfejokahohaa.X
open Go.RowKit Go.Proofs.YtkdlfejokahohaaW.PrintWords Go.Proofs.YtkdlfejokahohaaW.PrintLast Go.Proofs.YtkdlfejokahohaaW.PrintMore
set_option linter.unusedVariables false
set_option linter.unusedSimpArgs false
def firkinlaw01_live.f : Option Bool := some true
set_option maxHeartbeats 8000000 in
set_option maxRecDepth 100000 in
theorem firkinlaw01_live.calls (r : Bool) (w : World) (h : firkinlaw01_live.f = some r) :
    Calls Try.prog 27 #[] w fun e w' => e = .returned (.bool r) ∧ Below w.heap.size w w' := by
  obtain rfl := Option.some.inj h
  go_enter Try.func27, Try.ntmps27
  go_wp2_with fail
  refine (vint_From.calls (some ⟨w.heap.size, 0, none⟩) 2 [128, 0] [128, 0] false (w.alloc (.cells #[.int .u8 128, .int .u8 0] 5)) _ (Below.refl _ _) (Mem.C_pair w 128 0) (Nat.le_refl _) rfl).mono ?_
  rintro e w2 ⟨g, rfl, hI, hB, hB2⟩
  have HW8 : ∀ {w8 : World}, Below (w.alloc (.cells #[.int .u8 128, .int .u8 0] 5)).heap.size (w.alloc (.cells #[.int .u8 128, .int .u8 0] 5)) w8 → Below w.heap.size w w8 := fun h => below_step (below_alloc (Below.refl w.heap.size w) _) h
  generalize (w.alloc (.cells #[.int .u8 128, .int .u8 0] 5)) = W1 at hI hB hB2 HW8
  go_wp2_with fail
  refine (vint_Num.calls 40 300 [172, 2] w2 (by decide +kernel)).mono ?_
  rintro e w3 ⟨v3, rfl, hR3, hb3⟩
  obtain ⟨A3, c3, rfl, hc3, hr3⟩ := Kd.R_reads hR3
  go_wp2_with fail
  refine (firkinref01_Same.calls A3 c3 [172, 2] (some ⟨w3.heap.size, 0, none⟩) 2 [172, 2] true _ (Kd.C_below hr3 (below_alloc (Below.refl _ _) _)) hc3 (Mem.C_pair w3 172 2) (Nat.le_refl _) (by decide +kernel)).mono ?_
  rintro e w4 ⟨rfl, ⟨n4, rfl⟩⟩
  have hb4 := pw_below_drewN (below_alloc hb3 (.cells #[.int .u8 172, .int .u8 2] 5)) n4
  generalize (w3.alloc (.cells #[.int .u8 172, .int .u8 2] 5)).drewN n4 = w4 at hb4 ⊢
  go_wp2_with fail
  refine (vint_Int.calls 40 (-1) [1] w4 (by decide +kernel)).mono ?_
  rintro e w5 ⟨v5, rfl, hR5, hb5⟩
  obtain ⟨A5, c5, rfl, hc5, hr5⟩ := Kd.R_reads hR5
  have hb5' := below_step hb4 hb5
  go_wp2_with fail
  refine (firkinref01_Same.calls A5 c5 [1] (some ⟨w5.heap.size, 0, none⟩) 1 [1] true _ (Kd.C_below hr5 (below_alloc (Below.refl _ _) _)) hc5 (Mem.C_single w5 1) (Nat.le_refl _) (by decide +kernel)).mono ?_
  rintro e w6 ⟨rfl, ⟨n6, rfl⟩⟩
  have hb6 := pw_below_drewN (below_alloc hb5' (.cells #[.int .u8 1] 5)) n6
  generalize (w5.alloc (.cells #[.int .u8 1] 5)).drewN n6 = w6 at hb6 ⊢
  clear hR3 hb3 hr3 hc3 hb4 hR5 hb5 hr5 hc5 hb5'
  go_wp2_with fail
  refine (vint_Source_Num.calls g [128, 0] false 0 [] true W1 w6 (IsS93.below hI hb6) (below_step hB hb6) (by decide +kernel)).mono ?_
  rintro e w7 ⟨rfl, hI7, hB7, hK7⟩
  go_wp2_with fail
  refine (vint_Source_Ok.calls g [] true false [] true W1 w7 hI7 hB7 rfl).mono ?_
  rintro e w8 ⟨rfl, hI8, hB8, hK8⟩
  go_wp2_with fail
  go_ret
  exact ⟨rfl, HW8 hB8⟩
end Go.Proofs.Ytkdlfejokahohaa.X
/- The law VintReads, walked: what is read of whatever bytes, one thing behind the other, is the document's. -/
namespace Go.Proofs.Ytkdlfejokahohaa.X
open Go.RowKit Go.Proofs.YtkdlfejokahohaaW.PrintWords Go.Proofs.YtkdlfejokahohaaW.PrintLast Go.Proofs.YtkdlfejokahohaaW.PrintMore
set_option linter.unusedVariables false
set_option linter.unusedSimpArgs false
open Go.Proofs.Ytkdlfejokahohaa.Dec Go.Proofs.Ytkdlfejokahohaa.Read
def firkinlaw01_VintReads.f (l0 : List Int) (l1 : List S47) : Option Bool := if IsBytes l0 ∧ ∀ x ∈ l1, x.f1 < 9223372036854775808 then some true else none
set_option maxHeartbeats 8000000 in
set_option maxRecDepth 100000 in
theorem firkinlaw01_VintReads.calls (A0 : Option Addr) (c0 : Nat) (l0 : List Int) (A1 : Option Addr) (c1 : Nat) (l1 : List S47) (r : Bool) (w : World) (hr0 : Kd.C (Kd.int .u8) w A0 l0.length l0) (hc0 : l0.length ≤ c0) (hr1 : Kd.C k47 w A1 l1.length l1) (hc1 : l1.length ≤ c1) (h : firkinlaw01_VintReads.f l0 l1 = some r) :
    Calls Try.prog 7 #[.slice A0 l0.length c0, .slice A1 l1.length c1] w fun e w' => e = .returned (.bool r) ∧ Below w.heap.size w w' := by
  unfold firkinlaw01_VintReads.f at h
  by_cases hp : IsBytes l0 ∧ ∀ x ∈ l1, x.f1 < 9223372036854775808
  case neg => rw [if_neg hp] at h; cases h
  rw [if_pos hp] at h
  obtain rfl := Option.some.inj h
  clear h
  obtain ⟨hb, hact⟩ := hp
  have hm0 := Kd.C_max hr0
  have hm1 := Kd.C_max hr1
  have HR0 := Aside0.mk hr0
  have HR1 := Aside0.mk hr1
  have HB := Aside0.mk hb
  have HA := Aside0.mk hact
  clear hr0 hr1 hb hact
  by_cases hl : 400 < l0.length ∨ 40 < l1.length
  · obtain ⟨b1, hb1⟩ : ∃ b_ : Bool, decide ((400 : Int) < (l0.length : Int)) = b_ := ⟨_, rfl⟩
    obtain ⟨b2, hb2⟩ : ∃ b_ : Bool, decide ((40 : Int) < (l1.length : Int)) = b_ := ⟨_, rfl⟩
    have hx : (b1 || b2) = true := by rw [← hb1, ← hb2]; simp only [Bool.or_eq_true, decide_eq_true_eq]; omega
    clear hl
    cases b1 <;> cases b2 <;> first
      | (exact absurd hx (by decide))
      | (clear hx
         go_enter Try.func7, Try.ntmps7
         go_wp2_with fail
         refine (firkinlaw01_live.calls true _ rfl).mono ?_
         rintro e w1 ⟨rfl, hb1⟩
         go_wp2_with fail
         go_ret
         exact ⟨rfl, hb1⟩)
  have hb1 : decide ((400 : Int) < (l0.length : Int)) = false := decide_eq_false (by omega)
  have hb2 : decide ((40 : Int) < (l1.length : Int)) = false := decide_eq_false (by omega)
  have HL := Aside0.mk hl
  clear hl
  have hne : ∀ w : World, (binOp .neq 41 (.pointer none) (.pointer none)).run Try.prog w = .ok (.bool false) w := fun w => run_neq_pointer_nil w 41 none (by kernel_rfl)
  go_enter Try.func7, Try.ntmps7
  go_wp2_with fail
  refine (vint_From.calls2 A0 c0 l0 w w (Below.refl _ _) HR0.out hc0).mono ?_
  rintro e w1 ⟨g, rfl, s1, B1, b1, _⟩
  have t1 := IsS45.new w w1 A0 c0 l0 false B1 ⟨HR0.out, hc0⟩
  have HS1 := Aside0.mk (IsS93.below s1 (below_alloc (Below.refl _ _) (.cells #[.slice A0 l0.length c0, .bool false] 45)))
  have HT1 := Aside0.mk t1
  have HB1 := Aside0.mk (below_alloc B1 (.cells #[.slice A0 l0.length c0, .bool false] 45))
  have hne2 : w1.heap.size ≠ g := by have := IsS93.lt s1; omega
  clear s1 t1 B1 b1
  go_wp2_with fail
  go_loopg [7] l1.length (fun kq v7 w' => ∃ (i : Nat) (l : List Int) (bad : Bool), v7 = .int .i64 (i : Int) ∧ kq + i = l1.length ∧ Aside0 (IsS93 w w' g l bad) ∧ Aside0 (IsS45 w w' w1.heap.size l bad) ∧ Aside0 (GoodS l bad) ∧ Aside0 (Below w.heap.size w w'))
  case atStart => exact ⟨0, l0, false, rfl, rfl, HS1, HT1, ⟨GoodS.of ⟨HB.out, by have := HL.out; omega⟩⟩, HB1⟩
  case round =>
    clear HS1 HT1 HB1
    obtain ⟨i, l, bad, rfl, hi, HS, HT, HG, HW⟩ := hrel
    cases gk with
    | zero =>
      obtain rfl : i = l1.length := by omega
      have hz : decide ((l1.length : Int) < (l1.length : Int)) = false := decide_eq_false (by omega)
      have hz2 : decide (l1.length < l1.length) = false := decide_eq_false (by omega)
      go_wp2_with (first | (refine (vint_Source_Fail.nil _).mono ?_; rintro e w2 ⟨rfl, rfl⟩) | (refine (vint_Source_Num.nil _).mono ?_; rintro e w2 ⟨rfl, rfl⟩) | (refine (vint_Source_Int.nil _).mono ?_; rintro e w2 ⟨rfl, rfl⟩) | (refine (vint_Source_Below.nil _ _).mono ?_; rintro e w2 ⟨rfl, rfl⟩) | (refine (vint_Source_Text.nil _ _).mono ?_; rintro e w2 ⟨rfl, rfl⟩) | (refine (vint_Source_Take.nil _ _).mono ?_; rintro e w2 ⟨rfl, rfl⟩) | (refine (vint_Source_Left.nil _).mono ?_; rintro e w2 ⟨rfl, rfl⟩) | (refine (vint_Source_Ok.nil _).mono ?_; rintro e w2 ⟨rfl, rfl⟩) | (refine (vint_Source_End.nil _).mono ?_; rintro e w2 ⟨rfl, rfl⟩) | (refine (firkinlaw01_live.calls true _ rfl).mono ?_; rintro e w2 ⟨rfl, hb9⟩))
      go_ret
      exact ⟨rfl, below_step HW.out hb9⟩
    | succ k2 =>
      have hlt : i < l1.length := by omega
      have hz : decide ((i : Int) < (l1.length : Int)) = true := decide_eq_true (by omega)
      have hz2 : decide (i < l1.length) = true := decide_eq_true hlt
      obtain ⟨ad, rfl, hx0, hx1⟩ := at_T47 HR1.out (i : Int) (by omega) (by omega)
      have HX0 := Aside0.mk ((HW.out.cell (World.block_lt_of_cell? w _ hx0)).trans hx0)
      have HX1 := Aside0.mk ((HW.out.cell (World.block_lt_of_cell? w _ hx1)).trans hx1)
      have hn : (rd_T47 l1 (i : Int)).f1 < 9223372036854775808 := by
        unfold rd_T47
        rw [Int.toNat_natCast, List.getD_eq_getElem?_getD, List.getElem?_eq_getElem hlt]
        exact HA.out _ (List.getElem_mem hlt)
      have HGB : Aside0 ((ad.add ((i : Int).toNat * 2)).block ≠ g ∧ (ad.add ((i : Int).toNat * 2)).block ≠ w1.heap.size) := ⟨by have h1 := World.block_lt_of_cell? w _ hx0; have h2 := IsS93.ge HS.out; have h3 := IsS45.ge HT.out; omega⟩
      clear hx0 hx1
      rw [Int.toNat_natCast] at HGB
      rw [Int.toNat_natCast] at HX0 HX1
      generalize (rd_T47 l1 (i : Int)).f0 = d at HX0
      generalize (rd_T47 l1 (i : Int)).f1 = n at HX1 hn
      have hx0 := HX0.out
      have hx1 := HX1.out
      have hg1 : (⟨(ad.add (i * 2)).block, (ad.add (i * 2)).off + 1, none⟩ : Addr).block ≠ g := HGB.out.1
      have hg2 : (⟨(ad.add (i * 2)).block, (ad.add (i * 2)).off + 1, none⟩ : Addr).block ≠ w1.heap.size := HGB.out.2
      go_upto_block 2 with (fail)
      go_cut [8] (fun v8 wc => ∃ (l2 : List Int) (bad2 : Bool), v8 = .bool true ∧ Aside0 (IsS93 w wc g l2 bad2) ∧ Aside0 (IsS45 w wc w1.heap.size l2 bad2) ∧ Aside0 (GoodS l2 bad2) ∧ Aside0 (Below w.heap.size w wc))
      case first =>
        by_cases d0 : d = 0
        · subst d0
          go_wp2_with fail
          refine (vint_Source_Num.calls g l bad (gNum l bad).1 (gNum l bad).2.1 (gNum l bad).2.2 w _ HS.out HW.out (num_g HG.out)).mono ?_
          rintro e w2 ⟨rfl, s2, B2, K2⟩
          have t2 := IsS45.keep HT.out K2 hne2
          go_wp2_with fail
          refine (firkinref01_S_Num.calls w1.heap.size l bad (gNum l bad).1 (gNum l bad).2.1 (gNum l bad).2.2 w _ t2 B2 (rnum_g HG.out)).mono ?_
          rintro e w3 ⟨rfl, t3, B3, K3⟩
          have s3 := IsS93.keep s2 K3 (Ne.symm hne2)
          go_wp2_with fail
          go_meet
          case rel => exact ⟨_, _, rfl, ⟨s3⟩, ⟨t3⟩, ⟨gNum_good HG.out⟩, ⟨B3⟩⟩
        by_cases d1 : d = 1
        · subst d1
          go_wp2_with fail
          refine (vint_Source_Int.calls g l bad (gInt l bad).1 (gInt l bad).2.1 (gInt l bad).2.2 w _ HS.out HW.out (int_g HG.out)).mono ?_
          rintro e w2 ⟨rfl, s2, B2, K2⟩
          have t2 := IsS45.keep HT.out K2 hne2
          go_wp2_with fail
          refine (firkinref01_S_Int.calls w1.heap.size l bad (gInt l bad).1 (gInt l bad).2.1 (gInt l bad).2.2 w _ t2 B2 (rint_g HG.out)).mono ?_
          rintro e w3 ⟨rfl, t3, B3, K3⟩
          have s3 := IsS93.keep s2 K3 (Ne.symm hne2)
          go_wp2_with fail
          go_meet
          case rel => exact ⟨_, _, rfl, ⟨s3⟩, ⟨t3⟩, ⟨gNum_good HG.out⟩, ⟨B3⟩⟩
        by_cases d2 : d = 2
        · subst d2
          go_upto_region 14 with (fail)
          have HSd : Aside0 (IsS93 w wr.drew g l bad) := ⟨HS.out⟩
          have HTd : Aside0 (IsS45 w wr.drew w1.heap.size l bad) := ⟨HT.out⟩
          have HWd : Aside0 (Below w.heap.size w wr.drew) := ⟨below_drew HW.out⟩
          go_region_held3 (fun w' => w'.cell? ⟨(ad.add (i * 2)).block, (ad.add (i * 2)).off + 1, none⟩ = some (.int .i64 n)) (first | go_keep | exact keep_cell K3 (keep_cell K2 hx1 hg1) hg2 | exact keep_cell K2 hx1 hg1)
            (first | (go_at_call 33; refine (vint_Source_Below.calls g l bad n (gBelow l bad n).1 (gBelow l bad n).2.1 (gBelow l bad n).2.2 w _ HSd.out HWd.out (below_g HG.out n hn)).mono ?_; rintro e w2 ⟨rfl, s2, B2, K2⟩; have t2 := IsS45.keep HTd.out K2 hne2) | (go_at_call 34; refine (firkinref01_S_Below.calls w1.heap.size l bad n (gBelow l bad n).1 (gBelow l bad n).2.1 (gBelow l bad n).2.2 w _ t2 B2 (rbelow_g HG.out n hn)).mono ?_; rintro e w3 ⟨rfl, t3, B3, K3⟩; have s3 := IsS93.keep s2 K3 (Ne.symm hne2)))
          go_wp2_with fail
          go_meet
          case rel => exact ⟨_, _, rfl, ⟨s3⟩, ⟨t3⟩, ⟨gBelow_good HG.out n⟩, ⟨B3⟩⟩
        by_cases d3 : d = 3
        · subst d3
          go_upto_region 16 with (fail)
          have HSd : Aside0 (IsS93 w wr.drew g l bad) := ⟨HS.out⟩
          have HTd : Aside0 (IsS45 w wr.drew w1.heap.size l bad) := ⟨HT.out⟩
          have HWd : Aside0 (Below w.heap.size w wr.drew) := ⟨below_drew HW.out⟩
          go_region_held3 (fun w' => w'.cell? ⟨(ad.add (i * 2)).block, (ad.add (i * 2)).off + 1, none⟩ = some (.int .i64 n)) (first | go_keep | exact keep_cell K3 (keep_cell K2 hx1 hg1) hg2 | exact keep_cell K2 hx1 hg1)
            (first | (go_at_call 35; refine (vint_Source_Text.calls 4 g l bad n (gText l bad n).1 (gText l bad n).2.1 (gText l bad n).2.2 w _ HSd.out HWd.out (text_g HG.out n hn 3)).mono ?_; rintro e w2 ⟨rfl, s2, B2, K2⟩; have t2 := IsS45.keep HTd.out K2 hne2) | (go_at_call 36; refine (firkinref01_S_Text.calls 4 w1.heap.size l bad n (gText l bad n).1 (gText l bad n).2.1 (gText l bad n).2.2 w _ t2 B2 (rtext_g HG.out n hn 3)).mono ?_; rintro e w3 ⟨rfl, t3, B3, K3⟩; have s3 := IsS93.keep s2 K3 (Ne.symm hne2)))
          go_wp2_with fail
          go_meet
          case rel => exact ⟨_, _, rfl, ⟨s3⟩, ⟨t3⟩, ⟨gText_good HG.out n⟩, ⟨B3⟩⟩
        by_cases d5 : d = 5
        · subst d5
          go_wp2_with fail
          refine (vint_Source_Fail.calls g l bad [] true w _ HS.out HW.out rfl).mono ?_
          rintro e w2 ⟨rfl, s2, B2, K2⟩
          have t2 := IsS45.keep HT.out K2 hne2
          go_wp2_with fail
          refine (firkinref01_S_Fail.calls w1.heap.size l bad [] true w _ t2 B2 rfl).mono ?_
          rintro e w3 ⟨rfl, t3, B3, K3⟩
          have s3 := IsS93.keep s2 K3 (Ne.symm hne2)
          go_wp2_with fail
          go_meet
          case rel => exact ⟨_, _, rfl, ⟨s3⟩, ⟨t3⟩, ⟨GoodS.nil _⟩, ⟨B3⟩⟩
        by_cases d4 : d = 4
        · subst d4
          go_upto_region 18 with (fail)
          have HSd : Aside0 (IsS93 w wr.drew g l bad) := ⟨HS.out⟩
          have HTd : Aside0 (IsS45 w wr.drew w1.heap.size l bad) := ⟨HT.out⟩
          have HWd : Aside0 (Below w.heap.size w wr.drew) := ⟨below_drew HW.out⟩
          go_region_held3 (fun w' => w'.cell? ⟨(ad.add (i * 2)).block, (ad.add (i * 2)).off + 1, none⟩ = some (.int .i64 n)) (first | go_keep | exact keep_cell K3 (keep_cell K2 hx1 hg1) hg2 | exact keep_cell K2 hx1 hg1)
            (first
              | (go_at_call 37; refine (vint_Source_Take.calls g l bad n (gTake l bad n).1 (gTake l bad n).2.1 (gTake l bad n).2.2 w _ HSd.out HWd.out (take_g HG.out n)).mono ?_; rintro e w2 ⟨v2, rfl, R2, s2, B2, K2⟩; have t2 := IsS45.keep HTd.out K2 hne2)
              | (go_at_call 38; refine (firkinref01_S_Take.calls w1.heap.size l bad n (gTake l bad n).1 (gTake l bad n).2.1 (gTake l bad n).2.2 w _ t2 B2 (rtake_g HG.out n)).mono ?_; rintro e w3 ⟨v3, rfl, R3, t3, B3, K3⟩; have s3 := IsS93.keep s2 K3 (Ne.symm hne2); have hlt2 := IsS45.lt HTd.out; have R2' := Kd.R_keep (Kd.R_bound R2) K3 (fun k hk => by have := hk.2.1; omega); obtain ⟨A2, cc2, rfl, hc2, C2⟩ := Kd.R_reads R2'; obtain ⟨A3, cc3, rfl, hc3, C3⟩ := Kd.R_reads R3; clear R2 R2' R3)
              | (go_at_call 23; refine (firkinref01_Same.calls A2 cc2 (gTake l bad n).1 A3 cc3 (gTake l bad n).1 true _ C2 hc2 C3 hc3 (by unfold firkinref01_Same.f; simp)).mono ?_; rintro e w4 ⟨rfl, ⟨nd, rfl⟩⟩))
          go_wp2_with fail
          go_meet
          case rel => exact ⟨_, _, rfl, ⟨IsS93.drewN s3 nd⟩, ⟨IsS45.drewN t3 nd⟩, ⟨gTake_good HG.out n⟩, ⟨pw_below_drewN B3 nd⟩⟩
        · have e0 : (d == 0) = false := beq_eq_false_iff_ne.2 d0
          have e1 : (d == 1) = false := beq_eq_false_iff_ne.2 d1
          have e2 : (d == 2) = false := beq_eq_false_iff_ne.2 d2
          have e3 : (d == 3) = false := beq_eq_false_iff_ne.2 d3
          have e4 : (d == 4) = false := beq_eq_false_iff_ne.2 d4
          have e5 : (d == 5) = false := beq_eq_false_iff_ne.2 d5
          go_wp2_with fail
          go_meet
          case rel => exact ⟨_, _, rfl, HS, HT, HG, HW⟩
      case rest =>
        obtain ⟨l2, bad2, rfl, HS2, HT2, HG2, HW2⟩ := hcut
        obtain ⟨A2, c2, hb2, hg2', hr2, hc2⟩ := HT2.out
        have h0 : wc.cell? ⟨w1.heap.size, 0, none⟩ = some (.slice A2 l2.length c2) := (blk_cell hb2 0).trans rfl
        have h1 : wc.cell? ⟨w1.heap.size, 1, none⟩ = some (.bool bad2) := (blk_cell hb2 1).trans rfl
        clear hb2 hr2
        go_upto_region 22 with (fail)
        cases bad2
        all_goals
          go_quiet ((first | (go_at_call 41; exact Calls.quiet_of_same (vint_Source_Ok.same g l2 _ w _ HS2.out)) | (go_at_call 42; exact Calls.quiet_of_same (vint_Source_Left.same2 g l2 _ w _ HS2.out HG2.out.2)) | (go_at_call 43; exact Calls.quiet_of_same (vint_Source_End.same g l2 _ w _ HS2.out)) | (go_at_call 44; exact Calls.quiet_of_same (firkinref01_S_End.same w1.heap.size l2 _ w _ HT2.out))))
        all_goals
          go_wp2_with fail
          go_roundg k2
          case measure => omega
          case rel => exact ⟨i + 1, l2, _, by go_num, by omega, ⟨IsS93.drewN HS2.out _⟩, ⟨IsS45.drewN HT2.out _⟩, HG2, ⟨pw_below_drewN HW2.out _⟩⟩
end Go.Proofs.Ytkdlfejokahohaa.X
/- VintReads: its bytes are bytes and its numbers are numbers, which is all that the walk asks. No condition. -/
namespace Go.Proofs.Ytkdlfejokahohaa.True_
open Go Go.RowKit Go.Proofs.Ytkdlfejokahohaa.X Go.Proofs.Ytkdlfejokahohaa.Dec
theorem VintReads : ∀ (x0 : List Int) (x1 : List (S47)), (x0.length ≤ maxLen ∧ ∀ z ∈ x0, (Lit.int .u8 z).wf = true) → (x1.length ≤ maxLen ∧ ∀ z ∈ x1, ((Lit.int .i64 z.f0).wf = true ∧ (Lit.int .i64 z.f1).wf = true)) → firkinlaw01_VintReads.f x0 x1 = some true := by
  intro x0 x1 h h1
  unfold firkinlaw01_VintReads.f
  rw [if_pos ⟨fun x hx => byte_bounds (h.2 x hx), fun x hx => (Wf.i64 (h1.2 x hx).2).2⟩]
end Go.Proofs.Ytkdlfejokahohaa.True_
/- VintReads: for every input the call returns true, and each argument reads behind the call as it read before it. No condition. -/
namespace Go.Proofs.Ytkdlfejokahohaa.vintReads
open Go.ChangeShapes Go.WideShapes Go.ChangeAt Go.RowKit Go.Proofs.Ytkdlfejokahohaa.Opens Go.Proofs.Ytkdlfejokahohaa.X Go.Proofs.YtkdlfejokahohaaW.PrintWords Go.Proofs.YtkdlfejokahohaaW.PrintLast Go.Proofs.YtkdlfejokahohaaW.PrintMore
open Go.ChangeMaps (open_string shut_string)
set_option linter.unusedVariables false
set_option linter.unusedSimpArgs false
theorem own : ownKnob Try.prog.godebug = none := by kernel_rfl
theorem laidOut : laidOutB Try.prog = true := by kernel_rfl
set_option maxRecDepth 100000 in
theorem lifted (os : Os) (started : os.Started) (H : Type) (enc : TypeId × Value → H) :
    ReturnsInHanded {} Try.checked os 7 .any (Rows.vintReadsSpec.pre6 enc Try.prog Try.f7 Rows.vintReadsRow.domain false) (Rows.vintReadsSpec.post enc Try.prog Try.f7 false true false false) := by
  refine returnsInHanded_of_change_sized (C := Try.checked) own started (by kernel_rfl) Try.func7
    (ChangeSpec.witness6 (enc := enc) (C := Try.checked) false ⟨#[], #[.slice none 0 0, .slice none 0 0], []⟩ 8 (by kernel_rfl) (by kernel_rfl) (by kernel_rfl) (by kernel_rfl)) ?_
  intro W base args ds gs before hval0 hW hcnd hsz0 _
  have hval : ∀ (j : Nat) t v, Try.f7.params[j]? = some t → args[j]? = some v → Value.okWide Try.prog W .any base t v := hval0
  have hW' := hW
  obtain ⟨p, q, hA0, hV, rfl, hfz, hnd⟩ := hW
  have hA : DataW.TrodAll enc Try.prog W 0 (fun _ => true) true Try.f7.params.toList args.toList ds p := hA0
  rw [Try.params7] at hA hval
  obtain ⟨v0, vs0, d0, ds0, p0, q0, hargs, rfl, rfl, h0, r0⟩ := trodAll_cons hA
  obtain ⟨v1, vs1, d1, ds1, p1, q1, rfl, rfl, rfl, h1, r1⟩ := trodAll_cons r0
  obtain ⟨rfl, rfl, rfl⟩ := trodAll_nil r1
  obtain rfl : args = #[v0, v1] := by cases args; simp_all
  obtain ⟨rfl, rfl⟩ := trodVars_none hV
  have k0 := h0
  have lt0 : ∀ x ∈ p0, x.block < W.heap.size := by obtain ⟨m, hm⟩ := k0; exact DataW.trod_lt m _ _ _ hm
  obtain ⟨x0, hk0, ok0⟩ := Opens.arg (Opens.slice Try.underlying31 (by kernel_rfl) (Opens.int Try.underlying5 (by kernel_rfl))) h0
  obtain ⟨a0, len0, cap0, rfl⟩ := okWide_slice Try.underlying31 (hval 0 31 v0 rfl rfl)
  obtain ⟨A0, c0, hcs0, hc0, hr0⟩ := hk0
  simp only [Value.cells] at hcs0
  injection hcs0 with hcs0 _
  injection hcs0 with e1_0 e2_0 e3_0
  subst e1_0 e2_0 e3_0
  have k1 := h1
  have lt1 : ∀ x ∈ p1, x.block < W.heap.size := by obtain ⟨m, hm⟩ := k1; exact DataW.trod_lt m _ _ _ hm
  obtain ⟨x1, hk1, ok1⟩ := Opens.arg (Opens.slice Try.underlying40 (by kernel_rfl) (Opens.iso (Opens.struct Try.underlying47 (OpensF.cons (Opens.int Try.underlying3 (by kernel_rfl)) rfl (OpensF.one (Opens.int Try.underlying3 (by kernel_rfl)) rfl) rfl) (by kernel_rfl)) (β := S47) (fun x : S47 => (x.f0, x.f1)) (fun y => ⟨y.1, y.2⟩) (fun _ => rfl))) h1
  obtain ⟨a1, len1, cap1, rfl⟩ := okWide_slice Try.underlying40 (hval 1 40 v1 rfl rfl)
  obtain ⟨A1, c1, hcs1, hc1, hr1⟩ := hk1
  simp only [Value.cells] at hcs1
  injection hcs1 with hcs1 _
  injection hcs1 with e1_1 e2_1 e3_1
  subst e1_1 e2_1 e3_1
  clear hA0 hval0 hsz0
  have h := True_.VintReads x0 x1 ok0 ok1
  refine (firkinlaw01_VintReads.calls _ _ x0 _ _ x1 true W hr0 hc0 hr1 hc1 h).mono fun e W' ⟨he, bel0⟩ => ?_
  have bel : Below W.heap.size W W' := bel0
  subst he
  exact ⟨_, rfl, _, _, _, [], _, [], hW', trodAll_mk1 (shut_bool Try.underlying4 _), (trodAll_cons_mk (Below.trod laidOut (by kernel_rfl) (of_decide_eq_true (by kernel_rfl)) k0 bel lt0) (trodAll_cons_mk (Below.trod laidOut (by kernel_rfl) (of_decide_eq_true (by kernel_rfl)) k1 bel lt1) trodAll_mk0)), rfl, bel.frame _, fun h => by cases h⟩
theorem over : Rows.vintReadsRow.holds Try.pinned (OpenSpec.ofChange Rows.vintReadsSpec) :=
  OpenClaim.holds_of_wide 7 Try.f7 rfl rfl rfl rfl rfl rfl rfl ⟨rfl, rfl, rfl, rfl, rfl⟩ rfl rfl rfl rfl rfl (by kernel_rfl) Try.func7 (by kernel_rfl)
    (of_decide_eq_true (by kernel_rfl)) (by unfold Func.isWrapper; first | (rw [if_pos (by decide +kernel)]; kernel_rfl) | (rw [if_neg (by decide +kernel)]; exact ⟨rfl, rfl⟩))
    (fun os started H enc _ => lifted os started H enc)
theorem proved : Rows.VintReadsSaid := over
end Go.Proofs.Ytkdlfejokahohaa.vintReads
namespace Go.Proofs.Ytkdlfejokahohaa
/-- The row, under a short name, for the claim. -/
theorem vintReads_holds : Rows.VintReadsSaid := vintReads.proved
end Go.Proofs.Ytkdlfejokahohaa
