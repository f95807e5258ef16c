/- CellBytes: for every input the call returns true, and each argument reads behind the call as it read before it. No condition. (Part 3 of 4: this session's texts, laid together by wip/merge.py.) -/
import Derived.Test.YtkdlfejokahohaaX0
import Derived.Test.YtkdlfejokahohaaMem
import Derived.Test.YtkdlfejokahohaaDec
import Derived.Laws.BitsAllLaws
import Derived.Lib.Hide
import Derived.Test.YtkdlfejokahohaaMem2
import Derived.Test.YtkdlfejokahohaaMCellBytes0
import Derived.Test.YtkdlfejokahohaaMCellBytes1
-- Printed for this claim by a program of this session (wip/xprint.py) over the kit's printer; Lean checks it.
namespace Go.Proofs.Ytkdlfejokahohaa.X
open Go.RowKit Go.Proofs.YtkdlfejokahohaaW.PrintWords Go.Proofs.YtkdlfejokahohaaW.PrintLast Go.Proofs.YtkdlfejokahohaaW.PrintMore
attribute [local go_sem] max2_int min2_int max_two min_two max_three min_three max_four min_four   -- for this text's walks alone
set_option linter.unusedVariables false
set_option linter.unusedSimpArgs false

/-! ### vint_Source_Text: function 35 -/
def vint_Source_Text.j0 : Nat → Int → Bool → List Int → Bool → Option (ByteArray × List Int × Bool)
  | 0, _, _, _, _ => none
  | k + 1, x5, x30, x1000, x1001 => if x30 = true then ((vint_Source_Fail.f x1000 x1001).bind fun bt232 => (some ((⟨#[]⟩ : ByteArray), bt232.1, bt232.2))) else ((vint_Source_Take.f x1000 x1001 (wrap64 (x5))).bind fun bt234 => (some (strOfNums bt234.1, bt234.2.1, bt234.2.2)))
def vint_Source_Text.f (k : Nat) (s0_0 : List Int) (s0_1 : Bool) (a1 : Int) : Option (ByteArray × List Int × Bool) := (vint_Source_Num.f s0_0 s0_1).bind fun bt226 => ((vint_Source_Ok.f bt226.2.1 bt226.2.2).bind fun bt229 => (if bt229.1 = true then (if a1 < 0 then (vint_Source_Text.j0 k bt226.1 true bt229.2.1 bt229.2.2) else (if bt226.1 > (IntKind.u64.wrap (a1)) then (vint_Source_Text.j0 k bt226.1 true bt229.2.1 bt229.2.2) else (vint_Source_Text.j0 k bt226.1 (decide (bt226.1 > (IntKind.u64.wrap ((bt229.2.1.length : Int))))) bt229.2.1 bt229.2.2))) else (vint_Source_Text.j0 k bt226.1 true bt229.2.1 bt229.2.2)))
theorem vint_Source_Text.mono_l : ∀ k, (∀ y0 y1 y2 y3, LeO (vint_Source_Text.j0 k y0 y1 y2 y3) (vint_Source_Text.j0 (k + 1) y0 y1 y2 y3))
  | 0 => fun _ _ _ _ r h => by simp [vint_Source_Text.j0] at h
  | k + 1 => by
    have ih0 := vint_Source_Text.mono_l k
    · intro y0 y1 y2 y3
      unfold vint_Source_Text.j0
      repeat' first
      | (with_reducible exact ih0 _ _ _ _)
      | (with_reducible exact LeO.refl _)
      | (with_reducible exact LeO.none _)
      | (with_reducible refine LeO.ite ?_ ?_)
      | (with_reducible refine LeO.bind ?_ (fun _ => ?_))
      | exact ih0 _ _ _ _
      | exact LeO.none _
      | refine LeO.ite ?_ ?_
      | refine LeO.bind ?_ (fun _ => ?_)
theorem vint_Source_Text.mono : ∀ a0 a1 a2 k, LeO (vint_Source_Text.f k a0 a1 a2) (vint_Source_Text.f (k + 1) a0 a1 a2) := by
  intro a0 a1 a2 k
  have ih0 := vint_Source_Text.mono_l k
  unfold vint_Source_Text.f
  repeat' first
      | (with_reducible exact ih0 _ _ _ _)
      | (with_reducible exact LeO.refl _)
      | (with_reducible exact LeO.none _)
      | (with_reducible refine LeO.ite ?_ ?_)
      | (with_reducible refine LeO.bind ?_ (fun _ => ?_))
      | exact ih0 _ _ _ _
      | exact LeO.none _
      | refine LeO.ite ?_ ?_
      | refine LeO.bind ?_ (fun _ => ?_)
set_option maxHeartbeats 8000000 in
set_option maxRecDepth 100000 in
theorem vint_Source_Text.calls (k : Nat) (g : Nat) (s0_0 : List Int) (s0_1 : Bool) (a1 : Int) (r1 : ByteArray) (r2 : List Int) (r3 : Bool) (w0 w : World) (hI : IsS93 w0 w g s0_0 s0_1) (hB : Below w0.heap.size w0 w) (h : vint_Source_Text.f k s0_0 s0_1 a1 = some (r1, r2, r3)) :
    Calls Try.prog 35 #[.pointer (some ⟨g, 0, none⟩), .int .i64 a1] w fun e w' => e = .returned (.string r1) ∧ IsS93 w0 w' g r2 r3 ∧ Below w0.heap.size w0 w' ∧ KeepBut w w' g none := by
  have HI0 := Aside0.mk hI
  have HK := Aside0.mk (KeepBut.refl w g none)
  have HL := Aside0.mk hB.size
  clear hI
  have HW0 := Aside0.mk hB.size
  have HB := Aside0.mk hB
  clear hB
  have H : ((vint_Source_Num.f s0_0 s0_1).bind fun bt226 => ((vint_Source_Ok.f bt226.2.1 bt226.2.2).bind fun bt229 => (if bt229.1 = true then (if a1 < 0 then (vint_Source_Text.j0 k bt226.1 true bt229.2.1 bt229.2.2) else (if bt226.1 > (IntKind.u64.wrap (a1)) then (vint_Source_Text.j0 k bt226.1 true bt229.2.1 bt229.2.2) else (vint_Source_Text.j0 k bt226.1 (decide (bt226.1 > (IntKind.u64.wrap ((bt229.2.1.length : Int))))) bt229.2.1 bt229.2.2))) else (vint_Source_Text.j0 k bt226.1 true bt229.2.1 bt229.2.2)))) = some (r1, r2, r3) := h
  clear h
  replace H := Option.bind_eq_some_iff.mp H
  obtain ⟨⟨t226, t227, t228⟩, A30, H⟩ := H
  replace H : ((vint_Source_Ok.f t227 t228).bind fun bt229 => (if bt229.1 = true then (if a1 < 0 then (vint_Source_Text.j0 k t226 true bt229.2.1 bt229.2.2) else (if t226 > (IntKind.u64.wrap (a1)) then (vint_Source_Text.j0 k t226 true bt229.2.1 bt229.2.2) else (vint_Source_Text.j0 k t226 (decide (t226 > (IntKind.u64.wrap ((bt229.2.1.length : Int))))) bt229.2.1 bt229.2.2))) else (vint_Source_Text.j0 k t226 true bt229.2.1 bt229.2.2))) = some (r1, r2, r3) := H
  have A3 := Aside0.mk A30
  clear A30
  have HC4 := Aside0.mk H
  clear H
  go_enter Try.func35, Try.ntmps35
  go_upto_region 2 with (first | ((with_reducible refine gate_callee (f := 29) rfl ?_); refine goesL_ (some 7) rfl rfl Try.func29 (by kernel_rfl) rfl #[.pointer (some ⟨g, 0, none⟩)] rfl (by (try simp only [List.map_toArray, List.map_cons, List.map_nil]); first | done | rfl | (simp only [List.length_drop, List.length_take]; rfl)) ?_; (with_reducible refine (vint_Source_Num.calls g s0_0 s0_1 t226 t227 t228 w0 _ ?side1 ?side2 A3.out).mono ?_); (case side1 => repeat (first | (with_reducible first | exact HI0.out | apply IsS93.alloc | apply IsS93.drewN | apply IsS93.drew | apply IsS93.set_0 | apply IsS93.set_1) | exact HI0.out)); (case side2 => repeat (first | (with_reducible first | exact HB.out | apply below_alloc | apply pw_below_drewN | apply below_drew1 | refine below_set ?_ (IsS93.ge HI0.out)) | exact HB.out)); rintro e w5 ⟨rfl, hi, hb, hk⟩; refine ⟨_, rfl, ?_⟩; have n0_ := Aside0.mk (KeepBut.trans (by repeat (first | (with_reducible first | exact HK.out | apply KeepBut.set_ | apply keep_drewN | apply keep_drew | apply keep_alloc) | exact HK.out)) hk (.inl rfl)); have n1_ := Aside0.mk (hb); have n2_ := Aside0.mk (hi); clear HK; clear HB; clear HI0; have HK := n0_; have HB := n1_; have HI0 := n2_; clear n0_ n1_ n2_; (try clear hb); (try clear hb2); (try clear hk); (try clear hi)))
  (try simp only [Act.put, List.setIfInBounds_toArray, List.set_cons_zero, List.set_cons_succ])
  go_cut [30] (fun v30 wc => ∃ (kq : Nat) (x30_3 : Bool) (x1000_3 : List Int) (x1001_3 : Bool) (u1000 : Value), v30 = .bool x30_3 ∧ Aside0 (vint_Source_Text.j0 kq t226 x30_3 x1000_3 x1001_3 = some (r1, r2, r3)) ∧ Aside0 (kq ≤ k) ∧ Aside0 (IsS93 w0 wc g x1000_3 x1001_3) ∧ Aside0 (KeepBut w wc g none) ∧ Aside0 (Below w0.heap.size w0 wc))
  case first =>
    have H := HC4.out
    clear HC4
    replace H := Option.bind_eq_some_iff.mp H
    obtain ⟨⟨t229, t230, t231⟩, A60, H⟩ := H
    replace H : (if t229 = true then (if a1 < 0 then (vint_Source_Text.j0 k t226 true t230 t231) else (if t226 > (IntKind.u64.wrap (a1)) then (vint_Source_Text.j0 k t226 true t230 t231) else (vint_Source_Text.j0 k t226 (decide (t226 > (IntKind.u64.wrap ((t230.length : Int))))) t230 t231))) else (vint_Source_Text.j0 k t226 true t230 t231)) = some (r1, r2, r3) := H
    have A6 := Aside0.mk A60
    clear A60
    by_cases c7 : t229 = true
    · subst c7
      have H1 : (if a1 < 0 then (vint_Source_Text.j0 k t226 true t230 t231) else (if t226 > (IntKind.u64.wrap (a1)) then (vint_Source_Text.j0 k t226 true t230 t231) else (vint_Source_Text.j0 k t226 (decide (t226 > (IntKind.u64.wrap ((t230.length : Int))))) t230 t231))) = some (r1, r2, r3) := by rw [if_pos rfl] at H; exact H
      clear H
      have H := H1
      clear H1
      by_cases c8 : a1 < 0
      · rw [if_pos c8] at H
        have c8b0 : decide (a1 < 0) = true := decide_eq_true c8
        clear c8
        (first | rw [c8b0] | (simp only [i64_w, i32_w]; rw [c8b0]) | skip)
        have H' := Aside0.mk H
        clear H
        go_wp2_with (first | ((with_reducible refine gate_callee (f := 41) rfl ?_); refine goesL_ (some 9) rfl rfl Try.func41 (by kernel_rfl) rfl #[.pointer (some ⟨g, 0, none⟩)] rfl (by (try simp only [List.map_toArray, List.map_cons, List.map_nil]); first | done | rfl | (simp only [List.length_drop, List.length_take]; rfl)) ?_; (with_reducible refine (vint_Source_Ok.calls g t227 t228 true t230 t231 w0 _ ?side1 ?side2 A6.out).mono ?_); (case side1 => repeat (first | (with_reducible first | exact HI0.out | apply IsS93.alloc | apply IsS93.drewN | apply IsS93.drew | apply IsS93.set_0 | apply IsS93.set_1) | exact HI0.out)); (case side2 => repeat (first | (with_reducible first | exact HB.out | apply below_alloc | apply pw_below_drewN | apply below_drew1 | refine below_set ?_ (IsS93.ge HI0.out)) | exact HB.out)); rintro e w9 ⟨rfl, hi, hb, hk⟩; refine ⟨_, rfl, ?_⟩; have n0_ := Aside0.mk (KeepBut.trans (by repeat (first | (with_reducible first | exact HK.out | apply KeepBut.set_ | apply keep_drewN | apply keep_drew | apply keep_alloc) | exact HK.out)) hk (.inl rfl)); have n1_ := Aside0.mk (hb); have n2_ := Aside0.mk (hi); clear HK; clear HB; clear HI0; have HK := n0_; have HB := n1_; have HI0 := n2_; clear n0_ n1_ n2_; (try clear hb); (try clear hb2); (try clear hk); (try clear hi)))
        go_meet
        case rel => exact ⟨_, (true), (t230), (t231), (Value.slice none 0 0), (by first | rfl | (simp; done) | (simp [*]; done)), H', ⟨by first | omega | exact Nat.le_refl _⟩, ⟨by repeat (first | (with_reducible first | exact HI0.out | apply IsS93.alloc | apply IsS93.drewN | apply IsS93.drew | apply IsS93.set_0 | apply IsS93.set_1) | exact HI0.out)⟩, ⟨by repeat (first | (with_reducible first | exact HK.out | apply KeepBut.set_ | apply keep_drewN | apply keep_drew | apply keep_alloc) | exact HK.out)⟩, ⟨by repeat (first | (with_reducible first | exact HB.out | apply below_alloc | apply pw_below_drewN | apply below_drew1 | refine below_set ?_ (IsS93.ge HI0.out)) | exact HB.out)⟩⟩
      · rw [if_neg c8] at H
        have c8b0 : decide (a1 < 0) = false := decide_eq_false c8
        clear c8
        (first | rw [c8b0] | (simp only [i64_w, i32_w]; rw [c8b0]) | skip)
        by_cases c10 : t226 > (IntKind.u64.wrap (a1))
        · rw [if_pos c10] at H
          have c10b0 : decide ((IntKind.u64.wrap (a1)) < t226) = true := decide_eq_true c10
          clear c10
          have H' := Aside0.mk H
          clear H
          go_wp2_with (first | ((with_reducible refine gate_callee (f := 41) rfl ?_); refine goesL_ (some 9) rfl rfl Try.func41 (by kernel_rfl) rfl #[.pointer (some ⟨g, 0, none⟩)] rfl (by (try simp only [List.map_toArray, List.map_cons, List.map_nil]); first | done | rfl | (simp only [List.length_drop, List.length_take]; rfl)) ?_; (with_reducible refine (vint_Source_Ok.calls g t227 t228 true t230 t231 w0 _ ?side1 ?side2 A6.out).mono ?_); (case side1 => repeat (first | (with_reducible first | exact HI0.out | apply IsS93.alloc | apply IsS93.drewN | apply IsS93.drew | apply IsS93.set_0 | apply IsS93.set_1) | exact HI0.out)); (case side2 => repeat (first | (with_reducible first | exact HB.out | apply below_alloc | apply pw_below_drewN | apply below_drew1 | refine below_set ?_ (IsS93.ge HI0.out)) | exact HB.out)); rintro e w11 ⟨rfl, hi, hb, hk⟩; refine ⟨_, rfl, ?_⟩; have n0_ := Aside0.mk (KeepBut.trans (by repeat (first | (with_reducible first | exact HK.out | apply KeepBut.set_ | apply keep_drewN | apply keep_drew | apply keep_alloc) | exact HK.out)) hk (.inl rfl)); have n1_ := Aside0.mk (hb); have n2_ := Aside0.mk (hi); clear HK; clear HB; clear HI0; have HK := n0_; have HB := n1_; have HI0 := n2_; clear n0_ n1_ n2_; (try clear hb); (try clear hb2); (try clear hk); (try clear hi)))
          go_meet
          case rel => exact ⟨_, (true), (t230), (t231), (Value.slice none 0 0), (by first | rfl | (simp; done) | (simp [*]; done)), H', ⟨by first | omega | exact Nat.le_refl _⟩, ⟨by repeat (first | (with_reducible first | exact HI0.out | apply IsS93.alloc | apply IsS93.drewN | apply IsS93.drew | apply IsS93.set_0 | apply IsS93.set_1) | exact HI0.out)⟩, ⟨by repeat (first | (with_reducible first | exact HK.out | apply KeepBut.set_ | apply keep_drewN | apply keep_drew | apply keep_alloc) | exact HK.out)⟩, ⟨by repeat (first | (with_reducible first | exact HB.out | apply below_alloc | apply pw_below_drewN | apply below_drew1 | refine below_set ?_ (IsS93.ge HI0.out)) | exact HB.out)⟩⟩
        · rw [if_neg c10] at H
          have c10b0 : decide ((IntKind.u64.wrap (a1)) < t226) = false := decide_eq_false c10
          clear c10
          have H' := Aside0.mk H
          clear H
          go_wp2_with (first | ((with_reducible refine gate_callee (f := 41) rfl ?_); refine goesL_ (some 9) rfl rfl Try.func41 (by kernel_rfl) rfl #[.pointer (some ⟨g, 0, none⟩)] rfl (by (try simp only [List.map_toArray, List.map_cons, List.map_nil]); first | done | rfl | (simp only [List.length_drop, List.length_take]; rfl)) ?_; (with_reducible refine (vint_Source_Ok.calls g t227 t228 true t230 t231 w0 _ ?side1 ?side2 A6.out).mono ?_); (case side1 => repeat (first | (with_reducible first | exact HI0.out | apply IsS93.alloc | apply IsS93.drewN | apply IsS93.drew | apply IsS93.set_0 | apply IsS93.set_1) | exact HI0.out)); (case side2 => repeat (first | (with_reducible first | exact HB.out | apply below_alloc | apply pw_below_drewN | apply below_drew1 | refine below_set ?_ (IsS93.ge HI0.out)) | exact HB.out)); rintro e w12 ⟨rfl, hi, hb, hk⟩; refine ⟨_, rfl, ?_⟩; have n0_ := Aside0.mk (KeepBut.trans (by repeat (first | (with_reducible first | exact HK.out | apply KeepBut.set_ | apply keep_drewN | apply keep_drew | apply keep_alloc) | exact HK.out)) hk (.inl rfl)); have n1_ := Aside0.mk (hb); have n2_ := Aside0.mk (hi); clear HK; clear HB; clear HI0; have HK := n0_; have HB := n1_; have HI0 := n2_; clear n0_ n1_ n2_; (try clear hb); (try clear hb2); (try clear hk); (try clear hi); obtain ⟨ASz13_0, cSz13_0, HGz13, hgz13, ⟨HSz13_0, _⟩⟩ := HI0.out; have hcz13_0 := cellS93_0 HGz13; have hcz13_1 := cellS93_1 HGz13; have hfz13_0 := blk_frozen HGz13 0; have hfz13_1 := blk_frozen HGz13 1; clear HGz13 hgz13))
          go_meet
          case rel => exact ⟨_, (decide (t226 > (IntKind.u64.wrap ((t230.length : Int))))), (t230), (t231), (Value.slice none 0 0), (by first | rfl | (simp; done) | (simp [*]; done)), H', ⟨by first | omega | exact Nat.le_refl _⟩, ⟨by repeat (first | (with_reducible first | exact HI0.out | apply IsS93.alloc | apply IsS93.drewN | apply IsS93.drew | apply IsS93.set_0 | apply IsS93.set_1) | exact HI0.out)⟩, ⟨by repeat (first | (with_reducible first | exact HK.out | apply KeepBut.set_ | apply keep_drewN | apply keep_drew | apply keep_alloc) | exact HK.out)⟩, ⟨by repeat (first | (with_reducible first | exact HB.out | apply below_alloc | apply pw_below_drewN | apply below_drew1 | refine below_set ?_ (IsS93.ge HI0.out)) | exact HB.out)⟩⟩
    · replace c7 := Bool.eq_false_iff.mpr c7
      subst c7
      have H1 : (vint_Source_Text.j0 k t226 true t230 t231) = some (r1, r2, r3) := by rw [if_neg (show ¬ (false = true) by decide)] at H; exact H
      clear H
      have H := H1
      clear H1
      have H' := Aside0.mk H
      clear H
      go_wp2_with (first | ((with_reducible refine gate_callee (f := 41) rfl ?_); refine goesL_ (some 9) rfl rfl Try.func41 (by kernel_rfl) rfl #[.pointer (some ⟨g, 0, none⟩)] rfl (by (try simp only [List.map_toArray, List.map_cons, List.map_nil]); first | done | rfl | (simp only [List.length_drop, List.length_take]; rfl)) ?_; (with_reducible refine (vint_Source_Ok.calls g t227 t228 false t230 t231 w0 _ ?side1 ?side2 A6.out).mono ?_); (case side1 => repeat (first | (with_reducible first | exact HI0.out | apply IsS93.alloc | apply IsS93.drewN | apply IsS93.drew | apply IsS93.set_0 | apply IsS93.set_1) | exact HI0.out)); (case side2 => repeat (first | (with_reducible first | exact HB.out | apply below_alloc | apply pw_below_drewN | apply below_drew1 | refine below_set ?_ (IsS93.ge HI0.out)) | exact HB.out)); rintro e w14 ⟨rfl, hi, hb, hk⟩; refine ⟨_, rfl, ?_⟩; have n0_ := Aside0.mk (KeepBut.trans (by repeat (first | (with_reducible first | exact HK.out | apply KeepBut.set_ | apply keep_drewN | apply keep_drew | apply keep_alloc) | exact HK.out)) hk (.inl rfl)); have n1_ := Aside0.mk (hb); have n2_ := Aside0.mk (hi); clear HK; clear HB; clear HI0; have HK := n0_; have HB := n1_; have HI0 := n2_; clear n0_ n1_ n2_; (try clear hb); (try clear hb2); (try clear hk); (try clear hi)))
      go_meet
      case rel => exact ⟨_, (true), (t230), (t231), (Value.slice none 0 0), (by first | rfl | (simp; done) | (simp [*]; done)), H', ⟨by first | omega | exact Nat.le_refl _⟩, ⟨by repeat (first | (with_reducible first | exact HI0.out | apply IsS93.alloc | apply IsS93.drewN | apply IsS93.drew | apply IsS93.set_0 | apply IsS93.set_1) | exact HI0.out)⟩, ⟨by repeat (first | (with_reducible first | exact HK.out | apply KeepBut.set_ | apply keep_drewN | apply keep_drew | apply keep_alloc) | exact HK.out)⟩, ⟨by repeat (first | (with_reducible first | exact HB.out | apply below_alloc | apply pw_below_drewN | apply below_drew1 | refine below_set ?_ (IsS93.ge HI0.out)) | exact HB.out)⟩⟩
  case rest =>
    clear HC4
    try clear c1
    try clear c2
    try clear p2
    try clear c3
    try clear c4
    try clear c7
    try clear c8
    try clear c8b0
    try clear c10
    try clear c10b0
    try clear hcz13_0
    try clear hcz13_1
    try clear hfz13_0
    try clear hfz13_1
    obtain ⟨kq, x30_3, x1000_3, x1001_3, u1000, rfl, HA, HJ3, HI0, HK, HB⟩ := hcut
    cases kq with
    | zero => exact absurd HA.out (by simp [vint_Source_Text.j0])
    | succ kj3 =>
      have H := HA.out
      clear HA
      simp only [vint_Source_Text.j0] at H
      by_cases c15 : x30_3 = true
      · subst c15
        have H1 : ((vint_Source_Fail.f x1000_3 x1001_3).bind fun bt232 => (some ((⟨#[]⟩ : ByteArray), bt232.1, bt232.2))) = some (r1, r2, r3) := by rw [if_pos rfl] at H; exact H
        clear H
        have H := H1
        clear H1
        replace H := Option.bind_eq_some_iff.mp H
        obtain ⟨⟨t232, t233⟩, A160, H⟩ := H
        replace H : (some ((⟨#[]⟩ : ByteArray), t232, t233)) = some (r1, r2, r3) := H
        have A16 := Aside0.mk A160
        clear A160
        simp only [Option.some.injEq, Prod.mk.injEq] at H
        obtain ⟨rfl, rfl, rfl⟩ := H
        go_wp2_with (first | ((with_reducible refine gate_callee (f := 39) rfl ?_); refine goesL_ (some 32) rfl rfl Try.func39 (by kernel_rfl) rfl #[.pointer (some ⟨g, 0, none⟩)] rfl (by (try simp only [List.map_toArray, List.map_cons, List.map_nil]); first | done | rfl | (simp only [List.length_drop, List.length_take]; rfl)) ?_; (with_reducible refine (vint_Source_Fail.calls g x1000_3 x1001_3 t232 t233 w0 _ ?side1 ?side2 A16.out).mono ?_); (case side1 => repeat (first | (with_reducible first | exact HI0.out | apply IsS93.alloc | apply IsS93.drewN | apply IsS93.drew | apply IsS93.set_0 | apply IsS93.set_1) | exact HI0.out)); (case side2 => repeat (first | (with_reducible first | exact HB.out | apply below_alloc | apply pw_below_drewN | apply below_drew1 | refine below_set ?_ (IsS93.ge HI0.out)) | exact HB.out)); rintro e w17 ⟨rfl, hi, hb, hk⟩; refine ⟨_, rfl, ?_⟩; have n0_ := Aside0.mk (KeepBut.trans (by repeat (first | (with_reducible first | exact HK.out | apply KeepBut.set_ | apply keep_drewN | apply keep_drew | apply keep_alloc) | exact HK.out)) hk (.inl rfl)); have n1_ := Aside0.mk (hb); have n2_ := Aside0.mk (hi); clear HK; clear HB; clear HI0; have HK := n0_; have HB := n1_; have HI0 := n2_; clear n0_ n1_ n2_; (try clear hb); (try clear hb2); (try clear hk); (try clear hi)))
        go_ret
        exact ⟨by first | rfl | (simp [errW_none, errW_some] <;> rfl) | (simp [*, errW_none, errW_some] <;> rfl), by repeat (first | (with_reducible first | exact HI0.out | apply IsS93.alloc | apply IsS93.drewN | apply IsS93.drew | apply IsS93.set_0 | apply IsS93.set_1) | exact HI0.out), by repeat (first | (with_reducible first | exact HB.out | apply below_alloc | apply pw_below_drewN | apply below_drew1 | refine below_set ?_ (IsS93.ge HI0.out)) | exact HB.out), by repeat (first | (with_reducible first | exact HK.out | apply KeepBut.set_ | apply keep_drewN | apply keep_drew | apply keep_alloc) | exact HK.out)⟩
      · replace c15 := Bool.eq_false_iff.mpr c15
        subst c15
        have H1 : ((vint_Source_Take.f x1000_3 x1001_3 (wrap64 (t226))).bind fun bt234 => (some (strOfNums bt234.1, bt234.2.1, bt234.2.2))) = some (r1, r2, r3) := by rw [if_neg (show ¬ (false = true) by decide)] at H; exact H
        clear H
        have H := H1
        clear H1
        replace H := Option.bind_eq_some_iff.mp H
        obtain ⟨⟨t234, t237, t238⟩, A180, H⟩ := H
        replace H : (some (strOfNums t234, t237, t238)) = some (r1, r2, r3) := H
        have A18 := Aside0.mk A180
        clear A180
        simp only [Option.some.injEq, Prod.mk.injEq] at H
        obtain ⟨rfl, rfl, rfl⟩ := H
        go_wp2_with (first | ((with_reducible refine gate_callee (f := 37) rfl ?_); refine goesL_ (some 36) rfl rfl Try.func37 (by kernel_rfl) rfl #[.pointer (some ⟨g, 0, none⟩), .int .i64 (wrap64 (t226))] rfl (by (try simp only [List.map_toArray, List.map_cons, List.map_nil]); first | done | rfl | (simp only [List.length_drop, List.length_take]; rfl)) ?_; (with_reducible refine (vint_Source_Take.calls g x1000_3 x1001_3 (wrap64 (t226)) t234 t237 t238 w0 _ ?side1 ?side2 A18.out).mono ?_); (case side1 => repeat (first | (with_reducible first | exact HI0.out | apply IsS93.alloc | apply IsS93.drewN | apply IsS93.drew | apply IsS93.set_0 | apply IsS93.set_1) | exact HI0.out)); (case side2 => repeat (first | (with_reducible first | exact HB.out | apply below_alloc | apply pw_below_drewN | apply below_drew1 | refine below_set ?_ (IsS93.ge HI0.out)) | exact HB.out)); rintro e w19 ⟨v235, rfl, ho0, hi, hb, hk⟩; refine ⟨_, rfl, ?_⟩; have n0_ := Aside0.mk (Kd.R_lower ho0 (keep_size (w := w) (g := g) (row := none) (by repeat (first | (with_reducible first | exact HK.out | apply KeepBut.set_ | apply keep_drewN | apply keep_drew | apply keep_alloc) | exact HK.out)))); have n1_ := Aside0.mk (KeepBut.trans (by repeat (first | (with_reducible first | exact HK.out | apply KeepBut.set_ | apply keep_drewN | apply keep_drew | apply keep_alloc) | exact HK.out)) hk (.inl rfl)); have n2_ := Aside0.mk (hb); have n3_ := Aside0.mk (hi); clear HK; clear HB; clear HI0; have HO236 := n0_; have HK := n1_; have HB := n2_; have HI0 := n3_; clear n0_ n1_ n2_ n3_; (try clear hb); (try clear hb2); (try clear hk); (try clear hi); (try clear ho0); have hcv20 := own_string (P := Try.prog) Try.underlying31 Try.underlying5 Try.underlying9 (Kd.own_of_R HO236.out)))
        go_ret
        exact ⟨by first | rfl | (simp [errW_none, errW_some] <;> rfl) | (simp [*, errW_none, errW_some] <;> rfl), by repeat (first | (with_reducible first | exact HI0.out | apply IsS93.alloc | apply IsS93.drewN | apply IsS93.drew | apply IsS93.set_0 | apply IsS93.set_1) | exact HI0.out), by repeat (first | (with_reducible first | exact HB.out | apply below_alloc | apply pw_below_drewN | apply below_drew1 | refine below_set ?_ (IsS93.ge HI0.out)) | exact HB.out), by repeat (first | (with_reducible first | exact HK.out | apply KeepBut.set_ | apply keep_drewN | apply keep_drew | apply keep_alloc) | exact HK.out)⟩

/-! ### cell_Take: function 65 -/
def cell_Take.j0 : Nat → Int → List Int → Bool → Bool → Int → ByteArray → Option (Bool × Int × ByteArray × List Int × Bool)
  | 0, _, _, _, _, _, _ => none
  | k + 1, x1, x1000, x1001, x241000, x241001, x241002 => (vint_Source_Ok.f x1000 x1001).bind fun bt250 => (if bt250.1 = true then ((cell_May.f x1 true x241000 x241001 x241002).bind fun t253 => (if t253 = true then (some (x241000, x241001, x241002, bt250.2.1, bt250.2.2)) else ((vint_Source_Fail.f bt250.2.1 bt250.2.2).bind fun bt254 => (some (false, 0, (⟨#[]⟩ : ByteArray), bt254.1, bt254.2))))) else ((vint_Source_Fail.f bt250.2.1 bt250.2.2).bind fun bt256 => (some (false, 0, (⟨#[]⟩ : ByteArray), bt256.1, bt256.2))))
def cell_Take.f (k : Nat) (s0_0 : List Int) (s0_1 : Bool) (a1 : Int) : Option (Bool × Int × ByteArray × List Int × Bool) := (vint_Source_Below.f s0_0 s0_1 2).bind fun bt241 => (if bt241.1 = 0 then (cell_Take.j0 k a1 bt241.2.1 bt241.2.2 true 0 (⟨#[]⟩ : ByteArray)) else (if a1 = 3 then ((vint_Source_Text.f k bt241.2.1 bt241.2.2 40).bind fun bt244 => (cell_Take.j0 k a1 bt244.2.1 bt244.2.2 false 0 bt244.1)) else ((vint_Source_Int.f bt241.2.1 bt241.2.2).bind fun bt247 => (cell_Take.j0 k a1 bt247.2.1 bt247.2.2 false bt247.1 (⟨#[]⟩ : ByteArray)))))
theorem cell_Take.mono_l : ∀ k, (∀ y0 y1 y2 y3 y4 y5, LeO (cell_Take.j0 k y0 y1 y2 y3 y4 y5) (cell_Take.j0 (k + 1) y0 y1 y2 y3 y4 y5))
  | 0 => fun _ _ _ _ _ _ r h => by simp [cell_Take.j0] at h
  | k + 1 => by
    have ih0 := cell_Take.mono_l k
    · intro y0 y1 y2 y3 y4 y5
      unfold cell_Take.j0
      repeat' first
      | (with_reducible exact ih0 _ _ _ _ _ _)
      | (with_reducible exact vint_Source_Text.mono _ _ _ _)
      | (with_reducible exact LeO.refl _)
      | (with_reducible exact LeO.none _)
      | (with_reducible refine LeO.ite ?_ ?_)
      | (with_reducible refine LeO.bind ?_ (fun _ => ?_))
      | exact ih0 _ _ _ _ _ _
      | exact vint_Source_Text.mono _ _ _ _
      | exact LeO.none _
      | refine LeO.ite ?_ ?_
      | refine LeO.bind ?_ (fun _ => ?_)
theorem cell_Take.mono : ∀ a0 a1 a2 k, LeO (cell_Take.f k a0 a1 a2) (cell_Take.f (k + 1) a0 a1 a2) := by
  intro a0 a1 a2 k
  have ih0 := cell_Take.mono_l k
  unfold cell_Take.f
  repeat' first
      | (with_reducible exact ih0 _ _ _ _ _ _)
      | (with_reducible exact vint_Source_Text.mono _ _ _ _)
      | (with_reducible exact LeO.refl _)
      | (with_reducible exact LeO.none _)
      | (with_reducible refine LeO.ite ?_ ?_)
      | (with_reducible refine LeO.bind ?_ (fun _ => ?_))
      | exact ih0 _ _ _ _ _ _
      | exact vint_Source_Text.mono _ _ _ _
      | exact LeO.none _
      | refine LeO.ite ?_ ?_
      | refine LeO.bind ?_ (fun _ => ?_)
set_option maxHeartbeats 8000000 in
set_option maxRecDepth 100000 in
theorem cell_Take.calls (k : Nat) (g : Nat) (s0_0 : List Int) (s0_1 : Bool) (a1 : Int) (r1 : Bool) (r2 : Int) (r3 : ByteArray) (r4 : List Int) (r5 : Bool) (w0 w : World) (hI : IsS93 w0 w g s0_0 s0_1) (hB : Below w0.heap.size w0 w) (h : cell_Take.f k s0_0 s0_1 a1 = some (r1, r2, r3, r4, r5)) :
    Calls Try.prog 65 #[.pointer (some ⟨g, 0, none⟩), .int .i64 a1] w fun e w' => e = .returned (.agg #[.bool r1, .int .i64 r2, .string r3]) ∧ IsS93 w0 w' g r4 r5 ∧ Below w0.heap.size w0 w' ∧ KeepBut w w' g none := by
  have hu23 := Try.underlying23
  have HI0 := Aside0.mk hI
  have HK := Aside0.mk (KeepBut.refl w g none)
  have HL := Aside0.mk hB.size
  clear hI
  have HW0 := Aside0.mk hB.size
  have HB := Aside0.mk hB
  clear hB
  have H : ((vint_Source_Below.f s0_0 s0_1 2).bind fun bt241 => (if bt241.1 = 0 then (cell_Take.j0 k a1 bt241.2.1 bt241.2.2 true 0 (⟨#[]⟩ : ByteArray)) else (if a1 = 3 then ((vint_Source_Text.f k bt241.2.1 bt241.2.2 40).bind fun bt244 => (cell_Take.j0 k a1 bt244.2.1 bt244.2.2 false 0 bt244.1)) else ((vint_Source_Int.f bt241.2.1 bt241.2.2).bind fun bt247 => (cell_Take.j0 k a1 bt247.2.1 bt247.2.2 false bt247.1 (⟨#[]⟩ : ByteArray)))))) = some (r1, r2, r3, r4, r5) := h
  clear h
  replace H := Option.bind_eq_some_iff.mp H
  obtain ⟨⟨t241, t242, t243⟩, A30, H⟩ := H
  replace H : (if t241 = 0 then (cell_Take.j0 k a1 t242 t243 true 0 (⟨#[]⟩ : ByteArray)) else (if a1 = 3 then ((vint_Source_Text.f k t242 t243 40).bind fun bt244 => (cell_Take.j0 k a1 bt244.2.1 bt244.2.2 false 0 bt244.1)) else ((vint_Source_Int.f t242 t243).bind fun bt247 => (cell_Take.j0 k a1 bt247.2.1 bt247.2.2 false bt247.1 (⟨#[]⟩ : ByteArray))))) = some (r1, r2, r3, r4, r5) := H
  have A3 := Aside0.mk A30
  clear A30
  have HC4 := Aside0.mk H
  clear H
  go_enter Try.func65, Try.ntmps65
  go_upto_block 0 with (first | ((with_reducible refine gate_dst (N := 4) rfl ?_); refine box_event ?hg (N := 4) ?hd (cs := #[.bool false, .int .i64 0, .string (⟨#[]⟩ : ByteArray)]) (t := 23) ?hr ?_; (case hd => rfl); (case hg => rfl); (case hr => first | (go_simp; done) | (go_simp; rfl)); intro gb239 hg w5 hbox hb; have n0_ := Aside0.mk (IsS93.below (by repeat (first | (with_reducible first | exact HI0.out | apply IsS93.alloc | apply IsS93.drewN | apply IsS93.drew | apply IsS93.set_0 | apply IsS93.set_1) | exact HI0.out)) hb); have n1_ := Aside0.mk (KeepBut.trans (by repeat (first | (with_reducible first | exact HK.out | apply KeepBut.set_ | apply keep_drewN | apply keep_drew | apply keep_alloc) | exact HK.out)) (KeepBut.of_below hb g none) (.inl rfl)); have n2_ := Aside0.mk (below_step (by repeat (first | (with_reducible first | exact HB.out | apply below_alloc | apply pw_below_drewN | apply below_drew1 | refine below_set ?_ (IsS93.ge HI0.out)) | exact HB.out)) hb); have n3_ := Aside0.mk (hbox); have n4_ := Aside0.mk ((by rw [hg]; exact (keep_size (w := w) (g := g) (row := none) (by repeat (first | (with_reducible first | exact HK.out | apply KeepBut.set_ | apply keep_drewN | apply keep_drew | apply keep_alloc) | exact HK.out))) : w.heap.size ≤ gb239)); have n5_ := Aside0.mk ((Nat.le_trans HW0.out (by rw [hg]; exact (keep_size (w := w) (g := g) (row := none) (by repeat (first | (with_reducible first | exact HK.out | apply KeepBut.set_ | apply keep_drewN | apply keep_drew | apply keep_alloc) | exact HK.out))) : w.heap.size ≤ gb239) : w0.heap.size ≤ gb239)); have n6_ := Aside0.mk ((by rw [hg]; exact Nat.ne_of_lt (IsS93.lt (show IsS93 w0 _ g s0_0 s0_1 from by repeat (first | (with_reducible first | exact HI0.out | apply IsS93.alloc | apply IsS93.drewN | apply IsS93.drew | apply IsS93.set_0 | apply IsS93.set_1) | exact HI0.out))) : g ≠ gb239)); have n7_ := Aside0.mk ((by rw [hg]; exact Nat.ne_of_gt (IsS93.lt (show IsS93 w0 _ g s0_0 s0_1 from by repeat (first | (with_reducible first | exact HI0.out | apply IsS93.alloc | apply IsS93.drewN | apply IsS93.drew | apply IsS93.set_0 | apply IsS93.set_1) | exact HI0.out))) : gb239 ≠ g)); clear HI0; clear HK; clear HB; have HI0 := n0_; have HK := n1_; have HB := n2_; have BK239 := n3_; have GW239 := n4_; have GE239 := n5_; have NB0_239 := n6_; have NB239_0 := n7_; clear n0_ n1_ n2_ n3_ n4_ n5_ n6_ n7_; clear hb hbox hg) | ((with_reducible refine gate_dst (N := 5) rfl ?_); refine box_event ?hg (N := 5) ?hd (cs := #[.bool false, .int .i64 0, .string (⟨#[]⟩ : ByteArray)]) (t := 23) ?hr ?_; (case hd => rfl); (case hg => rfl); (case hr => first | (go_simp; done) | (go_simp; rfl)); intro gb240 hg w6 hbox hb; have n0_ := Aside0.mk (IsS93.below (by repeat (first | (with_reducible first | exact HI0.out | apply IsS93.alloc | apply IsS93.drewN | apply IsS93.drew | apply IsS93.set_0 | apply IsS93.set_1 | apply IsS93.far (p := ⟨gb239, _, none⟩) (hne := NB0_239.out)) | exact HI0.out)) hb); have n1_ := Aside0.mk (blk_below (g := gb239) (o := .cells #[.bool false, .int .i64 0, .string (⟨#[]⟩ : ByteArray)] 23 (0, 0)) (by (with_reducible repeat (first | refine blk_drewN ?_ _ | refine blk_drew ?_ | refine blk_alloc ?_ _)); exact BK239.out) hb); have n2_ := Aside0.mk (KeepBut.trans (by repeat (first | (with_reducible first | exact HK.out | apply KeepBut.set_ | apply keep_drewN | apply keep_drew | apply keep_alloc | refine keep_far ?_ GW239.out _) | exact HK.out)) (KeepBut.of_below hb g none) (.inl rfl)); have n3_ := Aside0.mk (below_step (by repeat (first | (with_reducible first | exact HB.out | apply below_alloc | apply pw_below_drewN | apply below_drew1 | refine below_set ?_ (IsS93.ge HI0.out) | refine below_set ?_ GE239.out) | exact HB.out)) hb); have n4_ := Aside0.mk (hbox); have n5_ := Aside0.mk ((by rw [hg]; exact (keep_size (w := w) (g := g) (row := none) (by repeat (first | (with_reducible first | exact HK.out | apply KeepBut.set_ | apply keep_drewN | apply keep_drew | apply keep_alloc | refine keep_far ?_ GW239.out _) | exact HK.out))) : w.heap.size ≤ gb240)); have n6_ := Aside0.mk ((Nat.le_trans HW0.out (by rw [hg]; exact (keep_size (w := w) (g := g) (row := none) (by repeat (first | (with_reducible first | exact HK.out | apply KeepBut.set_ | apply keep_drewN | apply keep_drew | apply keep_alloc | refine keep_far ?_ GW239.out _) | exact HK.out))) : w.heap.size ≤ gb240) : w0.heap.size ≤ gb240)); have n7_ := Aside0.mk ((by rw [hg]; exact Nat.ne_of_lt (blk_lt (g := gb239) (o := .cells #[.bool false, .int .i64 0, .string (⟨#[]⟩ : ByteArray)] 23 (0, 0)) (by (with_reducible repeat (first | refine blk_drewN ?_ _ | refine blk_drew ?_ | refine blk_alloc ?_ _)); exact BK239.out)) : gb239 ≠ gb240)); have n8_ := Aside0.mk ((by rw [hg]; exact Nat.ne_of_gt (blk_lt (g := gb239) (o := .cells #[.bool false, .int .i64 0, .string (⟨#[]⟩ : ByteArray)] 23 (0, 0)) (by (with_reducible repeat (first | refine blk_drewN ?_ _ | refine blk_drew ?_ | refine blk_alloc ?_ _)); exact BK239.out)) : gb240 ≠ gb239)); have n9_ := Aside0.mk ((by rw [hg]; exact Nat.ne_of_lt (IsS93.lt (show IsS93 w0 _ g s0_0 s0_1 from by repeat (first | (with_reducible first | exact HI0.out | apply IsS93.alloc | apply IsS93.drewN | apply IsS93.drew | apply IsS93.set_0 | apply IsS93.set_1 | apply IsS93.far (p := ⟨gb239, _, none⟩) (hne := NB0_239.out)) | exact HI0.out))) : g ≠ gb240)); have n10_ := Aside0.mk ((by rw [hg]; exact Nat.ne_of_gt (IsS93.lt (show IsS93 w0 _ g s0_0 s0_1 from by repeat (first | (with_reducible first | exact HI0.out | apply IsS93.alloc | apply IsS93.drewN | apply IsS93.drew | apply IsS93.set_0 | apply IsS93.set_1 | apply IsS93.far (p := ⟨gb239, _, none⟩) (hne := NB0_239.out)) | exact HI0.out))) : gb240 ≠ g)); clear HI0; clear BK239; clear HK; clear HB; have HI0 := n0_; have BK239 := n1_; have HK := n2_; have HB := n3_; have BK240 := n4_; have GW240 := n5_; have GE240 := n6_; have NB239_240 := n7_; have NB240_239 := n8_; have NB0_240 := n9_; have NB240_0 := n10_; clear n0_ n1_ n2_ n3_ n4_ n5_ n6_ n7_ n8_ n9_ n10_; clear hb hbox hg) | ((with_reducible refine gate_callee (f := 33) rfl ?_); refine goesL_ (some 8) rfl rfl Try.func33 (by kernel_rfl) rfl #[.pointer (some ⟨g, 0, none⟩), .int .i64 2] rfl (by (try simp only [List.map_toArray, List.map_cons, List.map_nil]); first | done | rfl | (simp only [List.length_drop, List.length_take]; rfl)) ?_; (with_reducible refine (vint_Source_Below.calls g s0_0 s0_1 2 t241 t242 t243 w0 _ ?side1 ?side2 A3.out).mono ?_); (case side1 => repeat (first | (with_reducible first | exact HI0.out | apply IsS93.alloc | apply IsS93.drewN | apply IsS93.drew | apply IsS93.set_0 | apply IsS93.set_1 | apply IsS93.far (p := ⟨gb239, _, none⟩) (hne := NB0_239.out) | apply IsS93.far (p := ⟨gb240, _, none⟩) (hne := NB0_240.out)) | exact HI0.out)); (case side2 => repeat (first | (with_reducible first | exact HB.out | apply below_alloc | apply pw_below_drewN | apply below_drew1 | refine below_set ?_ (IsS93.ge HI0.out) | refine below_set ?_ GE239.out | refine below_set ?_ GE240.out) | exact HB.out)); rintro e w7 ⟨rfl, hi, hb, hk⟩; refine ⟨_, rfl, ?_⟩; have n0_ := Aside0.mk (KeepBut.blk hk (g' := gb239) (o := .cells #[.bool false, .int .i64 0, .string (⟨#[]⟩ : ByteArray)] 23 (0, 0)) (by (with_reducible repeat (first | refine blk_drewN ?_ _ | refine blk_drew ?_ | refine blk_alloc ?_ _)); exact BK239.out) NB239_0.out (by simp)); have n1_ := Aside0.mk (KeepBut.blk hk (g' := gb240) (o := .cells #[.bool false, .int .i64 0, .string (⟨#[]⟩ : ByteArray)] 23 (0, 0)) (by (with_reducible repeat (first | refine blk_drewN ?_ _ | refine blk_drew ?_ | refine blk_alloc ?_ _)); exact BK240.out) NB240_0.out (by simp)); have n2_ := Aside0.mk (KeepBut.trans (by repeat (first | (with_reducible first | exact HK.out | apply KeepBut.set_ | apply keep_drewN | apply keep_drew | apply keep_alloc | refine keep_far ?_ GW239.out _ | refine keep_far ?_ GW240.out _) | exact HK.out)) hk (.inl rfl)); have n3_ := Aside0.mk (hb); have n4_ := Aside0.mk (hi); clear BK239; clear BK240; clear HK; clear HB; clear HI0; have BK239 := n0_; have BK240 := n1_; have HK := n2_; have HB := n3_; have HI0 := n4_; clear n0_ n1_ n2_ n3_ n4_; (try clear hb); (try clear hb2); (try clear hk); (try clear hi)))
  (try simp only [Act.put, List.setIfInBounds_toArray, List.set_cons_zero, List.set_cons_succ])
  go_cut [] (fun wc => ∃ (kq : Nat) (x1000_3 : List Int) (x1001_3 : Bool) (x241000_3 : Bool) (x241001_3 : Int) (x241002_3 : ByteArray) (u1000 : Value), Aside0 (cell_Take.j0 kq a1 x1000_3 x1001_3 x241000_3 x241001_3 x241002_3 = some (r1, r2, r3, r4, r5)) ∧ Aside0 (kq ≤ k) ∧ Aside0 (wc.heap[gb239]? = some (.cells #[.bool false, .int .i64 0, .string (⟨#[]⟩ : ByteArray)] 23 (0, 0))) ∧ Aside0 (wc.heap[gb240]? = some (.cells #[.bool x241000_3, .int .i64 x241001_3, .string x241002_3] 23 (0, 0))) ∧ Aside0 (IsS93 w0 wc g x1000_3 x1001_3) ∧ Aside0 (KeepBut w wc g none) ∧ Aside0 (Below w0.heap.size w0 wc))
  case first =>
    have H := HC4.out
    clear HC4
    by_cases c8 : t241 = 0
    · rw [if_pos c8] at H
      have c8b0 : (t241 == 0) = true := beq_iff_eq.mpr c8
      have c8b1 : (t241 != 0) = false := bne_eq_false_iff_eq.mpr c8
      clear c8
      (first | rw [c8b0] | (simp only [i64_w, i32_w]; rw [c8b0]) | skip)
      have H' := Aside0.mk H
      clear H
      have hnb9 := NB240_239.out
      have hnc9 := NB239_240.out
      have hnb10 := NB240_0.out
      have hnc10 := NB0_240.out
      have hcz11_0 : w7.cell? ⟨gb240, 0, none⟩ = some (.bool false) := (blk_cell BK240.out 0).trans rfl
      have hcz11_1 : w7.cell? ⟨gb240, 1, none⟩ = some (.int .i64 0) := (blk_cell BK240.out 1).trans rfl
      have hcz11_2 : w7.cell? ⟨gb240, 2, none⟩ = some (.string (⟨#[]⟩ : ByteArray)) := (blk_cell BK240.out 2).trans rfl
      have hfz11_0 := blk_frozen BK240.out 0
      have hfz11_1 := blk_frozen BK240.out 1
      have hfz11_2 := blk_frozen BK240.out 2
      go_wp2
      go_meet
      case rel => exact ⟨_, (t242), (t243), (true), (0), ((⟨#[]⟩ : ByteArray)), (Value.slice none 0 0), H', ⟨by first | omega | exact Nat.le_refl _⟩, ⟨by (with_reducible repeat (first | refine blk_drewN ?_ _ | refine blk_drew ?_ | refine blk_alloc ?_ _)); refine blk_far ?_ NB239_240.out _; (with_reducible repeat (first | refine blk_drewN ?_ _ | refine blk_drew ?_ | refine blk_alloc ?_ _)); exact BK239.out⟩, ⟨by (with_reducible repeat (first | refine blk_drewN ?_ _ | refine blk_drew ?_ | refine blk_alloc ?_ _)); refine blk_put (cs := #[.bool false, .int .i64 0, .string (⟨#[]⟩ : ByteArray)]) ?_ 0 _ rfl; (with_reducible repeat (first | refine blk_drewN ?_ _ | refine blk_drew ?_ | refine blk_alloc ?_ _)); exact BK240.out⟩, ⟨by repeat (first | (with_reducible first | exact HI0.out | apply IsS93.alloc | apply IsS93.drewN | apply IsS93.drew | apply IsS93.set_0 | apply IsS93.set_1 | apply IsS93.far (p := ⟨gb239, _, none⟩) (hne := NB0_239.out) | apply IsS93.far (p := ⟨gb240, _, none⟩) (hne := NB0_240.out)) | exact HI0.out)⟩, ⟨by repeat (first | (with_reducible first | exact HK.out | apply KeepBut.set_ | apply keep_drewN | apply keep_drew | apply keep_alloc | refine keep_far ?_ GW239.out _ | refine keep_far ?_ GW240.out _) | exact HK.out)⟩, ⟨by repeat (first | (with_reducible first | exact HB.out | apply below_alloc | apply pw_below_drewN | apply below_drew1 | refine below_set ?_ (IsS93.ge HI0.out) | refine below_set ?_ GE239.out | refine below_set ?_ GE240.out) | exact HB.out)⟩⟩
    · rw [if_neg c8] at H
      have c8b0 : (t241 == 0) = false := beq_eq_false_iff_ne.mpr c8
      have c8b1 : (t241 != 0) = true := bne_iff_ne.mpr c8
      (first | rw [c8b0] | (simp only [i64_w, i32_w]; rw [c8b0]) | skip)
      by_cases c12 : a1 = 3
      · rw [if_pos c12] at H
        have c12b0 : (a1 == 3) = true := beq_iff_eq.mpr c12
        have c12b1 : (a1 != 3) = false := bne_eq_false_iff_eq.mpr c12
        clear c12
        replace H := Option.bind_eq_some_iff.mp H
        obtain ⟨⟨t244, t245, t246⟩, A130, H⟩ := H
        replace H : (cell_Take.j0 k a1 t245 t246 false 0 t244) = some (r1, r2, r3, r4, r5) := H
        have A13 := Aside0.mk A130
        clear A130
        have H' := Aside0.mk H
        clear H
        go_wp2_with (first | ((with_reducible refine gate_callee (f := 35) rfl ?_); refine goesL_ (some 20) rfl rfl Try.func35 (by kernel_rfl) rfl #[.pointer (some ⟨g, 0, none⟩), .int .i64 40] rfl (by (try simp only [List.map_toArray, List.map_cons, List.map_nil]); first | done | rfl | (simp only [List.length_drop, List.length_take]; rfl)) ?_; (with_reducible refine (vint_Source_Text.calls k g t242 t243 40 t244 t245 t246 w0 _ ?side1 ?side2 A13.out).mono ?_); (case side1 => repeat (first | (with_reducible first | exact HI0.out | apply IsS93.alloc | apply IsS93.drewN | apply IsS93.drew | apply IsS93.set_0 | apply IsS93.set_1 | apply IsS93.far (p := ⟨gb239, _, none⟩) (hne := NB0_239.out) | apply IsS93.far (p := ⟨gb240, _, none⟩) (hne := NB0_240.out)) | exact HI0.out)); (case side2 => repeat (first | (with_reducible first | exact HB.out | apply below_alloc | apply pw_below_drewN | apply below_drew1 | refine below_set ?_ (IsS93.ge HI0.out) | refine below_set ?_ GE239.out | refine below_set ?_ GE240.out) | exact HB.out)); rintro e w14 ⟨rfl, hi, hb, hk⟩; refine ⟨_, rfl, ?_⟩; have n0_ := Aside0.mk (KeepBut.blk hk (g' := gb239) (o := .cells #[.bool false, .int .i64 0, .string (⟨#[]⟩ : ByteArray)] 23 (0, 0)) (by (with_reducible repeat (first | refine blk_drewN ?_ _ | refine blk_drew ?_ | refine blk_alloc ?_ _)); exact BK239.out) NB239_0.out (by simp)); have n1_ := Aside0.mk (KeepBut.blk hk (g' := gb240) (o := .cells #[.bool false, .int .i64 0, .string (⟨#[]⟩ : ByteArray)] 23 (0, 0)) (by (with_reducible repeat (first | refine blk_drewN ?_ _ | refine blk_drew ?_ | refine blk_alloc ?_ _)); exact BK240.out) NB240_0.out (by simp)); have n2_ := Aside0.mk (KeepBut.trans (by repeat (first | (with_reducible first | exact HK.out | apply KeepBut.set_ | apply keep_drewN | apply keep_drew | apply keep_alloc | refine keep_far ?_ GW239.out _ | refine keep_far ?_ GW240.out _) | exact HK.out)) hk (.inl rfl)); have n3_ := Aside0.mk (hb); have n4_ := Aside0.mk (hi); clear BK239; clear BK240; clear HK; clear HB; clear HI0; have BK239 := n0_; have BK240 := n1_; have HK := n2_; have HB := n3_; have HI0 := n4_; clear n0_ n1_ n2_ n3_ n4_; (try clear hb); (try clear hb2); (try clear hk); (try clear hi); have hnb15 := NB240_239.out; have hnc15 := NB239_240.out; have hnb16 := NB240_0.out; have hnc16 := NB0_240.out; have hcz17_0 : w14.cell? ⟨gb240, 0, none⟩ = some (.bool false) := (blk_cell BK240.out 0).trans rfl; have hcz17_1 : w14.cell? ⟨gb240, 1, none⟩ = some (.int .i64 0) := (blk_cell BK240.out 1).trans rfl; have hcz17_2 : w14.cell? ⟨gb240, 2, none⟩ = some (.string (⟨#[]⟩ : ByteArray)) := (blk_cell BK240.out 2).trans rfl; have hfz17_0 := blk_frozen BK240.out 0; have hfz17_1 := blk_frozen BK240.out 1; have hfz17_2 := blk_frozen BK240.out 2))
        go_meet
        case rel => exact ⟨_, (t245), (t246), (false), (0), (t244), (Value.slice none 0 0), H', ⟨by first | omega | exact Nat.le_refl _⟩, ⟨by (with_reducible repeat (first | refine blk_drewN ?_ _ | refine blk_drew ?_ | refine blk_alloc ?_ _)); refine blk_far ?_ NB239_240.out _; (with_reducible repeat (first | refine blk_drewN ?_ _ | refine blk_drew ?_ | refine blk_alloc ?_ _)); exact BK239.out⟩, ⟨by (with_reducible repeat (first | refine blk_drewN ?_ _ | refine blk_drew ?_ | refine blk_alloc ?_ _)); refine blk_put (cs := #[.bool false, .int .i64 0, .string (⟨#[]⟩ : ByteArray)]) ?_ 2 _ rfl; (with_reducible repeat (first | refine blk_drewN ?_ _ | refine blk_drew ?_ | refine blk_alloc ?_ _)); exact BK240.out⟩, ⟨by repeat (first | (with_reducible first | exact HI0.out | apply IsS93.alloc | apply IsS93.drewN | apply IsS93.drew | apply IsS93.set_0 | apply IsS93.set_1 | apply IsS93.far (p := ⟨gb239, _, none⟩) (hne := NB0_239.out) | apply IsS93.far (p := ⟨gb240, _, none⟩) (hne := NB0_240.out)) | exact HI0.out)⟩, ⟨by repeat (first | (with_reducible first | exact HK.out | apply KeepBut.set_ | apply keep_drewN | apply keep_drew | apply keep_alloc | refine keep_far ?_ GW239.out _ | refine keep_far ?_ GW240.out _) | exact HK.out)⟩, ⟨by repeat (first | (with_reducible first | exact HB.out | apply below_alloc | apply pw_below_drewN | apply below_drew1 | refine below_set ?_ (IsS93.ge HI0.out) | refine below_set ?_ GE239.out | refine below_set ?_ GE240.out) | exact HB.out)⟩⟩
      · rw [if_neg c12] at H
        have c12b0 : (a1 == 3) = false := beq_eq_false_iff_ne.mpr c12
        have c12b1 : (a1 != 3) = true := bne_iff_ne.mpr c12
        replace H := Option.bind_eq_some_iff.mp H
        obtain ⟨⟨t247, t248, t249⟩, A180, H⟩ := H
        replace H : (cell_Take.j0 k a1 t248 t249 false t247 (⟨#[]⟩ : ByteArray)) = some (r1, r2, r3, r4, r5) := H
        have A18 := Aside0.mk A180
        clear A180
        have H' := Aside0.mk H
        clear H
        go_wp2_with (first | ((with_reducible refine gate_callee (f := 31) rfl ?_); refine goesL_ (some 10) rfl rfl Try.func31 (by kernel_rfl) rfl #[.pointer (some ⟨g, 0, none⟩)] rfl (by (try simp only [List.map_toArray, List.map_cons, List.map_nil]); first | done | rfl | (simp only [List.length_drop, List.length_take]; rfl)) ?_; (with_reducible refine (vint_Source_Int.calls g t242 t243 t247 t248 t249 w0 _ ?side1 ?side2 A18.out).mono ?_); (case side1 => repeat (first | (with_reducible first | exact HI0.out | apply IsS93.alloc | apply IsS93.drewN | apply IsS93.drew | apply IsS93.set_0 | apply IsS93.set_1 | apply IsS93.far (p := ⟨gb239, _, none⟩) (hne := NB0_239.out) | apply IsS93.far (p := ⟨gb240, _, none⟩) (hne := NB0_240.out)) | exact HI0.out)); (case side2 => repeat (first | (with_reducible first | exact HB.out | apply below_alloc | apply pw_below_drewN | apply below_drew1 | refine below_set ?_ (IsS93.ge HI0.out) | refine below_set ?_ GE239.out | refine below_set ?_ GE240.out) | exact HB.out)); rintro e w19 ⟨rfl, hi, hb, hk⟩; refine ⟨_, rfl, ?_⟩; have n0_ := Aside0.mk (KeepBut.blk hk (g' := gb239) (o := .cells #[.bool false, .int .i64 0, .string (⟨#[]⟩ : ByteArray)] 23 (0, 0)) (by (with_reducible repeat (first | refine blk_drewN ?_ _ | refine blk_drew ?_ | refine blk_alloc ?_ _)); exact BK239.out) NB239_0.out (by simp)); have n1_ := Aside0.mk (KeepBut.blk hk (g' := gb240) (o := .cells #[.bool false, .int .i64 0, .string (⟨#[]⟩ : ByteArray)] 23 (0, 0)) (by (with_reducible repeat (first | refine blk_drewN ?_ _ | refine blk_drew ?_ | refine blk_alloc ?_ _)); exact BK240.out) NB240_0.out (by simp)); have n2_ := Aside0.mk (KeepBut.trans (by repeat (first | (with_reducible first | exact HK.out | apply KeepBut.set_ | apply keep_drewN | apply keep_drew | apply keep_alloc | refine keep_far ?_ GW239.out _ | refine keep_far ?_ GW240.out _) | exact HK.out)) hk (.inl rfl)); have n3_ := Aside0.mk (hb); have n4_ := Aside0.mk (hi); clear BK239; clear BK240; clear HK; clear HB; clear HI0; have BK239 := n0_; have BK240 := n1_; have HK := n2_; have HB := n3_; have HI0 := n4_; clear n0_ n1_ n2_ n3_ n4_; (try clear hb); (try clear hb2); (try clear hk); (try clear hi); have hnb20 := NB240_239.out; have hnc20 := NB239_240.out; have hnb21 := NB240_0.out; have hnc21 := NB0_240.out; have hcz22_0 : w19.cell? ⟨gb240, 0, none⟩ = some (.bool false) := (blk_cell BK240.out 0).trans rfl; have hcz22_1 : w19.cell? ⟨gb240, 1, none⟩ = some (.int .i64 0) := (blk_cell BK240.out 1).trans rfl; have hcz22_2 : w19.cell? ⟨gb240, 2, none⟩ = some (.string (⟨#[]⟩ : ByteArray)) := (blk_cell BK240.out 2).trans rfl; have hfz22_0 := blk_frozen BK240.out 0; have hfz22_1 := blk_frozen BK240.out 1; have hfz22_2 := blk_frozen BK240.out 2))
        go_meet
        case rel => exact ⟨_, (t248), (t249), (false), (t247), ((⟨#[]⟩ : ByteArray)), (Value.slice none 0 0), H', ⟨by first | omega | exact Nat.le_refl _⟩, ⟨by (with_reducible repeat (first | refine blk_drewN ?_ _ | refine blk_drew ?_ | refine blk_alloc ?_ _)); refine blk_far ?_ NB239_240.out _; (with_reducible repeat (first | refine blk_drewN ?_ _ | refine blk_drew ?_ | refine blk_alloc ?_ _)); exact BK239.out⟩, ⟨by (with_reducible repeat (first | refine blk_drewN ?_ _ | refine blk_drew ?_ | refine blk_alloc ?_ _)); refine blk_put (cs := #[.bool false, .int .i64 0, .string (⟨#[]⟩ : ByteArray)]) ?_ 1 _ rfl; (with_reducible repeat (first | refine blk_drewN ?_ _ | refine blk_drew ?_ | refine blk_alloc ?_ _)); exact BK240.out⟩, ⟨by repeat (first | (with_reducible first | exact HI0.out | apply IsS93.alloc | apply IsS93.drewN | apply IsS93.drew | apply IsS93.set_0 | apply IsS93.set_1 | apply IsS93.far (p := ⟨gb239, _, none⟩) (hne := NB0_239.out) | apply IsS93.far (p := ⟨gb240, _, none⟩) (hne := NB0_240.out)) | exact HI0.out)⟩, ⟨by repeat (first | (with_reducible first | exact HK.out | apply KeepBut.set_ | apply keep_drewN | apply keep_drew | apply keep_alloc | refine keep_far ?_ GW239.out _ | refine keep_far ?_ GW240.out _) | exact HK.out)⟩, ⟨by repeat (first | (with_reducible first | exact HB.out | apply below_alloc | apply pw_below_drewN | apply below_drew1 | refine below_set ?_ (IsS93.ge HI0.out) | refine below_set ?_ GE239.out | refine below_set ?_ GE240.out) | exact HB.out)⟩⟩
  case rest =>
    clear HC4
    try clear c1
    try clear c2
    try clear p2
    try clear c3
    try clear c6
    try clear c8
    try clear c8b0
    try clear c8b1
    try clear c9
    try clear c10
    try clear c12
    try clear c12b0
    try clear c12b1
    try clear c15
    try clear c16
    try clear c20
    try clear c21
    try clear hcz11_0
    try clear hcz11_1
    try clear hcz11_2
    try clear hcz17_0
    try clear hcz17_1
    try clear hcz17_2
    try clear hcz22_0
    try clear hcz22_1
    try clear hcz22_2
    try clear hfz11_0
    try clear hfz11_1
    try clear hfz11_2
    try clear hfz17_0
    try clear hfz17_1
    try clear hfz17_2
    try clear hfz22_0
    try clear hfz22_1
    try clear hfz22_2
    obtain ⟨kq, x1000_3, x1001_3, x241000_3, x241001_3, x241002_3, u1000, HA, HJ3, BK239, BK240, HI0, HK, HB⟩ := hcut
    cases kq with
    | zero => exact absurd HA.out (by simp [cell_Take.j0])
    | succ kj3 =>
      have H := HA.out
      clear HA
      simp only [cell_Take.j0] at H
      replace H := Option.bind_eq_some_iff.mp H
      obtain ⟨⟨t250, t251, t252⟩, A230, H⟩ := H
      replace H : (if t250 = true then ((cell_May.f a1 true x241000_3 x241001_3 x241002_3).bind fun t253 => (if t253 = true then (some (x241000_3, x241001_3, x241002_3, t251, t252)) else ((vint_Source_Fail.f t251 t252).bind fun bt254 => (some (false, 0, (⟨#[]⟩ : ByteArray), bt254.1, bt254.2))))) else ((vint_Source_Fail.f t251 t252).bind fun bt256 => (some (false, 0, (⟨#[]⟩ : ByteArray), bt256.1, bt256.2)))) = some (r1, r2, r3, r4, r5) := H
      have A23 := Aside0.mk A230
      clear A230
      by_cases c24 : t250 = true
      · subst c24
        have H1 : ((cell_May.f a1 true x241000_3 x241001_3 x241002_3).bind fun t253 => (if t253 = true then (some (x241000_3, x241001_3, x241002_3, t251, t252)) else ((vint_Source_Fail.f t251 t252).bind fun bt254 => (some (false, 0, (⟨#[]⟩ : ByteArray), bt254.1, bt254.2))))) = some (r1, r2, r3, r4, r5) := by rw [if_pos rfl] at H; exact H
        clear H
        have H := H1
        clear H1
        replace H := Option.bind_eq_some_iff.mp H
        obtain ⟨t253, A250, H⟩ := H
        replace H : (if t253 = true then (some (x241000_3, x241001_3, x241002_3, t251, t252)) else ((vint_Source_Fail.f t251 t252).bind fun bt254 => (some (false, 0, (⟨#[]⟩ : ByteArray), bt254.1, bt254.2)))) = some (r1, r2, r3, r4, r5) := H
        have A25 := Aside0.mk A250
        clear A250
        by_cases c26 : t253 = true
        · subst c26
          have H1 : (some (x241000_3, x241001_3, x241002_3, t251, t252)) = some (r1, r2, r3, r4, r5) := by rw [if_pos rfl] at H; exact H
          clear H
          have H := H1
          clear H1
          simp only [Option.some.injEq, Prod.mk.injEq] at H
          obtain ⟨rfl, rfl, rfl, rfl, rfl⟩ := H
          go_wp2_with (first | ((with_reducible refine gate_callee (f := 41) rfl ?_); refine goesL_ (some 23) rfl rfl Try.func41 (by kernel_rfl) rfl #[.pointer (some ⟨g, 0, none⟩)] rfl (by (try simp only [List.map_toArray, List.map_cons, List.map_nil]); first | done | rfl | (simp only [List.length_drop, List.length_take]; rfl)) ?_; (with_reducible refine (vint_Source_Ok.calls g x1000_3 x1001_3 true t251 t252 w0 _ ?side1 ?side2 A23.out).mono ?_); (case side1 => repeat (first | (with_reducible first | exact HI0.out | apply IsS93.alloc | apply IsS93.drewN | apply IsS93.drew | apply IsS93.set_0 | apply IsS93.set_1 | apply IsS93.far (p := ⟨gb239, _, none⟩) (hne := NB0_239.out) | apply IsS93.far (p := ⟨gb240, _, none⟩) (hne := NB0_240.out)) | exact HI0.out)); (case side2 => repeat (first | (with_reducible first | exact HB.out | apply below_alloc | apply pw_below_drewN | apply below_drew1 | refine below_set ?_ (IsS93.ge HI0.out) | refine below_set ?_ GE239.out | refine below_set ?_ GE240.out) | exact HB.out)); rintro e w27 ⟨rfl, hi, hb, hk⟩; refine ⟨_, rfl, ?_⟩; have n0_ := Aside0.mk (KeepBut.blk hk (g' := gb239) (o := .cells #[.bool false, .int .i64 0, .string (⟨#[]⟩ : ByteArray)] 23 (0, 0)) (by (with_reducible repeat (first | refine blk_drewN ?_ _ | refine blk_drew ?_ | refine blk_alloc ?_ _)); exact BK239.out) NB239_0.out (by simp)); have n1_ := Aside0.mk (KeepBut.blk hk (g' := gb240) (o := .cells #[.bool x241000_3, .int .i64 x241001_3, .string x241002_3] 23 (0, 0)) (by (with_reducible repeat (first | refine blk_drewN ?_ _ | refine blk_drew ?_ | refine blk_alloc ?_ _)); exact BK240.out) NB240_0.out (by simp)); have n2_ := Aside0.mk (KeepBut.trans (by repeat (first | (with_reducible first | exact HK.out | apply KeepBut.set_ | apply keep_drewN | apply keep_drew | apply keep_alloc | refine keep_far ?_ GW239.out _ | refine keep_far ?_ GW240.out _) | exact HK.out)) hk (.inl rfl)); have n3_ := Aside0.mk (hb); have n4_ := Aside0.mk (hi); clear BK239; clear BK240; clear HK; clear HB; clear HI0; have BK239 := n0_; have BK240 := n1_; have HK := n2_; have HB := n3_; have HI0 := n4_; clear n0_ n1_ n2_ n3_ n4_; (try clear hb); (try clear hb2); (try clear hk); (try clear hi); have hnb28 := NB240_239.out; have hnc28 := NB239_240.out; have hnb29 := NB240_0.out; have hnc29 := NB0_240.out; have hcz30_0 : w27.cell? ⟨gb240, 0, none⟩ = some (.bool x241000_3) := (blk_cell BK240.out 0).trans rfl; have hcz30_1 : w27.cell? ⟨gb240, 1, none⟩ = some (.int .i64 x241001_3) := (blk_cell BK240.out 1).trans rfl; have hcz30_2 : w27.cell? ⟨gb240, 2, none⟩ = some (.string x241002_3) := (blk_cell BK240.out 2).trans rfl; have hfz30_0 := blk_frozen BK240.out 0; have hfz30_1 := blk_frozen BK240.out 1; have hfz30_2 := blk_frozen BK240.out 2) | (go_at_call 73; (with_reducible refine (cell_May.calls a1 true x241000_3 x241001_3 x241002_3 true _ A25.out).mono ?_); rintro e w31 ⟨rfl, hb⟩; have n0_ := Aside0.mk (blk_below (g := gb239) (o := .cells #[.bool false, .int .i64 0, .string (⟨#[]⟩ : ByteArray)] 23 (0, 0)) (by (with_reducible repeat (first | refine blk_drewN ?_ _ | refine blk_drew ?_ | refine blk_alloc ?_ _)); exact BK239.out) hb); have n1_ := Aside0.mk (blk_below (g := gb240) (o := .cells #[.bool x241000_3, .int .i64 x241001_3, .string x241002_3] 23 (0, 0)) (by (with_reducible repeat (first | refine blk_drewN ?_ _ | refine blk_drew ?_ | refine blk_alloc ?_ _)); exact BK240.out) hb); have n2_ := Aside0.mk (IsS93.below (by repeat (first | (with_reducible first | exact HI0.out | apply IsS93.alloc | apply IsS93.drewN | apply IsS93.drew | apply IsS93.set_0 | apply IsS93.set_1 | apply IsS93.far (p := ⟨gb239, _, none⟩) (hne := NB0_239.out) | apply IsS93.far (p := ⟨gb240, _, none⟩) (hne := NB0_240.out)) | exact HI0.out)) hb); have n3_ := Aside0.mk (KeepBut.trans (by repeat (first | (with_reducible first | exact HK.out | apply KeepBut.set_ | apply keep_drewN | apply keep_drew | apply keep_alloc | refine keep_far ?_ GW239.out _ | refine keep_far ?_ GW240.out _) | exact HK.out)) (KeepBut.of_below hb g none) (.inl rfl)); have n4_ := Aside0.mk (below_step (by repeat (first | (with_reducible first | exact HB.out | apply below_alloc | apply pw_below_drewN | apply below_drew1 | refine below_set ?_ (IsS93.ge HI0.out) | refine below_set ?_ GE239.out | refine below_set ?_ GE240.out) | exact HB.out)) hb); clear BK239; clear BK240; clear HI0; clear HK; clear HB; have BK239 := n0_; have BK240 := n1_; have HI0 := n2_; have HK := n3_; have HB := n4_; clear n0_ n1_ n2_ n3_ n4_; (try clear hb); (try clear hb2); (try clear hk); (try clear hi); have hcz32_0 : w31.cell? ⟨gb240, 0, none⟩ = some (.bool x241000_3) := (blk_cell BK240.out 0).trans rfl; have hcz32_1 : w31.cell? ⟨gb240, 1, none⟩ = some (.int .i64 x241001_3) := (blk_cell BK240.out 1).trans rfl; have hcz32_2 : w31.cell? ⟨gb240, 2, none⟩ = some (.string x241002_3) := (blk_cell BK240.out 2).trans rfl; have hfz32_0 := blk_frozen BK240.out 0; have hfz32_1 := blk_frozen BK240.out 1; have hfz32_2 := blk_frozen BK240.out 2; have hnb33 := NB239_0.out; have hnc33 := NB0_239.out; have hcz34_0 : w31.cell? ⟨gb239, 0, none⟩ = some (.bool false) := (blk_cell BK239.out 0).trans rfl; have hcz34_1 : w31.cell? ⟨gb239, 1, none⟩ = some (.int .i64 0) := (blk_cell BK239.out 1).trans rfl; have hcz34_2 : w31.cell? ⟨gb239, 2, none⟩ = some (.string (⟨#[]⟩ : ByteArray)) := (blk_cell BK239.out 2).trans rfl; have hfz34_0 := blk_frozen BK239.out 0; have hfz34_1 := blk_frozen BK239.out 1; have hfz34_2 := blk_frozen BK239.out 2))
          refine bodyPost_ret (results_cell_row rfl _ _ gb239 23 #[.bool x241000_3, .int .i64 x241001_3, .string x241002_3] (0, 0) _ rfl (by (with_reducible repeat (first | refine blk_drewN ?_ _ | refine blk_drew ?_ | refine blk_alloc ?_ _)); refine blk_put (cs := #[.bool x241000_3, .int .i64 x241001_3, .string (⟨#[]⟩ : ByteArray)]) ?_ 2 _ rfl; (with_reducible repeat (first | refine blk_drewN ?_ _ | refine blk_drew ?_ | refine blk_alloc ?_ _)); refine blk_put (cs := #[.bool x241000_3, .int .i64 0, .string (⟨#[]⟩ : ByteArray)]) ?_ 1 _ rfl; (with_reducible repeat (first | refine blk_drewN ?_ _ | refine blk_drew ?_ | refine blk_alloc ?_ _)); refine blk_put (cs := #[.bool false, .int .i64 0, .string (⟨#[]⟩ : ByteArray)]) ?_ 0 _ rfl; (with_reducible repeat (first | refine blk_drewN ?_ _ | refine blk_drew ?_ | refine blk_alloc ?_ _)); exact BK239.out) Try.underlying23 rfl (by kernel_rfl)) rfl ?_
          exact ⟨by first | rfl | (simp [errW_none, errW_some] <;> rfl) | (simp [*, errW_none, errW_some] <;> rfl), by repeat (first | (with_reducible first | exact HI0.out | apply IsS93.alloc | apply IsS93.drewN | apply IsS93.drew | apply IsS93.set_0 | apply IsS93.set_1 | apply IsS93.far (p := ⟨gb239, _, none⟩) (hne := NB0_239.out) | apply IsS93.far (p := ⟨gb240, _, none⟩) (hne := NB0_240.out)) | exact HI0.out), by repeat (first | (with_reducible first | exact HB.out | apply below_alloc | apply pw_below_drewN | apply below_drew1 | refine below_set ?_ (IsS93.ge HI0.out) | refine below_set ?_ GE239.out | refine below_set ?_ GE240.out) | exact HB.out), by repeat (first | (with_reducible first | exact HK.out | apply KeepBut.set_ | apply keep_drewN | apply keep_drew | apply keep_alloc | refine keep_far ?_ GW239.out _ | refine keep_far ?_ GW240.out _) | exact HK.out)⟩
        · replace c26 := Bool.eq_false_iff.mpr c26
          subst c26
          have H1 : ((vint_Source_Fail.f t251 t252).bind fun bt254 => (some (false, 0, (⟨#[]⟩ : ByteArray), bt254.1, bt254.2))) = some (r1, r2, r3, r4, r5) := by rw [if_neg (show ¬ (false = true) by decide)] at H; exact H
          clear H
          have H := H1
          clear H1
          replace H := Option.bind_eq_some_iff.mp H
          obtain ⟨⟨t254, t255⟩, A350, H⟩ := H
          replace H : (some (false, 0, (⟨#[]⟩ : ByteArray), t254, t255)) = some (r1, r2, r3, r4, r5) := H
          have A35 := Aside0.mk A350
          clear A350
          simp only [Option.some.injEq, Prod.mk.injEq] at H
          obtain ⟨rfl, rfl, rfl, rfl, rfl⟩ := H
          go_wp2_with (first | ((with_reducible refine gate_callee (f := 41) rfl ?_); refine goesL_ (some 23) rfl rfl Try.func41 (by kernel_rfl) rfl #[.pointer (some ⟨g, 0, none⟩)] rfl (by (try simp only [List.map_toArray, List.map_cons, List.map_nil]); first | done | rfl | (simp only [List.length_drop, List.length_take]; rfl)) ?_; (with_reducible refine (vint_Source_Ok.calls g x1000_3 x1001_3 true t251 t252 w0 _ ?side1 ?side2 A23.out).mono ?_); (case side1 => repeat (first | (with_reducible first | exact HI0.out | apply IsS93.alloc | apply IsS93.drewN | apply IsS93.drew | apply IsS93.set_0 | apply IsS93.set_1 | apply IsS93.far (p := ⟨gb239, _, none⟩) (hne := NB0_239.out) | apply IsS93.far (p := ⟨gb240, _, none⟩) (hne := NB0_240.out)) | exact HI0.out)); (case side2 => repeat (first | (with_reducible first | exact HB.out | apply below_alloc | apply pw_below_drewN | apply below_drew1 | refine below_set ?_ (IsS93.ge HI0.out) | refine below_set ?_ GE239.out | refine below_set ?_ GE240.out) | exact HB.out)); rintro e w36 ⟨rfl, hi, hb, hk⟩; refine ⟨_, rfl, ?_⟩; have n0_ := Aside0.mk (KeepBut.blk hk (g' := gb239) (o := .cells #[.bool false, .int .i64 0, .string (⟨#[]⟩ : ByteArray)] 23 (0, 0)) (by (with_reducible repeat (first | refine blk_drewN ?_ _ | refine blk_drew ?_ | refine blk_alloc ?_ _)); exact BK239.out) NB239_0.out (by simp)); have n1_ := Aside0.mk (KeepBut.blk hk (g' := gb240) (o := .cells #[.bool x241000_3, .int .i64 x241001_3, .string x241002_3] 23 (0, 0)) (by (with_reducible repeat (first | refine blk_drewN ?_ _ | refine blk_drew ?_ | refine blk_alloc ?_ _)); exact BK240.out) NB240_0.out (by simp)); have n2_ := Aside0.mk (KeepBut.trans (by repeat (first | (with_reducible first | exact HK.out | apply KeepBut.set_ | apply keep_drewN | apply keep_drew | apply keep_alloc | refine keep_far ?_ GW239.out _ | refine keep_far ?_ GW240.out _) | exact HK.out)) hk (.inl rfl)); have n3_ := Aside0.mk (hb); have n4_ := Aside0.mk (hi); clear BK239; clear BK240; clear HK; clear HB; clear HI0; have BK239 := n0_; have BK240 := n1_; have HK := n2_; have HB := n3_; have HI0 := n4_; clear n0_ n1_ n2_ n3_ n4_; (try clear hb); (try clear hb2); (try clear hk); (try clear hi); have hnb37 := NB240_239.out; have hnc37 := NB239_240.out; have hnb38 := NB240_0.out; have hnc38 := NB0_240.out; have hcz39_0 : w36.cell? ⟨gb240, 0, none⟩ = some (.bool x241000_3) := (blk_cell BK240.out 0).trans rfl; have hcz39_1 : w36.cell? ⟨gb240, 1, none⟩ = some (.int .i64 x241001_3) := (blk_cell BK240.out 1).trans rfl; have hcz39_2 : w36.cell? ⟨gb240, 2, none⟩ = some (.string x241002_3) := (blk_cell BK240.out 2).trans rfl; have hfz39_0 := blk_frozen BK240.out 0; have hfz39_1 := blk_frozen BK240.out 1; have hfz39_2 := blk_frozen BK240.out 2) | (go_at_call 73; (with_reducible refine (cell_May.calls a1 true x241000_3 x241001_3 x241002_3 false _ A25.out).mono ?_); rintro e w40 ⟨rfl, hb⟩; have n0_ := Aside0.mk (blk_below (g := gb239) (o := .cells #[.bool false, .int .i64 0, .string (⟨#[]⟩ : ByteArray)] 23 (0, 0)) (by (with_reducible repeat (first | refine blk_drewN ?_ _ | refine blk_drew ?_ | refine blk_alloc ?_ _)); exact BK239.out) hb); have n1_ := Aside0.mk (blk_below (g := gb240) (o := .cells #[.bool x241000_3, .int .i64 x241001_3, .string x241002_3] 23 (0, 0)) (by (with_reducible repeat (first | refine blk_drewN ?_ _ | refine blk_drew ?_ | refine blk_alloc ?_ _)); exact BK240.out) hb); have n2_ := Aside0.mk (IsS93.below (by repeat (first | (with_reducible first | exact HI0.out | apply IsS93.alloc | apply IsS93.drewN | apply IsS93.drew | apply IsS93.set_0 | apply IsS93.set_1 | apply IsS93.far (p := ⟨gb239, _, none⟩) (hne := NB0_239.out) | apply IsS93.far (p := ⟨gb240, _, none⟩) (hne := NB0_240.out)) | exact HI0.out)) hb); have n3_ := Aside0.mk (KeepBut.trans (by repeat (first | (with_reducible first | exact HK.out | apply KeepBut.set_ | apply keep_drewN | apply keep_drew | apply keep_alloc | refine keep_far ?_ GW239.out _ | refine keep_far ?_ GW240.out _) | exact HK.out)) (KeepBut.of_below hb g none) (.inl rfl)); have n4_ := Aside0.mk (below_step (by repeat (first | (with_reducible first | exact HB.out | apply below_alloc | apply pw_below_drewN | apply below_drew1 | refine below_set ?_ (IsS93.ge HI0.out) | refine below_set ?_ GE239.out | refine below_set ?_ GE240.out) | exact HB.out)) hb); clear BK239; clear BK240; clear HI0; clear HK; clear HB; have BK239 := n0_; have BK240 := n1_; have HI0 := n2_; have HK := n3_; have HB := n4_; clear n0_ n1_ n2_ n3_ n4_; (try clear hb); (try clear hb2); (try clear hk); (try clear hi)) | ((with_reducible refine gate_callee (f := 39) rfl ?_); refine goesL_ (some 32) rfl rfl Try.func39 (by kernel_rfl) rfl #[.pointer (some ⟨g, 0, none⟩)] rfl (by (try simp only [List.map_toArray, List.map_cons, List.map_nil]); first | done | rfl | (simp only [List.length_drop, List.length_take]; rfl)) ?_; (with_reducible refine (vint_Source_Fail.calls g t251 t252 t254 t255 w0 _ ?side1 ?side2 A35.out).mono ?_); (case side1 => repeat (first | (with_reducible first | exact HI0.out | apply IsS93.alloc | apply IsS93.drewN | apply IsS93.drew | apply IsS93.set_0 | apply IsS93.set_1 | apply IsS93.far (p := ⟨gb239, _, none⟩) (hne := NB0_239.out) | apply IsS93.far (p := ⟨gb240, _, none⟩) (hne := NB0_240.out)) | exact HI0.out)); (case side2 => repeat (first | (with_reducible first | exact HB.out | apply below_alloc | apply pw_below_drewN | apply below_drew1 | refine below_set ?_ (IsS93.ge HI0.out) | refine below_set ?_ GE239.out | refine below_set ?_ GE240.out) | exact HB.out)); rintro e w41 ⟨rfl, hi, hb, hk⟩; refine ⟨_, rfl, ?_⟩; have n0_ := Aside0.mk (KeepBut.blk hk (g' := gb239) (o := .cells #[.bool false, .int .i64 0, .string (⟨#[]⟩ : ByteArray)] 23 (0, 0)) (by (with_reducible repeat (first | refine blk_drewN ?_ _ | refine blk_drew ?_ | refine blk_alloc ?_ _)); exact BK239.out) NB239_0.out (by simp)); have n1_ := Aside0.mk (KeepBut.blk hk (g' := gb240) (o := .cells #[.bool x241000_3, .int .i64 x241001_3, .string x241002_3] 23 (0, 0)) (by (with_reducible repeat (first | refine blk_drewN ?_ _ | refine blk_drew ?_ | refine blk_alloc ?_ _)); exact BK240.out) NB240_0.out (by simp)); have n2_ := Aside0.mk (KeepBut.trans (by repeat (first | (with_reducible first | exact HK.out | apply KeepBut.set_ | apply keep_drewN | apply keep_drew | apply keep_alloc | refine keep_far ?_ GW239.out _ | refine keep_far ?_ GW240.out _) | exact HK.out)) hk (.inl rfl)); have n3_ := Aside0.mk (hb); have n4_ := Aside0.mk (hi); clear BK239; clear BK240; clear HK; clear HB; clear HI0; have BK239 := n0_; have BK240 := n1_; have HK := n2_; have HB := n3_; have HI0 := n4_; clear n0_ n1_ n2_ n3_ n4_; (try clear hb); (try clear hb2); (try clear hk); (try clear hi); have hnb42 := NB239_0.out; have hnc42 := NB0_239.out; have hcz43_0 : w41.cell? ⟨gb239, 0, none⟩ = some (.bool false) := (blk_cell BK239.out 0).trans rfl; have hcz43_1 : w41.cell? ⟨gb239, 1, none⟩ = some (.int .i64 0) := (blk_cell BK239.out 1).trans rfl; have hcz43_2 : w41.cell? ⟨gb239, 2, none⟩ = some (.string (⟨#[]⟩ : ByteArray)) := (blk_cell BK239.out 2).trans rfl; have hfz43_0 := blk_frozen BK239.out 0; have hfz43_1 := blk_frozen BK239.out 1; have hfz43_2 := blk_frozen BK239.out 2))
          refine bodyPost_ret (results_cell_row rfl _ _ gb239 23 #[.bool false, .int .i64 0, .string (⟨#[]⟩ : ByteArray)] (0, 0) _ rfl (by (with_reducible repeat (first | refine blk_drewN ?_ _ | refine blk_drew ?_ | refine blk_alloc ?_ _)); refine blk_put (cs := #[.bool false, .int .i64 0, .string (⟨#[]⟩ : ByteArray)]) ?_ 2 _ rfl; (with_reducible repeat (first | refine blk_drewN ?_ _ | refine blk_drew ?_ | refine blk_alloc ?_ _)); refine blk_put (cs := #[.bool false, .int .i64 0, .string (⟨#[]⟩ : ByteArray)]) ?_ 1 _ rfl; (with_reducible repeat (first | refine blk_drewN ?_ _ | refine blk_drew ?_ | refine blk_alloc ?_ _)); refine blk_put (cs := #[.bool false, .int .i64 0, .string (⟨#[]⟩ : ByteArray)]) ?_ 0 _ rfl; (with_reducible repeat (first | refine blk_drewN ?_ _ | refine blk_drew ?_ | refine blk_alloc ?_ _)); exact BK239.out) Try.underlying23 rfl (by kernel_rfl)) rfl ?_
          exact ⟨by first | rfl | (simp [errW_none, errW_some] <;> rfl) | (simp [*, errW_none, errW_some] <;> rfl), by repeat (first | (with_reducible first | exact HI0.out | apply IsS93.alloc | apply IsS93.drewN | apply IsS93.drew | apply IsS93.set_0 | apply IsS93.set_1 | apply IsS93.far (p := ⟨gb239, _, none⟩) (hne := NB0_239.out) | apply IsS93.far (p := ⟨gb240, _, none⟩) (hne := NB0_240.out)) | exact HI0.out), by repeat (first | (with_reducible first | exact HB.out | apply below_alloc | apply pw_below_drewN | apply below_drew1 | refine below_set ?_ (IsS93.ge HI0.out) | refine below_set ?_ GE239.out | refine below_set ?_ GE240.out) | exact HB.out), by repeat (first | (with_reducible first | exact HK.out | apply KeepBut.set_ | apply keep_drewN | apply keep_drew | apply keep_alloc | refine keep_far ?_ GW239.out _ | refine keep_far ?_ GW240.out _) | exact HK.out)⟩
      · replace c24 := Bool.eq_false_iff.mpr c24
        subst c24
        have H1 : ((vint_Source_Fail.f t251 t252).bind fun bt256 => (some (false, 0, (⟨#[]⟩ : ByteArray), bt256.1, bt256.2))) = some (r1, r2, r3, r4, r5) := by rw [if_neg (show ¬ (false = true) by decide)] at H; exact H
        clear H
        have H := H1
        clear H1
        replace H := Option.bind_eq_some_iff.mp H
        obtain ⟨⟨t256, t257⟩, A440, H⟩ := H
        replace H : (some (false, 0, (⟨#[]⟩ : ByteArray), t256, t257)) = some (r1, r2, r3, r4, r5) := H
        have A44 := Aside0.mk A440
        clear A440
        simp only [Option.some.injEq, Prod.mk.injEq] at H
        obtain ⟨rfl, rfl, rfl, rfl, rfl⟩ := H
        go_wp2_with (first | ((with_reducible refine gate_callee (f := 41) rfl ?_); refine goesL_ (some 23) rfl rfl Try.func41 (by kernel_rfl) rfl #[.pointer (some ⟨g, 0, none⟩)] rfl (by (try simp only [List.map_toArray, List.map_cons, List.map_nil]); first | done | rfl | (simp only [List.length_drop, List.length_take]; rfl)) ?_; (with_reducible refine (vint_Source_Ok.calls g x1000_3 x1001_3 false t251 t252 w0 _ ?side1 ?side2 A23.out).mono ?_); (case side1 => repeat (first | (with_reducible first | exact HI0.out | apply IsS93.alloc | apply IsS93.drewN | apply IsS93.drew | apply IsS93.set_0 | apply IsS93.set_1 | apply IsS93.far (p := ⟨gb239, _, none⟩) (hne := NB0_239.out) | apply IsS93.far (p := ⟨gb240, _, none⟩) (hne := NB0_240.out)) | exact HI0.out)); (case side2 => repeat (first | (with_reducible first | exact HB.out | apply below_alloc | apply pw_below_drewN | apply below_drew1 | refine below_set ?_ (IsS93.ge HI0.out) | refine below_set ?_ GE239.out | refine below_set ?_ GE240.out) | exact HB.out)); rintro e w45 ⟨rfl, hi, hb, hk⟩; refine ⟨_, rfl, ?_⟩; have n0_ := Aside0.mk (KeepBut.blk hk (g' := gb239) (o := .cells #[.bool false, .int .i64 0, .string (⟨#[]⟩ : ByteArray)] 23 (0, 0)) (by (with_reducible repeat (first | refine blk_drewN ?_ _ | refine blk_drew ?_ | refine blk_alloc ?_ _)); exact BK239.out) NB239_0.out (by simp)); have n1_ := Aside0.mk (KeepBut.blk hk (g' := gb240) (o := .cells #[.bool x241000_3, .int .i64 x241001_3, .string x241002_3] 23 (0, 0)) (by (with_reducible repeat (first | refine blk_drewN ?_ _ | refine blk_drew ?_ | refine blk_alloc ?_ _)); exact BK240.out) NB240_0.out (by simp)); have n2_ := Aside0.mk (KeepBut.trans (by repeat (first | (with_reducible first | exact HK.out | apply KeepBut.set_ | apply keep_drewN | apply keep_drew | apply keep_alloc | refine keep_far ?_ GW239.out _ | refine keep_far ?_ GW240.out _) | exact HK.out)) hk (.inl rfl)); have n3_ := Aside0.mk (hb); have n4_ := Aside0.mk (hi); clear BK239; clear BK240; clear HK; clear HB; clear HI0; have BK239 := n0_; have BK240 := n1_; have HK := n2_; have HB := n3_; have HI0 := n4_; clear n0_ n1_ n2_ n3_ n4_; (try clear hb); (try clear hb2); (try clear hk); (try clear hi)) | ((with_reducible refine gate_callee (f := 39) rfl ?_); refine goesL_ (some 32) rfl rfl Try.func39 (by kernel_rfl) rfl #[.pointer (some ⟨g, 0, none⟩)] rfl (by (try simp only [List.map_toArray, List.map_cons, List.map_nil]); first | done | rfl | (simp only [List.length_drop, List.length_take]; rfl)) ?_; (with_reducible refine (vint_Source_Fail.calls g t251 t252 t256 t257 w0 _ ?side1 ?side2 A44.out).mono ?_); (case side1 => repeat (first | (with_reducible first | exact HI0.out | apply IsS93.alloc | apply IsS93.drewN | apply IsS93.drew | apply IsS93.set_0 | apply IsS93.set_1 | apply IsS93.far (p := ⟨gb239, _, none⟩) (hne := NB0_239.out) | apply IsS93.far (p := ⟨gb240, _, none⟩) (hne := NB0_240.out)) | exact HI0.out)); (case side2 => repeat (first | (with_reducible first | exact HB.out | apply below_alloc | apply pw_below_drewN | apply below_drew1 | refine below_set ?_ (IsS93.ge HI0.out) | refine below_set ?_ GE239.out | refine below_set ?_ GE240.out) | exact HB.out)); rintro e w46 ⟨rfl, hi, hb, hk⟩; refine ⟨_, rfl, ?_⟩; have n0_ := Aside0.mk (KeepBut.blk hk (g' := gb239) (o := .cells #[.bool false, .int .i64 0, .string (⟨#[]⟩ : ByteArray)] 23 (0, 0)) (by (with_reducible repeat (first | refine blk_drewN ?_ _ | refine blk_drew ?_ | refine blk_alloc ?_ _)); exact BK239.out) NB239_0.out (by simp)); have n1_ := Aside0.mk (KeepBut.blk hk (g' := gb240) (o := .cells #[.bool x241000_3, .int .i64 x241001_3, .string x241002_3] 23 (0, 0)) (by (with_reducible repeat (first | refine blk_drewN ?_ _ | refine blk_drew ?_ | refine blk_alloc ?_ _)); exact BK240.out) NB240_0.out (by simp)); have n2_ := Aside0.mk (KeepBut.trans (by repeat (first | (with_reducible first | exact HK.out | apply KeepBut.set_ | apply keep_drewN | apply keep_drew | apply keep_alloc | refine keep_far ?_ GW239.out _ | refine keep_far ?_ GW240.out _) | exact HK.out)) hk (.inl rfl)); have n3_ := Aside0.mk (hb); have n4_ := Aside0.mk (hi); clear BK239; clear BK240; clear HK; clear HB; clear HI0; have BK239 := n0_; have BK240 := n1_; have HK := n2_; have HB := n3_; have HI0 := n4_; clear n0_ n1_ n2_ n3_ n4_; (try clear hb); (try clear hb2); (try clear hk); (try clear hi); have hnb47 := NB239_240.out; have hnc47 := NB240_239.out; have hnb48 := NB239_0.out; have hnc48 := NB0_239.out; have hcz49_0 : w46.cell? ⟨gb239, 0, none⟩ = some (.bool false) := (blk_cell BK239.out 0).trans rfl; have hcz49_1 : w46.cell? ⟨gb239, 1, none⟩ = some (.int .i64 0) := (blk_cell BK239.out 1).trans rfl; have hcz49_2 : w46.cell? ⟨gb239, 2, none⟩ = some (.string (⟨#[]⟩ : ByteArray)) := (blk_cell BK239.out 2).trans rfl; have hfz49_0 := blk_frozen BK239.out 0; have hfz49_1 := blk_frozen BK239.out 1; have hfz49_2 := blk_frozen BK239.out 2))
        refine bodyPost_ret (results_cell_row rfl _ _ gb239 23 #[.bool false, .int .i64 0, .string (⟨#[]⟩ : ByteArray)] (0, 0) _ rfl (by (with_reducible repeat (first | refine blk_drewN ?_ _ | refine blk_drew ?_ | refine blk_alloc ?_ _)); refine blk_put (cs := #[.bool false, .int .i64 0, .string (⟨#[]⟩ : ByteArray)]) ?_ 2 _ rfl; (with_reducible repeat (first | refine blk_drewN ?_ _ | refine blk_drew ?_ | refine blk_alloc ?_ _)); refine blk_put (cs := #[.bool false, .int .i64 0, .string (⟨#[]⟩ : ByteArray)]) ?_ 1 _ rfl; (with_reducible repeat (first | refine blk_drewN ?_ _ | refine blk_drew ?_ | refine blk_alloc ?_ _)); refine blk_put (cs := #[.bool false, .int .i64 0, .string (⟨#[]⟩ : ByteArray)]) ?_ 0 _ rfl; (with_reducible repeat (first | refine blk_drewN ?_ _ | refine blk_drew ?_ | refine blk_alloc ?_ _)); exact BK239.out) Try.underlying23 rfl (by kernel_rfl)) rfl ?_
        exact ⟨by first | rfl | (simp [errW_none, errW_some] <;> rfl) | (simp [*, errW_none, errW_some] <;> rfl), by repeat (first | (with_reducible first | exact HI0.out | apply IsS93.alloc | apply IsS93.drewN | apply IsS93.drew | apply IsS93.set_0 | apply IsS93.set_1 | apply IsS93.far (p := ⟨gb239, _, none⟩) (hne := NB0_239.out) | apply IsS93.far (p := ⟨gb240, _, none⟩) (hne := NB0_240.out)) | exact HI0.out), by repeat (first | (with_reducible first | exact HB.out | apply below_alloc | apply pw_below_drewN | apply below_drew1 | refine below_set ?_ (IsS93.ge HI0.out) | refine below_set ?_ GE239.out | refine below_set ?_ GE240.out) | exact HB.out), by repeat (first | (with_reducible first | exact HK.out | apply KeepBut.set_ | apply keep_drewN | apply keep_drew | apply keep_alloc | refine keep_far ?_ GW239.out _ | refine keep_far ?_ GW240.out _) | exact HK.out)⟩

end Go.Proofs.Ytkdlfejokahohaa.X
/- The contract of (*firkinref01.S).Fail: it failed, and has nothing left. -/
namespace Go.Proofs.Ytkdlfejokahohaa.X
open Go.RowKit Go.Proofs.YtkdlfejokahohaaW.PrintWords Go.Proofs.YtkdlfejokahohaaW.PrintLast Go.Proofs.YtkdlfejokahohaaW.PrintMore
set_option linter.unusedVariables false
set_option linter.unusedSimpArgs false
def firkinref01_S_Fail.f (l : List Int) (bad : Bool) : Option (List Int × Bool) := some ([], true)
set_option maxHeartbeats 8000000 in
set_option maxRecDepth 100000 in
theorem firkinref01_S_Fail.calls (g : Nat) (s0_0 : List Int) (s0_1 : Bool) (r1 : List Int) (r2 : Bool) (w0 w : World) (hI : IsS45 w0 w g s0_0 s0_1) (hB : Below w0.heap.size w0 w) (h : firkinref01_S_Fail.f s0_0 s0_1 = some (r1, r2)) :
    Calls Try.prog 40 #[.pointer (some ⟨g, 0, none⟩)] w fun e w' => e = .returned (.tuple #[]) ∧ IsS45 w0 w' g r1 r2 ∧ Below w0.heap.size w0 w' ∧ KeepBut w w' g none := by
  obtain ⟨rfl, rfl⟩ : [] = r1 ∧ true = r2 := by unfold firkinref01_S_Fail.f at h; injection h with h; injection h with h1 h2; exact ⟨h1, h2⟩
  clear h
  obtain ⟨A0, c0, hb, hg, hr⟩ := hI
  have h0 : w.cell? ⟨g, 0, none⟩ = some (.slice A0 s0_0.length c0) := (blk_cell hb 0).trans rfl
  have h1 : w.cell? ⟨g, 1, none⟩ = some (.bool s0_1) := (blk_cell hb 1).trans rfl
  have f0 := blk_frozen hb 0
  have f1 := blk_frozen hb 1
  have hu := Try.underlying45
  have HB := Aside0.mk hb
  clear hb
  go_enter Try.func40, Try.ntmps40
  go_wp2
  go_end0
  have h2 := blk_set (blk_set HB.out 1 (.bool true)) 0 (.slice none 0 0)
  refine ⟨rfl, ⟨none, 0, by simpa using h2, hg, Kd.C_nil _ _, Nat.le_refl _⟩, below_set (below_set hB hg) hg, ?_⟩
  exact KeepBut.set_ (KeepBut.set_ (KeepBut.refl _ _ _) 1 _) 0 _
end Go.Proofs.Ytkdlfejokahohaa.X
/- The contract of (*firkinref01.S).Num: the number that the bytes begin with, and what is left behind it; or it failed. -/
namespace Go.Proofs.Ytkdlfejokahohaa.X
open Go.RowKit Go.Proofs.YtkdlfejokahohaaW.PrintWords Go.Proofs.YtkdlfejokahohaaW.PrintLast Go.Proofs.YtkdlfejokahohaaW.PrintMore
set_option linter.unusedVariables false
set_option linter.unusedSimpArgs false
open Go.Proofs.Ytkdlfejokahohaa.Dec
def rnumS (l : List Int) (bad : Bool) : Int × List Int × Bool :=
  if szS 0 l = 0 then (0, [], true) else (((valS 0 (l.take (szS 0 l)) : Nat) : Int), l.drop (szS 0 l), bad)
def firkinref01_S_Num.f (l : List Int) (bad : Bool) : Option (Int × List Int × Bool) := if Fit l then some (rnumS l bad) else none
/-- One more byte is put to the number. -/
theorem radd_step {l : List Int} (hb : IsBytes l) {j : Nat} (hj : j < l.length) (hv : valS 0 (l.take (j + 1)) < 18446744073709551616) {c : Int} (hc : l.getD j 0 = c) :
    IntKind.u64.wrap (((valS 0 (l.take j) : Nat) : Int) + IntKind.u64.wrap (c % 128 * 2 ^ (7 * j))) = ((valS 0 (l.take (j + 1)) : Nat) : Int) := by
  have hcb := hb.get j
  rw [valS_take hj] at hv ⊢
  rw [hc] at hcb hv ⊢
  have e : c % 128 = ((c.toNat % 128 : Nat) : Int) := by omega
  rw [e]
  generalize c.toNat % 128 = m at hv ⊢
  generalize valS 0 (l.take j) = v at hv ⊢
  have hcast : (m : Int) * 2 ^ (7 * j) = ((m * 2 ^ (7 * j) : Nat) : Int) := by simp
  rw [hcast, IntKind.wrap_u64, IntKind.wrap_u64]
  generalize m * 2 ^ (7 * j) = x at hv ⊢
  omega
theorem val_small (l : List Int) {j : Nat} (hj : j ≤ 8) : valS 0 (l.take (j + 1)) < 18446744073709551616 := by
  have h := valS_lt (l.take (j + 1)) 0
  have hl : (l.take (j + 1)).length ≤ 9 := by rw [List.length_take]; omega
  have h2 : 2 ^ (7 * (0 + (l.take (j + 1)).length)) ≤ 2 ^ 63 := Nat.pow_le_pow_right (by decide) (by omega)
  exact Nat.lt_of_lt_of_le h (Nat.le_trans h2 (by decide))
set_option maxHeartbeats 8000000 in
set_option maxRecDepth 100000 in
theorem firkinref01_S_Num.calls (g : Nat) (s0_0 : List Int) (s0_1 : Bool) (r1 : Int) (r2 : List Int) (r3 : Bool) (w0 w : World) (hI : IsS45 w0 w g s0_0 s0_1) (hB : Below w0.heap.size w0 w) (h : firkinref01_S_Num.f s0_0 s0_1 = some (r1, r2, r3)) :
    Calls Try.prog 30 #[.pointer (some ⟨g, 0, none⟩)] w fun e w' => e = .returned (.int .u64 r1) ∧ IsS45 w0 w' g r2 r3 ∧ Below w0.heap.size w0 w' ∧ KeepBut w w' g none := by
  unfold firkinref01_S_Num.f at h
  by_cases hf : Fit s0_0
  case neg => rw [if_neg hf] at h; cases h
  rw [if_pos hf] at h
  have h := Option.some.inj h
  unfold rnumS at h
  have hu := Try.underlying45
  have HSTEP := Lib.hid (fun (j : Nat) (c : Int) => radd_step hf.1 (j := j) (c := c))
  have hle := szS_le s0_0 0 (by decide)
  have hlen := hf.2
  have HI := Aside0.mk hI
  have HH := Aside0.mk h
  have HF := Aside0.mk hf.1
  clear h
  obtain ⟨A1, c1, hb1, hg1, hr1, hc1⟩ := hI
  have h0 : w.cell? ⟨g, 0, none⟩ = some (.slice A1 s0_0.length c1) := (blk_cell hb1 0).trans rfl
  have HB1 := Aside0.mk hb1
  clear hb1
  go_enter Try.func30, Try.ntmps30
  go_wp2_with fail
  go_loop [3, 4] (fun n i => ∃ j : Nat, j ≤ 9 ∧ j ≤ s0_0.length ∧ Aside0 (szS 0 s0_0 = szS j (s0_0.drop j)) ∧ i = .int .i64 (j : Int) ∧ n = .int .u64 ((valS 0 (s0_0.take j) : Nat) : Int)) (fun _ i => 10 - (intOf i).toNat)
  case atStart => exact ⟨0, Nat.zero_le _, Nat.zero_le _, ⟨by rw [List.drop_zero]⟩, rfl, rfl⟩
  case round =>
    obtain ⟨j, hj9, hjl, HINV, rfl, rfl⟩ := hrel
    have hb10 : decide ((j : Int) < 10) = true := decide_eq_true (by omega)
    by_cases hlt : j < s0_0.length
    · have hrw := Kd.C_below hr1 hB
      obtain ⟨ad, ead, hcell⟩ := Kd.at_int hrw (j : Int) (by omega) (by omega)
      subst ead
      have hcb := hf.1.get j
      have hinv := HINV.out
      rw [drop_get hlt] at hinv
      have hcell2 : w.cell? (ad.add j) = some (.int .u8 (s0_0.getD j 0)) := hcell
      clear hcell hrw
      obtain ⟨c, hcd⟩ : ∃ c, s0_0.getD j 0 = c := ⟨_, rfl⟩
      rw [hcd] at hcb hinv hcell2
      have HCD := Lib.hid hcd
      clear hcd
      have hcw : IntKind.u64.wrap c = c := by rw [IntKind.wrap_u64]; omega
      have hbl : decide ((j : Int) < (s0_0.length : Int)) = true := decide_eq_true (by omega)
      have hbl2 : decide (j < s0_0.length) = true := decide_eq_true hlt
      rw [szS] at hinv
      obtain ⟨b9, b1, b0, bz, h9, h1, h0', hz, hbrk⟩ : ∃ b9 b1 b0 bz : Bool, ((j : Int) == 9) = b9 ∧ decide (1 < c) = b1 ∧ decide (0 < (j : Int)) = b0 ∧ (c == 0) = bz ∧ (((b9 && b1) || (b0 && bz)) = true ↔ ((j = 9 ∧ 1 < c) ∨ (0 < j ∧ c = 0))) :=
        ⟨_, _, _, _, rfl, rfl, rfl, rfl, by
          simp only [Bool.or_eq_true, Bool.and_eq_true, beq_iff_eq, decide_eq_true_eq]; omega⟩
      have h0n : decide (0 < j) = b0 := by rw [← h0']; simp
      have h9n : (j == 9) = b9 := by rw [← h9]; rw [Bool.eq_iff_iff]; simp only [beq_iff_eq]; omega
      by_cases hA : (j = 9 ∧ 1 < c) ∨ (0 < j ∧ c = 0)
      · rw [if_pos hA] at hinv
        have hbrk := hbrk.mpr hA
        have HV := Lib.hid hinv
        clear hinv hA
        cases b9 <;> cases b1 <;> cases b0 <;> cases bz <;> first
          | (exact absurd hbrk (by decide))
          | (clear hbrk
             go_wp2_with fail
             refine (firkinref01_S_Fail.calls g s0_0 s0_1 [] true w0 _ HI.out hB rfl).mono ?_
             rintro e w2 ⟨rfl, hI2, hB2, hK2⟩
             have h := HH.out
             rw [HV.out, if_pos rfl] at h
             simp only [Prod.mk.injEq] at h
             obtain ⟨rfl, rfl, rfl⟩ := h
             go_wp2_with fail
             go_ret
             exact ⟨rfl, hI2, hB2, hK2⟩)
      · rw [if_neg hA] at hinv
        have hbrk := Bool.eq_false_iff.mpr (fun hh => hA (hbrk.mp hh))
        by_cases hc : c < 128
        · rw [if_pos hc] at hinv
          have hcb2 : decide (c < 128) = true := decide_eq_true hc
          have hst := HSTEP.out j c hlt (by rw [← hinv]; exact val_lt hf.1 (Nat.le_refl _)) HCD.out
          have HST := Lib.hid hst
          have f0 := blk_frozen HB1.out 0
          have HD := Lib.hid (Kd.C_drop (m := j + 1) hr1 (by omega) hc1)
          have HL := Lib.hid (show (s0_0.drop (j + 1)).length = s0_0.length - (j + 1) from List.length_drop)
          have HV := Lib.hid hinv
          clear hst hinv hA
          by_cases hcj : c1 = j + 1
          · subst hcj
            have hl0 : s0_0.length - (j + 1) = 0 := by omega
            have HL0 := Lib.hid hl0
            clear hl0
            cases b9 <;> cases b1 <;> cases b0 <;> cases bz <;> first
              | (exact absurd hbrk (by decide))
              | (clear hbrk
                 go_wp2_with fail
                 go_ret
                 have h := HH.out
                 rw [HV.out, if_neg (by omega)] at h
                 simp only [Prod.mk.injEq] at h
                 obtain ⟨rfl, rfl, rfl⟩ := h
                 refine ⟨by rw [HST.out]; rfl, ⟨some ad, 0, ?_, hg1, ?_, ?_⟩, below_set hB hg1, KeepBut.set_ (KeepBut.refl _ _ _) 0 _⟩
                 · have h2 := blk_set HB1.out 0 (.slice (some ad) 0 0)
                   have e : (s0_0.drop (j + 1)).length = 0 := by rw [HL.out]; exact HL0.out
                   first | rw [e, HL0.out] | rw [e]
                   simpa using h2
                 · have := HD.out
                   simp only [if_true] at this
                   exact this
                 · rw [HL.out]; omega)
          · cases b9 <;> cases b1 <;> cases b0 <;> cases bz <;> first
              | (exact absurd hbrk (by decide))
              | (clear hbrk
                 go_wp2_with fail
                 go_ret
                 have h := HH.out
                 rw [HV.out, if_neg (by omega)] at h
                 simp only [Prod.mk.injEq] at h
                 obtain ⟨rfl, rfl, rfl⟩ := h
                 refine ⟨by rw [HST.out]; rfl, ⟨some (ad.add (j + 1)), c1 - (j + 1), ?_, hg1, ?_, ?_⟩, below_set hB hg1, KeepBut.set_ (KeepBut.refl _ _ _) 0 _⟩
                 · have h2 := blk_set HB1.out 0 (.slice (some (ad.add (j + 1))) (s0_0.length - (j + 1)) (c1 - (j + 1)))
                   rw [← HL.out] at h2
                   rw [← HL.out]
                   simp at h2
                   first | exact h2 | (simp; exact h2)
                 · have := HD.out
                   rw [if_neg hcj] at this
                   have e : (Kd.int .u8).sz = 1 := rfl
                   rw [e, Nat.mul_one] at this
                   exact this
                 · rw [HL.out]; omega)
        · have hj9' : j ≠ 9 := by rintro rfl; omega
          have hcb2 : decide (c < 128) = false := decide_eq_false hc
          rw [if_neg hc, if_neg hj9'] at hinv
          have HV := Lib.hid hinv
          clear hinv hA
          have HST := Lib.hid (HSTEP.out j c hlt (val_small _ (by omega)) HCD.out)
          cases b9 <;> cases b1 <;> cases b0 <;> cases bz <;> first
            | (exact absurd hbrk (by decide))
            | (clear hbrk
               go_wp2_with fail
               go_round
               case rel => exact ⟨j + 1, by omega, by omega, ⟨HV.out⟩, by go_num, by rw [HST.out]⟩
               case measure => simp [intOf]; omega)
    · have hbl : decide ((j : Int) < (s0_0.length : Int)) = false := decide_eq_false (by omega)
      have hbl2 : decide (j < s0_0.length) = false := decide_eq_false hlt
      have hinv := HINV.out
      rw [List.drop_eq_nil_of_le (by omega), szS] at hinv
      have HV := Lib.hid hinv
      clear hinv
      go_wp2_with fail
      refine (firkinref01_S_Fail.calls g s0_0 s0_1 [] true w0 _ HI.out hB rfl).mono ?_
      rintro e w2 ⟨rfl, hI2, hB2, hK2⟩
      have h := HH.out
      rw [HV.out, if_pos rfl] at h
      simp only [Prod.mk.injEq] at h
      obtain ⟨rfl, rfl, rfl⟩ := h
      go_wp2_with fail
      go_ret
      exact ⟨rfl, hI2, hB2, hK2⟩
end Go.Proofs.Ytkdlfejokahohaa.X
-- Printed for this claim by a program of this session (wip/xprint.py) over the kit's printer; Lean checks it.
namespace Go.Proofs.Ytkdlfejokahohaa.X
open Go.RowKit Go.Proofs.YtkdlfejokahohaaW.PrintWords Go.Proofs.YtkdlfejokahohaaW.PrintLast Go.Proofs.YtkdlfejokahohaaW.PrintMore
attribute [local go_sem] max2_int min2_int max_two min_two max_three min_three max_four min_four   -- for this text's walks alone
set_option linter.unusedVariables false
set_option linter.unusedSimpArgs false

/-! ### firkinref01_S_Int: function 32 -/
def firkinref01_S_Int.f (s0_0 : List Int) (s0_1 : Bool) : Option (Int × List Int × Bool) := (firkinref01_S_Num.f s0_0 s0_1).bind fun bt258 => (if (Int.tmod bt258.1 2) = 1 then (some (wrap64 ((wrap64 (-(wrap64 (IntKind.u64.wrap (Int.tdiv bt258.1 2))))) - 1), bt258.2.1, bt258.2.2)) else (some (wrap64 (IntKind.u64.wrap (Int.tdiv bt258.1 2)), bt258.2.1, bt258.2.2)))
set_option maxHeartbeats 8000000 in
set_option maxRecDepth 100000 in
theorem firkinref01_S_Int.calls (g : Nat) (s0_0 : List Int) (s0_1 : Bool) (r1 : Int) (r2 : List Int) (r3 : Bool) (w0 w : World) (hI : IsS45 w0 w g s0_0 s0_1) (hB : Below w0.heap.size w0 w) (h : firkinref01_S_Int.f s0_0 s0_1 = some (r1, r2, r3)) :
    Calls Try.prog 32 #[.pointer (some ⟨g, 0, none⟩)] w fun e w' => e = .returned (.int .i64 r1) ∧ IsS45 w0 w' g r2 r3 ∧ Below w0.heap.size w0 w' ∧ KeepBut w w' g none := by
  have HI0 := Aside0.mk hI
  have HK := Aside0.mk (KeepBut.refl w g none)
  have HL := Aside0.mk hB.size
  clear hI
  have HW0 := Aside0.mk hB.size
  have HB := Aside0.mk hB
  clear hB
  have H : ((firkinref01_S_Num.f s0_0 s0_1).bind fun bt258 => (if (Int.tmod bt258.1 2) = 1 then (some (wrap64 ((wrap64 (-(wrap64 (IntKind.u64.wrap (Int.tdiv bt258.1 2))))) - 1), bt258.2.1, bt258.2.2)) else (some (wrap64 (IntKind.u64.wrap (Int.tdiv bt258.1 2)), bt258.2.1, bt258.2.2)))) = some (r1, r2, r3) := h
  clear h
  replace H := Option.bind_eq_some_iff.mp H
  obtain ⟨⟨t258, t259, t260⟩, A20, H⟩ := H
  replace H : (if (Int.tmod t258 2) = 1 then (some (wrap64 ((wrap64 (-(wrap64 (IntKind.u64.wrap (Int.tdiv t258 2))))) - 1), t259, t260)) else (some (wrap64 (IntKind.u64.wrap (Int.tdiv t258 2)), t259, t260))) = some (r1, r2, r3) := H
  have A2 := Aside0.mk A20
  clear A20
  by_cases c3 : (Int.tmod t258 2) = 1
  · rw [if_pos c3] at H
    have c3b0 : ((Int.tmod t258 2) == 1) = true := beq_iff_eq.mpr c3
    have c3b1 : ((Int.tmod t258 2) != 1) = false := bne_eq_false_iff_eq.mpr c3
    clear c3
    simp only [Option.some.injEq, Prod.mk.injEq] at H
    obtain ⟨rfl, rfl, rfl⟩ := H
    go_enter Try.func32, Try.ntmps32
    go_wp2_with (first | ((with_reducible refine gate_callee (f := 30) rfl ?_); refine goesL_ (some 5) rfl rfl Try.func30 (by kernel_rfl) rfl #[.pointer (some ⟨g, 0, none⟩)] rfl (by (try simp only [List.map_toArray, List.map_cons, List.map_nil]); first | done | rfl | (simp only [List.length_drop, List.length_take]; rfl)) ?_; (with_reducible refine (firkinref01_S_Num.calls g s0_0 s0_1 t258 t259 t260 w0 _ ?side1 ?side2 A2.out).mono ?_); (case side1 => repeat (first | (with_reducible first | exact HI0.out | apply IsS45.alloc | apply IsS45.drewN | apply IsS45.drew | apply IsS45.set_0 | apply IsS45.set_1) | exact HI0.out)); (case side2 => repeat (first | (with_reducible first | exact HB.out | apply below_alloc | apply pw_below_drewN | apply below_drew1 | refine below_set ?_ (IsS45.ge HI0.out)) | exact HB.out)); rintro e w4 ⟨rfl, hi, hb, hk⟩; refine ⟨_, rfl, ?_⟩; have n0_ := Aside0.mk (KeepBut.trans (by repeat (first | (with_reducible first | exact HK.out | apply KeepBut.set_ | apply keep_drewN | apply keep_drew | apply keep_alloc) | exact HK.out)) hk (.inl rfl)); have n1_ := Aside0.mk (hb); have n2_ := Aside0.mk (hi); clear HK; clear HB; clear HI0; have HK := n0_; have HB := n1_; have HI0 := n2_; clear n0_ n1_ n2_; (try clear hb); (try clear hb2); (try clear hk); (try clear hi)))
    go_ret
    exact ⟨by first | rfl | (simp [errW_none, errW_some] <;> rfl) | (simp [*, errW_none, errW_some] <;> rfl), by repeat (first | (with_reducible first | exact HI0.out | apply IsS45.alloc | apply IsS45.drewN | apply IsS45.drew | apply IsS45.set_0 | apply IsS45.set_1) | exact HI0.out), by repeat (first | (with_reducible first | exact HB.out | apply below_alloc | apply pw_below_drewN | apply below_drew1 | refine below_set ?_ (IsS45.ge HI0.out)) | exact HB.out), by repeat (first | (with_reducible first | exact HK.out | apply KeepBut.set_ | apply keep_drewN | apply keep_drew | apply keep_alloc) | exact HK.out)⟩
  · rw [if_neg c3] at H
    have c3b0 : ((Int.tmod t258 2) == 1) = false := beq_eq_false_iff_ne.mpr c3
    have c3b1 : ((Int.tmod t258 2) != 1) = true := bne_iff_ne.mpr c3
    simp only [Option.some.injEq, Prod.mk.injEq] at H
    obtain ⟨rfl, rfl, rfl⟩ := H
    go_enter Try.func32, Try.ntmps32
    go_wp2_with (first | ((with_reducible refine gate_callee (f := 30) rfl ?_); refine goesL_ (some 5) rfl rfl Try.func30 (by kernel_rfl) rfl #[.pointer (some ⟨g, 0, none⟩)] rfl (by (try simp only [List.map_toArray, List.map_cons, List.map_nil]); first | done | rfl | (simp only [List.length_drop, List.length_take]; rfl)) ?_; (with_reducible refine (firkinref01_S_Num.calls g s0_0 s0_1 t258 t259 t260 w0 _ ?side1 ?side2 A2.out).mono ?_); (case side1 => repeat (first | (with_reducible first | exact HI0.out | apply IsS45.alloc | apply IsS45.drewN | apply IsS45.drew | apply IsS45.set_0 | apply IsS45.set_1) | exact HI0.out)); (case side2 => repeat (first | (with_reducible first | exact HB.out | apply below_alloc | apply pw_below_drewN | apply below_drew1 | refine below_set ?_ (IsS45.ge HI0.out)) | exact HB.out)); rintro e w5 ⟨rfl, hi, hb, hk⟩; refine ⟨_, rfl, ?_⟩; have n0_ := Aside0.mk (KeepBut.trans (by repeat (first | (with_reducible first | exact HK.out | apply KeepBut.set_ | apply keep_drewN | apply keep_drew | apply keep_alloc) | exact HK.out)) hk (.inl rfl)); have n1_ := Aside0.mk (hb); have n2_ := Aside0.mk (hi); clear HK; clear HB; clear HI0; have HK := n0_; have HB := n1_; have HI0 := n2_; clear n0_ n1_ n2_; (try clear hb); (try clear hb2); (try clear hk); (try clear hi)))
    go_ret
    exact ⟨by first | rfl | (simp [errW_none, errW_some] <;> rfl) | (simp [*, errW_none, errW_some] <;> rfl), by repeat (first | (with_reducible first | exact HI0.out | apply IsS45.alloc | apply IsS45.drewN | apply IsS45.drew | apply IsS45.set_0 | apply IsS45.set_1) | exact HI0.out), by repeat (first | (with_reducible first | exact HB.out | apply below_alloc | apply pw_below_drewN | apply below_drew1 | refine below_set ?_ (IsS45.ge HI0.out)) | exact HB.out), by repeat (first | (with_reducible first | exact HK.out | apply KeepBut.set_ | apply keep_drewN | apply keep_drew | apply keep_alloc) | exact HK.out)⟩

/-! ### firkinref01_S_Below: function 34 -/
def firkinref01_S_Below.f (s0_0 : List Int) (s0_1 : Bool) (a1 : Int) : Option (Int × List Int × Bool) := (firkinref01_S_Num.f s0_0 s0_1).bind fun bt261 => (if bt261.2.2 = true then ((firkinref01_S_Fail.f bt261.2.1 bt261.2.2).bind fun bt264 => (some (0, bt264.1, bt264.2))) else (if a1 < 1 then ((firkinref01_S_Fail.f bt261.2.1 bt261.2.2).bind fun bt266 => (some (0, bt266.1, bt266.2))) else (if bt261.1 ≥ (IntKind.u64.wrap (a1)) then ((firkinref01_S_Fail.f bt261.2.1 bt261.2.2).bind fun bt268 => (some (0, bt268.1, bt268.2))) else (some (wrap64 (bt261.1), bt261.2.1, bt261.2.2)))))
set_option maxHeartbeats 8000000 in
set_option maxRecDepth 100000 in
theorem firkinref01_S_Below.calls (g : Nat) (s0_0 : List Int) (s0_1 : Bool) (a1 : Int) (r1 : Int) (r2 : List Int) (r3 : Bool) (w0 w : World) (hI : IsS45 w0 w g s0_0 s0_1) (hB : Below w0.heap.size w0 w) (h : firkinref01_S_Below.f s0_0 s0_1 a1 = some (r1, r2, r3)) :
    Calls Try.prog 34 #[.pointer (some ⟨g, 0, none⟩), .int .i64 a1] w fun e w' => e = .returned (.int .i64 r1) ∧ IsS45 w0 w' g r2 r3 ∧ Below w0.heap.size w0 w' ∧ KeepBut w w' g none := by
  have HI0 := Aside0.mk hI
  have HK := Aside0.mk (KeepBut.refl w g none)
  have HL := Aside0.mk hB.size
  clear hI
  have HW0 := Aside0.mk hB.size
  have HB := Aside0.mk hB
  clear hB
  have H : ((firkinref01_S_Num.f s0_0 s0_1).bind fun bt261 => (if bt261.2.2 = true then ((firkinref01_S_Fail.f bt261.2.1 bt261.2.2).bind fun bt264 => (some (0, bt264.1, bt264.2))) else (if a1 < 1 then ((firkinref01_S_Fail.f bt261.2.1 bt261.2.2).bind fun bt266 => (some (0, bt266.1, bt266.2))) else (if bt261.1 ≥ (IntKind.u64.wrap (a1)) then ((firkinref01_S_Fail.f bt261.2.1 bt261.2.2).bind fun bt268 => (some (0, bt268.1, bt268.2))) else (some (wrap64 (bt261.1), bt261.2.1, bt261.2.2)))))) = some (r1, r2, r3) := h
  clear h
  replace H := Option.bind_eq_some_iff.mp H
  obtain ⟨⟨t261, t262, t263⟩, A30, H⟩ := H
  replace H : (if t263 = true then ((firkinref01_S_Fail.f t262 t263).bind fun bt264 => (some (0, bt264.1, bt264.2))) else (if a1 < 1 then ((firkinref01_S_Fail.f t262 t263).bind fun bt266 => (some (0, bt266.1, bt266.2))) else (if t261 ≥ (IntKind.u64.wrap (a1)) then ((firkinref01_S_Fail.f t262 t263).bind fun bt268 => (some (0, bt268.1, bt268.2))) else (some (wrap64 (t261), t262, t263))))) = some (r1, r2, r3) := H
  have A3 := Aside0.mk A30
  clear A30
  by_cases c4 : t263 = true
  · subst c4
    have H1 : ((firkinref01_S_Fail.f t262 true).bind fun bt264 => (some (0, bt264.1, bt264.2))) = some (r1, r2, r3) := by rw [if_pos rfl] at H; exact H
    clear H
    have H := H1
    clear H1
    replace H := Option.bind_eq_some_iff.mp H
    obtain ⟨⟨t264, t265⟩, A50, H⟩ := H
    replace H : (some (0, t264, t265)) = some (r1, r2, r3) := H
    have A5 := Aside0.mk A50
    clear A50
    simp only [Option.some.injEq, Prod.mk.injEq] at H
    obtain ⟨rfl, rfl, rfl⟩ := H
    go_enter Try.func34, Try.ntmps34
    go_wp2_with (first | ((with_reducible refine gate_callee (f := 30) rfl ?_); refine goesL_ (some 7) rfl rfl Try.func30 (by kernel_rfl) rfl #[.pointer (some ⟨g, 0, none⟩)] rfl (by (try simp only [List.map_toArray, List.map_cons, List.map_nil]); first | done | rfl | (simp only [List.length_drop, List.length_take]; rfl)) ?_; (with_reducible refine (firkinref01_S_Num.calls g s0_0 s0_1 t261 t262 true w0 _ ?side1 ?side2 A3.out).mono ?_); (case side1 => repeat (first | (with_reducible first | exact HI0.out | apply IsS45.alloc | apply IsS45.drewN | apply IsS45.drew | apply IsS45.set_0 | apply IsS45.set_1) | exact HI0.out)); (case side2 => repeat (first | (with_reducible first | exact HB.out | apply below_alloc | apply pw_below_drewN | apply below_drew1 | refine below_set ?_ (IsS45.ge HI0.out)) | exact HB.out)); rintro e w6 ⟨rfl, hi, hb, hk⟩; refine ⟨_, rfl, ?_⟩; have n0_ := Aside0.mk (KeepBut.trans (by repeat (first | (with_reducible first | exact HK.out | apply KeepBut.set_ | apply keep_drewN | apply keep_drew | apply keep_alloc) | exact HK.out)) hk (.inl rfl)); have n1_ := Aside0.mk (hb); have n2_ := Aside0.mk (hi); clear HK; clear HB; clear HI0; have HK := n0_; have HB := n1_; have HI0 := n2_; clear n0_ n1_ n2_; (try clear hb); (try clear hb2); (try clear hk); (try clear hi); obtain ⟨ASz7_0, cSz7_0, HGz7, hgz7, ⟨HSz7_0, _⟩⟩ := HI0.out; have hcz7_0 := cellS45_0 HGz7; have hcz7_1 := cellS45_1 HGz7; have hfz7_0 := blk_frozen HGz7 0; have hfz7_1 := blk_frozen HGz7 1; clear HGz7 hgz7) | ((with_reducible refine gate_callee (f := 40) rfl ?_); refine goesL_ (some 23) rfl rfl Try.func40 (by kernel_rfl) rfl #[.pointer (some ⟨g, 0, none⟩)] rfl (by (try simp only [List.map_toArray, List.map_cons, List.map_nil]); first | done | rfl | (simp only [List.length_drop, List.length_take]; rfl)) ?_; (with_reducible refine (firkinref01_S_Fail.calls g t262 true t264 t265 w0 _ ?side1 ?side2 A5.out).mono ?_); (case side1 => repeat (first | (with_reducible first | exact HI0.out | apply IsS45.alloc | apply IsS45.drewN | apply IsS45.drew | apply IsS45.set_0 | apply IsS45.set_1) | exact HI0.out)); (case side2 => repeat (first | (with_reducible first | exact HB.out | apply below_alloc | apply pw_below_drewN | apply below_drew1 | refine below_set ?_ (IsS45.ge HI0.out)) | exact HB.out)); rintro e w8 ⟨rfl, hi, hb, hk⟩; refine ⟨_, rfl, ?_⟩; have n0_ := Aside0.mk (KeepBut.trans (by repeat (first | (with_reducible first | exact HK.out | apply KeepBut.set_ | apply keep_drewN | apply keep_drew | apply keep_alloc) | exact HK.out)) hk (.inl rfl)); have n1_ := Aside0.mk (hb); have n2_ := Aside0.mk (hi); clear HK; clear HB; clear HI0; have HK := n0_; have HB := n1_; have HI0 := n2_; clear n0_ n1_ n2_; (try clear hb); (try clear hb2); (try clear hk); (try clear hi)))
    go_ret
    exact ⟨by first | rfl | (simp [errW_none, errW_some] <;> rfl) | (simp [*, errW_none, errW_some] <;> rfl), by repeat (first | (with_reducible first | exact HI0.out | apply IsS45.alloc | apply IsS45.drewN | apply IsS45.drew | apply IsS45.set_0 | apply IsS45.set_1) | exact HI0.out), by repeat (first | (with_reducible first | exact HB.out | apply below_alloc | apply pw_below_drewN | apply below_drew1 | refine below_set ?_ (IsS45.ge HI0.out)) | exact HB.out), by repeat (first | (with_reducible first | exact HK.out | apply KeepBut.set_ | apply keep_drewN | apply keep_drew | apply keep_alloc) | exact HK.out)⟩
  · replace c4 := Bool.eq_false_iff.mpr c4
    subst c4
    have H1 : (if a1 < 1 then ((firkinref01_S_Fail.f t262 false).bind fun bt266 => (some (0, bt266.1, bt266.2))) else (if t261 ≥ (IntKind.u64.wrap (a1)) then ((firkinref01_S_Fail.f t262 false).bind fun bt268 => (some (0, bt268.1, bt268.2))) else (some (wrap64 (t261), t262, false)))) = some (r1, r2, r3) := by rw [if_neg (show ¬ (false = true) by decide)] at H; exact H
    clear H
    have H := H1
    clear H1
    by_cases c9 : a1 < 1
    · rw [if_pos c9] at H
      have c9b0 : decide (a1 < 1) = true := decide_eq_true c9
      clear c9
      replace H := Option.bind_eq_some_iff.mp H
      obtain ⟨⟨t266, t267⟩, A100, H⟩ := H
      replace H : (some (0, t266, t267)) = some (r1, r2, r3) := H
      have A10 := Aside0.mk A100
      clear A100
      simp only [Option.some.injEq, Prod.mk.injEq] at H
      obtain ⟨rfl, rfl, rfl⟩ := H
      go_enter Try.func34, Try.ntmps34
      go_wp2_with (first | ((with_reducible refine gate_callee (f := 30) rfl ?_); refine goesL_ (some 7) rfl rfl Try.func30 (by kernel_rfl) rfl #[.pointer (some ⟨g, 0, none⟩)] rfl (by (try simp only [List.map_toArray, List.map_cons, List.map_nil]); first | done | rfl | (simp only [List.length_drop, List.length_take]; rfl)) ?_; (with_reducible refine (firkinref01_S_Num.calls g s0_0 s0_1 t261 t262 false w0 _ ?side1 ?side2 A3.out).mono ?_); (case side1 => repeat (first | (with_reducible first | exact HI0.out | apply IsS45.alloc | apply IsS45.drewN | apply IsS45.drew | apply IsS45.set_0 | apply IsS45.set_1) | exact HI0.out)); (case side2 => repeat (first | (with_reducible first | exact HB.out | apply below_alloc | apply pw_below_drewN | apply below_drew1 | refine below_set ?_ (IsS45.ge HI0.out)) | exact HB.out)); rintro e w11 ⟨rfl, hi, hb, hk⟩; refine ⟨_, rfl, ?_⟩; have n0_ := Aside0.mk (KeepBut.trans (by repeat (first | (with_reducible first | exact HK.out | apply KeepBut.set_ | apply keep_drewN | apply keep_drew | apply keep_alloc) | exact HK.out)) hk (.inl rfl)); have n1_ := Aside0.mk (hb); have n2_ := Aside0.mk (hi); clear HK; clear HB; clear HI0; have HK := n0_; have HB := n1_; have HI0 := n2_; clear n0_ n1_ n2_; (try clear hb); (try clear hb2); (try clear hk); (try clear hi); obtain ⟨ASz12_0, cSz12_0, HGz12, hgz12, ⟨HSz12_0, _⟩⟩ := HI0.out; have hcz12_0 := cellS45_0 HGz12; have hcz12_1 := cellS45_1 HGz12; have hfz12_0 := blk_frozen HGz12 0; have hfz12_1 := blk_frozen HGz12 1; clear HGz12 hgz12) | ((with_reducible refine gate_callee (f := 40) rfl ?_); refine goesL_ (some 23) rfl rfl Try.func40 (by kernel_rfl) rfl #[.pointer (some ⟨g, 0, none⟩)] rfl (by (try simp only [List.map_toArray, List.map_cons, List.map_nil]); first | done | rfl | (simp only [List.length_drop, List.length_take]; rfl)) ?_; (with_reducible refine (firkinref01_S_Fail.calls g t262 false t266 t267 w0 _ ?side1 ?side2 A10.out).mono ?_); (case side1 => repeat (first | (with_reducible first | exact HI0.out | apply IsS45.alloc | apply IsS45.drewN | apply IsS45.drew | apply IsS45.set_0 | apply IsS45.set_1) | exact HI0.out)); (case side2 => repeat (first | (with_reducible first | exact HB.out | apply below_alloc | apply pw_below_drewN | apply below_drew1 | refine below_set ?_ (IsS45.ge HI0.out)) | exact HB.out)); rintro e w13 ⟨rfl, hi, hb, hk⟩; refine ⟨_, rfl, ?_⟩; have n0_ := Aside0.mk (KeepBut.trans (by repeat (first | (with_reducible first | exact HK.out | apply KeepBut.set_ | apply keep_drewN | apply keep_drew | apply keep_alloc) | exact HK.out)) hk (.inl rfl)); have n1_ := Aside0.mk (hb); have n2_ := Aside0.mk (hi); clear HK; clear HB; clear HI0; have HK := n0_; have HB := n1_; have HI0 := n2_; clear n0_ n1_ n2_; (try clear hb); (try clear hb2); (try clear hk); (try clear hi)))
      go_ret
      exact ⟨by first | rfl | (simp [errW_none, errW_some] <;> rfl) | (simp [*, errW_none, errW_some] <;> rfl), by repeat (first | (with_reducible first | exact HI0.out | apply IsS45.alloc | apply IsS45.drewN | apply IsS45.drew | apply IsS45.set_0 | apply IsS45.set_1) | exact HI0.out), by repeat (first | (with_reducible first | exact HB.out | apply below_alloc | apply pw_below_drewN | apply below_drew1 | refine below_set ?_ (IsS45.ge HI0.out)) | exact HB.out), by repeat (first | (with_reducible first | exact HK.out | apply KeepBut.set_ | apply keep_drewN | apply keep_drew | apply keep_alloc) | exact HK.out)⟩
    · rw [if_neg c9] at H
      have c9b0 : decide (a1 < 1) = false := decide_eq_false c9
      clear c9
      by_cases c14 : t261 ≥ (IntKind.u64.wrap (a1))
      · rw [if_pos c14] at H
        have c14b0 : decide ((IntKind.u64.wrap (a1)) ≤ t261) = true := decide_eq_true c14
        clear c14
        replace H := Option.bind_eq_some_iff.mp H
        obtain ⟨⟨t268, t269⟩, A150, H⟩ := H
        replace H : (some (0, t268, t269)) = some (r1, r2, r3) := H
        have A15 := Aside0.mk A150
        clear A150
        simp only [Option.some.injEq, Prod.mk.injEq] at H
        obtain ⟨rfl, rfl, rfl⟩ := H
        go_enter Try.func34, Try.ntmps34
        go_wp2_with (first | ((with_reducible refine gate_callee (f := 30) rfl ?_); refine goesL_ (some 7) rfl rfl Try.func30 (by kernel_rfl) rfl #[.pointer (some ⟨g, 0, none⟩)] rfl (by (try simp only [List.map_toArray, List.map_cons, List.map_nil]); first | done | rfl | (simp only [List.length_drop, List.length_take]; rfl)) ?_; (with_reducible refine (firkinref01_S_Num.calls g s0_0 s0_1 t261 t262 false w0 _ ?side1 ?side2 A3.out).mono ?_); (case side1 => repeat (first | (with_reducible first | exact HI0.out | apply IsS45.alloc | apply IsS45.drewN | apply IsS45.drew | apply IsS45.set_0 | apply IsS45.set_1) | exact HI0.out)); (case side2 => repeat (first | (with_reducible first | exact HB.out | apply below_alloc | apply pw_below_drewN | apply below_drew1 | refine below_set ?_ (IsS45.ge HI0.out)) | exact HB.out)); rintro e w16 ⟨rfl, hi, hb, hk⟩; refine ⟨_, rfl, ?_⟩; have n0_ := Aside0.mk (KeepBut.trans (by repeat (first | (with_reducible first | exact HK.out | apply KeepBut.set_ | apply keep_drewN | apply keep_drew | apply keep_alloc) | exact HK.out)) hk (.inl rfl)); have n1_ := Aside0.mk (hb); have n2_ := Aside0.mk (hi); clear HK; clear HB; clear HI0; have HK := n0_; have HB := n1_; have HI0 := n2_; clear n0_ n1_ n2_; (try clear hb); (try clear hb2); (try clear hk); (try clear hi); obtain ⟨ASz17_0, cSz17_0, HGz17, hgz17, ⟨HSz17_0, _⟩⟩ := HI0.out; have hcz17_0 := cellS45_0 HGz17; have hcz17_1 := cellS45_1 HGz17; have hfz17_0 := blk_frozen HGz17 0; have hfz17_1 := blk_frozen HGz17 1; clear HGz17 hgz17) | ((with_reducible refine gate_callee (f := 40) rfl ?_); refine goesL_ (some 23) rfl rfl Try.func40 (by kernel_rfl) rfl #[.pointer (some ⟨g, 0, none⟩)] rfl (by (try simp only [List.map_toArray, List.map_cons, List.map_nil]); first | done | rfl | (simp only [List.length_drop, List.length_take]; rfl)) ?_; (with_reducible refine (firkinref01_S_Fail.calls g t262 false t268 t269 w0 _ ?side1 ?side2 A15.out).mono ?_); (case side1 => repeat (first | (with_reducible first | exact HI0.out | apply IsS45.alloc | apply IsS45.drewN | apply IsS45.drew | apply IsS45.set_0 | apply IsS45.set_1) | exact HI0.out)); (case side2 => repeat (first | (with_reducible first | exact HB.out | apply below_alloc | apply pw_below_drewN | apply below_drew1 | refine below_set ?_ (IsS45.ge HI0.out)) | exact HB.out)); rintro e w18 ⟨rfl, hi, hb, hk⟩; refine ⟨_, rfl, ?_⟩; have n0_ := Aside0.mk (KeepBut.trans (by repeat (first | (with_reducible first | exact HK.out | apply KeepBut.set_ | apply keep_drewN | apply keep_drew | apply keep_alloc) | exact HK.out)) hk (.inl rfl)); have n1_ := Aside0.mk (hb); have n2_ := Aside0.mk (hi); clear HK; clear HB; clear HI0; have HK := n0_; have HB := n1_; have HI0 := n2_; clear n0_ n1_ n2_; (try clear hb); (try clear hb2); (try clear hk); (try clear hi)))
        go_ret
        exact ⟨by first | rfl | (simp [errW_none, errW_some] <;> rfl) | (simp [*, errW_none, errW_some] <;> rfl), by repeat (first | (with_reducible first | exact HI0.out | apply IsS45.alloc | apply IsS45.drewN | apply IsS45.drew | apply IsS45.set_0 | apply IsS45.set_1) | exact HI0.out), by repeat (first | (with_reducible first | exact HB.out | apply below_alloc | apply pw_below_drewN | apply below_drew1 | refine below_set ?_ (IsS45.ge HI0.out)) | exact HB.out), by repeat (first | (with_reducible first | exact HK.out | apply KeepBut.set_ | apply keep_drewN | apply keep_drew | apply keep_alloc) | exact HK.out)⟩
      · rw [if_neg c14] at H
        have c14b0 : decide ((IntKind.u64.wrap (a1)) ≤ t261) = false := decide_eq_false c14
        clear c14
        simp only [Option.some.injEq, Prod.mk.injEq] at H
        obtain ⟨rfl, rfl, rfl⟩ := H
        go_enter Try.func34, Try.ntmps34
        go_wp2_with (first | ((with_reducible refine gate_callee (f := 30) rfl ?_); refine goesL_ (some 7) rfl rfl Try.func30 (by kernel_rfl) rfl #[.pointer (some ⟨g, 0, none⟩)] rfl (by (try simp only [List.map_toArray, List.map_cons, List.map_nil]); first | done | rfl | (simp only [List.length_drop, List.length_take]; rfl)) ?_; (with_reducible refine (firkinref01_S_Num.calls g s0_0 s0_1 t261 t262 false w0 _ ?side1 ?side2 A3.out).mono ?_); (case side1 => repeat (first | (with_reducible first | exact HI0.out | apply IsS45.alloc | apply IsS45.drewN | apply IsS45.drew | apply IsS45.set_0 | apply IsS45.set_1) | exact HI0.out)); (case side2 => repeat (first | (with_reducible first | exact HB.out | apply below_alloc | apply pw_below_drewN | apply below_drew1 | refine below_set ?_ (IsS45.ge HI0.out)) | exact HB.out)); rintro e w19 ⟨rfl, hi, hb, hk⟩; refine ⟨_, rfl, ?_⟩; have n0_ := Aside0.mk (KeepBut.trans (by repeat (first | (with_reducible first | exact HK.out | apply KeepBut.set_ | apply keep_drewN | apply keep_drew | apply keep_alloc) | exact HK.out)) hk (.inl rfl)); have n1_ := Aside0.mk (hb); have n2_ := Aside0.mk (hi); clear HK; clear HB; clear HI0; have HK := n0_; have HB := n1_; have HI0 := n2_; clear n0_ n1_ n2_; (try clear hb); (try clear hb2); (try clear hk); (try clear hi); obtain ⟨ASz20_0, cSz20_0, HGz20, hgz20, ⟨HSz20_0, _⟩⟩ := HI0.out; have hcz20_0 := cellS45_0 HGz20; have hcz20_1 := cellS45_1 HGz20; have hfz20_0 := blk_frozen HGz20 0; have hfz20_1 := blk_frozen HGz20 1; clear HGz20 hgz20))
        go_ret
        exact ⟨by first | rfl | (simp [errW_none, errW_some] <;> rfl) | (simp [*, errW_none, errW_some] <;> rfl), by repeat (first | (with_reducible first | exact HI0.out | apply IsS45.alloc | apply IsS45.drewN | apply IsS45.drew | apply IsS45.set_0 | apply IsS45.set_1) | exact HI0.out), by repeat (first | (with_reducible first | exact HB.out | apply below_alloc | apply pw_below_drewN | apply below_drew1 | refine below_set ?_ (IsS45.ge HI0.out)) | exact HB.out), by repeat (first | (with_reducible first | exact HK.out | apply KeepBut.set_ | apply keep_drewN | apply keep_drew | apply keep_alloc) | exact HK.out)⟩

end Go.Proofs.Ytkdlfejokahohaa.X
/- The contract of (*firkinref01.S).Take: the first bytes, in memory of their own; or it failed. -/
namespace Go.Proofs.Ytkdlfejokahohaa.X
open Go.RowKit Go.Proofs.YtkdlfejokahohaaW.PrintWords Go.Proofs.YtkdlfejokahohaaW.PrintLast Go.Proofs.YtkdlfejokahohaaW.PrintMore
set_option linter.unusedVariables false
set_option linter.unusedSimpArgs false
def rtakeS (l : List Int) (bad : Bool) (n : Int) : List Int × List Int × Bool :=
  if bad = true ∨ n < 0 ∨ (l.length : Int) < n then ([], [], true) else (l.take n.toNat, l.drop n.toNat, false)
def firkinref01_S_Take.f (l : List Int) (bad : Bool) (n : Int) : Option (List Int × List Int × Bool) := if l.length < 1000000000000 then some (rtakeS l bad n) else none
set_option maxHeartbeats 8000000 in
set_option maxRecDepth 100000 in
theorem firkinref01_S_Take.calls (g : Nat) (s0_0 : List Int) (s0_1 : Bool) (a1 : Int) (r1 : List Int) (r2 : List Int) (r3 : Bool) (w0 w : World) (hI : IsS45 w0 w g s0_0 s0_1) (hB : Below w0.heap.size w0 w) (h : firkinref01_S_Take.f s0_0 s0_1 a1 = some (r1, r2, r3)) :
    Calls Try.prog 38 #[.pointer (some ⟨g, 0, none⟩), .int .i64 a1] w fun e w' => ∃ v0_ : Value, e = .returned v0_ ∧ Kd.R (Kd.int .u8) 5 w' w.heap.size (fun _ => True) v0_ r1 ∧ IsS45 w0 w' g r2 r3 ∧ Below w0.heap.size w0 w' ∧ KeepBut w w' g none := by
  unfold firkinref01_S_Take.f at h
  by_cases hf : s0_0.length < 1000000000000
  case neg => rw [if_neg hf] at h; cases h
  rw [if_pos hf] at h
  have h := Option.some.inj h
  unfold rtakeS at h
  have HF := Aside0.mk hf
  have HI := Aside0.mk hI
  obtain ⟨A1, c1, hb1, hg1, hr1, hc1⟩ := hI
  have h0 : w.cell? ⟨g, 0, none⟩ = some (.slice A1 s0_0.length c1) := (blk_cell hb1 0).trans rfl
  have h1 : w.cell? ⟨g, 1, none⟩ = some (.bool s0_1) := (blk_cell hb1 1).trans rfl
  have HB1 := Aside0.mk hb1
  clear hf hb1
  have hu := Try.underlying45
  by_cases ht : s0_1 = true ∨ a1 < 0 ∨ (s0_0.length : Int) < a1
  · rw [if_pos ht] at h
    simp only [Prod.mk.injEq] at h
    obtain ⟨rfl, rfl, rfl⟩ := h
    obtain ⟨bn, hbn⟩ : ∃ b_ : Bool, decide (a1 < 0) = b_ := ⟨_, rfl⟩
    obtain ⟨bl, hbl⟩ : ∃ b_ : Bool, decide ((s0_0.length : Int) < a1) = b_ := ⟨_, rfl⟩
    have hx : (s0_1 || bn || bl) = true := by rw [← hbn, ← hbl]; simp only [Bool.or_eq_true, decide_eq_true_eq]; exact (or_assoc).mpr ht
    clear ht
    cases s0_1 <;> cases bn <;> cases bl <;> first
      | (exact absurd hx (by decide))
      | (clear hx
         go_enter Try.func38, Try.ntmps38
         go_wp2_with fail
         refine (firkinref01_S_Fail.calls g s0_0 _ [] true w0 _ HI.out hB rfl).mono ?_
         rintro e w2 ⟨rfl, hI2, hB2, hK2⟩
         go_wp2_with fail
         go_ret
         exact ⟨_, rfl, Kd.R_nil _ _ _ _ _, hI2, hB2, hK2⟩)
  · rw [if_neg ht] at h
    simp only [Prod.mk.injEq] at h
    obtain ⟨rfl, rfl, rfl⟩ := h
    have hbad : s0_1 = false := by cases s0_1 <;> simp_all
    subst hbad
    obtain ⟨m, rfl⟩ : ∃ m : Nat, a1 = (m : Int) := ⟨a1.toNat, by omega⟩
    rw [Int.toNat_natCast]
    have hm : m ≤ s0_0.length := by omega
    have hbn : decide ((m : Int) < 0) = false := decide_eq_false (by omega)
    have hbl : decide ((s0_0.length : Int) < (m : Int)) = false := decide_eq_false (by omega)
    have hbl2 : decide (s0_0.length < m) = false := decide_eq_false (by omega)
    have hlm : (s0_0.take m).length = m := by rw [List.length_take]; omega
    have HCT : Aside0 (Kd.C (Kd.int .u8) w A1 m (s0_0.take m)) := ⟨by have := Kd.C_take (Kd.C_below hr1 hB) hm; rwa [hlm] at this⟩
    have HLM := Aside0.mk hlm
    clear ht hlm
    obtain ⟨i5, hi5, hsz5⟩ : ∃ i, Try.prog.info? 5 = some i ∧ i.size = (Kd.int .u8).sz := by
      obtain ⟨i, hi, hz⟩ := Option.map_eq_some_iff.1 info5
      simp only [Prod.mk.injEq] at hz
      exact ⟨i, hi, hz.2.1⟩
    obtain ⟨A', hcut, hCd, hld, hcd⟩ := Mem.cut_from' (P := Try.prog) (d := Kd.int .u8) 31 5 .i64 Try.underlying31 hi5 hsz5 (m := m) hr1 hm hc1
    have HD := Aside0.mk hCd
    have HLD := Aside0.mk hld
    clear hCd hld hi5
    go_enter Try.func38, Try.ntmps38
    go_wp2_with (first | ((with_reducible refine gate_dst (N := 25) rfl ?_); refine Kd.R_lit (Kd.int .u8) _ 5 ?hg (N := 25) ?hd (xs := ([] : List Int)) (inner := []) (ok := fun _ => True) (okp := fun _ => True) ?hr ?hp (fun _ hk => hk) trivial (Below.refl _ _) (Nat.le_refl _) (by simp) ?_; (case hd => rfl); (case hg => rfl); (case hr => first | (go_simp; done) | (go_simp; rfl)); (case hp => exact (Reps.none _ _)); intro v205 w2 ho3 hb hg_ hnew_; clear hg_ hnew_; have HO := Aside0.mk ho3; have HB := Aside0.mk hb; have h0b : w2.cell? ⟨g, 0, none⟩ = some (.slice A1 s0_0.length c1) := (blk_cell (blk_below HB1.out hb) 0).trans rfl; clear ho3 hb) | ((with_reducible refine gate_builtin (b := .append) (xs := #[.tmp 25, .tmp 31]) rfl ?_); at_builtin; refine Kd.R_append_rows (Kd.int .u8) (w0 := w) w.heap.size rfl (.tmp 25) (.tmp 31) 31 5 (.int .u8 0) 1 rfl Try.underlying31 info5 rfl (by decide) (by omega) v205 [] (s0_0.take m) _ _ _ (fun _ => True) (fun _ => False) rfl rfl HO.out (Kd.C_below HCT.out HB.out) (fun _ _ h => h) (fun _ h => h.elim) (fun _ _ => trivial) HB.out (below_size HB.out) (by have := HF.out; rw [List.length_nil]; omega) ?_; intro v4 w4 ho hb hg hat; have HO4 := Aside0.mk ho; have HB4 := Aside0.mk hb; have h0c : w4.cell? ⟨g, 0, none⟩ = some (.slice A1 s0_0.length c1) := (blk_cell (blk_below HB1.out hb) 0).trans rfl; have f0c := blk_frozen (blk_below HB1.out hb) 0; clear HO HB ho hb hg hat))
    go_ret
    have h2 := blk_set (blk_below HB1.out HB4.out) 0 (.slice A' (s0_0.length - m) (c1 - m))
    have HG : Aside0 (g < w.heap.size) := ⟨blk_lt HB1.out⟩
    refine ⟨_, rfl, ?_, ⟨A', c1 - m, ?_, hg1, ?_, ?_⟩, below_set (below_step hB HB4.out) hg1, KeepBut.set_ (KeepBut.of_below HB4.out g none) 0 _⟩
    · have h5 := Kd.R_far (p := ⟨g, 0, none⟩) (Kd.R_bound HO4.out) (fun k hk => by have := HG.out; have := hk.2.1; show k ≠ g; omega) (.slice A' (s0_0.length - m) (c1 - m))
      rw [List.nil_append] at h5
      exact Kd.R_mono h5 (fun _ _ => trivial)
    · rw [HLD.out]; simpa using h2
    · rw [HLD.out]; exact HD.out
    · rw [HLD.out]; exact hcd
end Go.Proofs.Ytkdlfejokahohaa.X
-- Printed for this claim by a program of this session (wip/xprint.py) over the kit's printer; Lean checks it.
namespace Go.Proofs.Ytkdlfejokahohaa.X
open Go.RowKit Go.Proofs.YtkdlfejokahohaaW.PrintWords Go.Proofs.YtkdlfejokahohaaW.PrintLast Go.Proofs.YtkdlfejokahohaaW.PrintMore
attribute [local go_sem] max2_int min2_int max_two min_two max_three min_three max_four min_four   -- for this text's walks alone
set_option linter.unusedVariables false
set_option linter.unusedSimpArgs false

/-! ### firkinref01_S_Text: function 36 -/
def firkinref01_S_Text.j0 : Nat → Int → Bool → List Int → Bool → Option (ByteArray × List Int × Bool)
  | 0, _, _, _, _ => none
  | k + 1, x5, x31, x1000, x1001 => if x31 = true then ((firkinref01_S_Fail.f x1000 x1001).bind fun bt275 => (some ((⟨#[]⟩ : ByteArray), bt275.1, bt275.2))) else ((firkinref01_S_Take.f x1000 x1001 (wrap64 (x5))).bind fun bt277 => (some (strOfNums bt277.1, bt277.2.1, bt277.2.2)))
def firkinref01_S_Text.f (k : Nat) (s0_0 : List Int) (s0_1 : Bool) (a1 : Int) : Option (ByteArray × List Int × Bool) := if a1 < 0 then ((firkinref01_S_Fail.f s0_0 s0_1).bind fun bt270 => (some ((⟨#[]⟩ : ByteArray), bt270.1, bt270.2))) else ((firkinref01_S_Num.f s0_0 s0_1).bind fun bt272 => (if bt272.2.2 = true then (firkinref01_S_Text.j0 k bt272.1 true bt272.2.1 bt272.2.2) else (if bt272.1 > (IntKind.u64.wrap (a1)) then (firkinref01_S_Text.j0 k bt272.1 true bt272.2.1 bt272.2.2) else (firkinref01_S_Text.j0 k bt272.1 (decide (bt272.1 > (IntKind.u64.wrap ((bt272.2.1.length : Int))))) bt272.2.1 bt272.2.2))))
theorem firkinref01_S_Text.mono_l : ∀ k, (∀ y0 y1 y2 y3, LeO (firkinref01_S_Text.j0 k y0 y1 y2 y3) (firkinref01_S_Text.j0 (k + 1) y0 y1 y2 y3))
  | 0 => fun _ _ _ _ r h => by simp [firkinref01_S_Text.j0] at h
  | k + 1 => by
    have ih0 := firkinref01_S_Text.mono_l k
    · intro y0 y1 y2 y3
      unfold firkinref01_S_Text.j0
      repeat' first
      | (with_reducible exact ih0 _ _ _ _)
      | (with_reducible exact LeO.refl _)
      | (with_reducible exact LeO.none _)
      | (with_reducible refine LeO.ite ?_ ?_)
      | (with_reducible refine LeO.bind ?_ (fun _ => ?_))
      | exact ih0 _ _ _ _
      | exact LeO.none _
      | refine LeO.ite ?_ ?_
      | refine LeO.bind ?_ (fun _ => ?_)
theorem firkinref01_S_Text.mono : ∀ a0 a1 a2 k, LeO (firkinref01_S_Text.f k a0 a1 a2) (firkinref01_S_Text.f (k + 1) a0 a1 a2) := by
  intro a0 a1 a2 k
  have ih0 := firkinref01_S_Text.mono_l k
  unfold firkinref01_S_Text.f
  repeat' first
      | (with_reducible exact ih0 _ _ _ _)
      | (with_reducible exact LeO.refl _)
      | (with_reducible exact LeO.none _)
      | (with_reducible refine LeO.ite ?_ ?_)
      | (with_reducible refine LeO.bind ?_ (fun _ => ?_))
      | exact ih0 _ _ _ _
      | exact LeO.none _
      | refine LeO.ite ?_ ?_
      | refine LeO.bind ?_ (fun _ => ?_)
set_option maxHeartbeats 8000000 in
set_option maxRecDepth 100000 in
theorem firkinref01_S_Text.calls (k : Nat) (g : Nat) (s0_0 : List Int) (s0_1 : Bool) (a1 : Int) (r1 : ByteArray) (r2 : List Int) (r3 : Bool) (w0 w : World) (hI : IsS45 w0 w g s0_0 s0_1) (hB : Below w0.heap.size w0 w) (h : firkinref01_S_Text.f k s0_0 s0_1 a1 = some (r1, r2, r3)) :
    Calls Try.prog 36 #[.pointer (some ⟨g, 0, none⟩), .int .i64 a1] w fun e w' => e = .returned (.string r1) ∧ IsS45 w0 w' g r2 r3 ∧ Below w0.heap.size w0 w' ∧ KeepBut w w' g none := by
  have HI0 := Aside0.mk hI
  have HK := Aside0.mk (KeepBut.refl w g none)
  have HL := Aside0.mk hB.size
  clear hI
  have HW0 := Aside0.mk hB.size
  have HB := Aside0.mk hB
  clear hB
  have H : (if a1 < 0 then ((firkinref01_S_Fail.f s0_0 s0_1).bind fun bt270 => (some ((⟨#[]⟩ : ByteArray), bt270.1, bt270.2))) else ((firkinref01_S_Num.f s0_0 s0_1).bind fun bt272 => (if bt272.2.2 = true then (firkinref01_S_Text.j0 k bt272.1 true bt272.2.1 bt272.2.2) else (if bt272.1 > (IntKind.u64.wrap (a1)) then (firkinref01_S_Text.j0 k bt272.1 true bt272.2.1 bt272.2.2) else (firkinref01_S_Text.j0 k bt272.1 (decide (bt272.1 > (IntKind.u64.wrap ((bt272.2.1.length : Int))))) bt272.2.1 bt272.2.2))))) = some (r1, r2, r3) := h
  clear h
  by_cases c3 : a1 < 0
  · rw [if_pos c3] at H
    have c3b0 : decide (a1 < 0) = true := decide_eq_true c3
    clear c3
    replace H := Option.bind_eq_some_iff.mp H
    obtain ⟨⟨t270, t271⟩, A40, H⟩ := H
    replace H : (some ((⟨#[]⟩ : ByteArray), t270, t271)) = some (r1, r2, r3) := H
    have A4 := Aside0.mk A40
    clear A40
    simp only [Option.some.injEq, Prod.mk.injEq] at H
    obtain ⟨rfl, rfl, rfl⟩ := H
    go_enter Try.func36, Try.ntmps36
    go_wp2_with (first | ((with_reducible refine gate_callee (f := 40) rfl ?_); refine goesL_ (some 9) rfl rfl Try.func40 (by kernel_rfl) rfl #[.pointer (some ⟨g, 0, none⟩)] rfl (by (try simp only [List.map_toArray, List.map_cons, List.map_nil]); first | done | rfl | (simp only [List.length_drop, List.length_take]; rfl)) ?_; (with_reducible refine (firkinref01_S_Fail.calls g s0_0 s0_1 t270 t271 w0 _ ?side1 ?side2 A4.out).mono ?_); (case side1 => repeat (first | (with_reducible first | exact HI0.out | apply IsS45.alloc | apply IsS45.drewN | apply IsS45.drew | apply IsS45.set_0 | apply IsS45.set_1) | exact HI0.out)); (case side2 => repeat (first | (with_reducible first | exact HB.out | apply below_alloc | apply pw_below_drewN | apply below_drew1 | refine below_set ?_ (IsS45.ge HI0.out)) | exact HB.out)); rintro e w5 ⟨rfl, hi, hb, hk⟩; refine ⟨_, rfl, ?_⟩; have n0_ := Aside0.mk (KeepBut.trans (by repeat (first | (with_reducible first | exact HK.out | apply KeepBut.set_ | apply keep_drewN | apply keep_drew | apply keep_alloc) | exact HK.out)) hk (.inl rfl)); have n1_ := Aside0.mk (hb); have n2_ := Aside0.mk (hi); clear HK; clear HB; clear HI0; have HK := n0_; have HB := n1_; have HI0 := n2_; clear n0_ n1_ n2_; (try clear hb); (try clear hb2); (try clear hk); (try clear hi)))
    go_ret
    exact ⟨by first | rfl | (simp [errW_none, errW_some] <;> rfl) | (simp [*, errW_none, errW_some] <;> rfl), by repeat (first | (with_reducible first | exact HI0.out | apply IsS45.alloc | apply IsS45.drewN | apply IsS45.drew | apply IsS45.set_0 | apply IsS45.set_1) | exact HI0.out), by repeat (first | (with_reducible first | exact HB.out | apply below_alloc | apply pw_below_drewN | apply below_drew1 | refine below_set ?_ (IsS45.ge HI0.out)) | exact HB.out), by repeat (first | (with_reducible first | exact HK.out | apply KeepBut.set_ | apply keep_drewN | apply keep_drew | apply keep_alloc) | exact HK.out)⟩
  · rw [if_neg c3] at H
    have c3b0 : decide (a1 < 0) = false := decide_eq_false c3
    clear c3
    replace H := Option.bind_eq_some_iff.mp H
    obtain ⟨⟨t272, t273, t274⟩, A60, H⟩ := H
    replace H : (if t274 = true then (firkinref01_S_Text.j0 k t272 true t273 t274) else (if t272 > (IntKind.u64.wrap (a1)) then (firkinref01_S_Text.j0 k t272 true t273 t274) else (firkinref01_S_Text.j0 k t272 (decide (t272 > (IntKind.u64.wrap ((t273.length : Int))))) t273 t274))) = some (r1, r2, r3) := H
    have A6 := Aside0.mk A60
    clear A60
    have HC7 := Aside0.mk H
    clear H
    go_enter Try.func36, Try.ntmps36
    go_upto_region 5 with (first | ((with_reducible refine gate_callee (f := 30) rfl ?_); refine goesL_ (some 11) rfl rfl Try.func30 (by kernel_rfl) rfl #[.pointer (some ⟨g, 0, none⟩)] rfl (by (try simp only [List.map_toArray, List.map_cons, List.map_nil]); first | done | rfl | (simp only [List.length_drop, List.length_take]; rfl)) ?_; (with_reducible refine (firkinref01_S_Num.calls g s0_0 s0_1 t272 t273 t274 w0 _ ?side1 ?side2 A6.out).mono ?_); (case side1 => repeat (first | (with_reducible first | exact HI0.out | apply IsS45.alloc | apply IsS45.drewN | apply IsS45.drew | apply IsS45.set_0 | apply IsS45.set_1) | exact HI0.out)); (case side2 => repeat (first | (with_reducible first | exact HB.out | apply below_alloc | apply pw_below_drewN | apply below_drew1 | refine below_set ?_ (IsS45.ge HI0.out)) | exact HB.out)); rintro e w8 ⟨rfl, hi, hb, hk⟩; refine ⟨_, rfl, ?_⟩; have n0_ := Aside0.mk (KeepBut.trans (by repeat (first | (with_reducible first | exact HK.out | apply KeepBut.set_ | apply keep_drewN | apply keep_drew | apply keep_alloc) | exact HK.out)) hk (.inl rfl)); have n1_ := Aside0.mk (hb); have n2_ := Aside0.mk (hi); clear HK; clear HB; clear HI0; have HK := n0_; have HB := n1_; have HI0 := n2_; clear n0_ n1_ n2_; (try clear hb); (try clear hb2); (try clear hk); (try clear hi)))
    (try simp only [Act.put, List.setIfInBounds_toArray, List.set_cons_zero, List.set_cons_succ])
    go_cut [31] (fun v31 wc => ∃ (kq : Nat) (x31_6 : Bool), v31 = .bool x31_6 ∧ Aside0 (firkinref01_S_Text.j0 kq t272 x31_6 t273 t274 = some (r1, r2, r3)) ∧ Aside0 (kq ≤ k) ∧ Aside0 (IsS45 w0 wc g t273 t274) ∧ Aside0 (KeepBut w wc g none) ∧ Aside0 (Below w0.heap.size w0 wc))
    case first =>
      have H := HC7.out
      clear HC7
      by_cases c9 : t274 = true
      · subst c9
        have H1 : (firkinref01_S_Text.j0 k t272 true t273 true) = some (r1, r2, r3) := by rw [if_pos rfl] at H; exact H
        clear H
        have H := H1
        clear H1
        have H' := Aside0.mk H
        clear H
        obtain ⟨ASz10_0, cSz10_0, HGz10, hgz10, ⟨HSz10_0, _⟩⟩ := HI0.out
        have hcz10_0 := cellS45_0 HGz10
        have hcz10_1 := cellS45_1 HGz10
        have hfz10_0 := blk_frozen HGz10 0
        have hfz10_1 := blk_frozen HGz10 1
        clear HGz10 hgz10
        go_wp2
        go_meet
        case rel => exact ⟨_, (true), (by first | rfl | (simp; done) | (simp [*]; done)), H', ⟨by first | omega | exact Nat.le_refl _⟩, ⟨by repeat (first | (with_reducible first | exact HI0.out | apply IsS45.alloc | apply IsS45.drewN | apply IsS45.drew | apply IsS45.set_0 | apply IsS45.set_1) | exact HI0.out)⟩, ⟨by repeat (first | (with_reducible first | exact HK.out | apply KeepBut.set_ | apply keep_drewN | apply keep_drew | apply keep_alloc) | exact HK.out)⟩, ⟨by repeat (first | (with_reducible first | exact HB.out | apply below_alloc | apply pw_below_drewN | apply below_drew1 | refine below_set ?_ (IsS45.ge HI0.out)) | exact HB.out)⟩⟩
      · replace c9 := Bool.eq_false_iff.mpr c9
        subst c9
        have H1 : (if t272 > (IntKind.u64.wrap (a1)) then (firkinref01_S_Text.j0 k t272 true t273 false) else (firkinref01_S_Text.j0 k t272 (decide (t272 > (IntKind.u64.wrap ((t273.length : Int))))) t273 false)) = some (r1, r2, r3) := by rw [if_neg (show ¬ (false = true) by decide)] at H; exact H
        clear H
        have H := H1
        clear H1
        by_cases c11 : t272 > (IntKind.u64.wrap (a1))
        · rw [if_pos c11] at H
          have c11b0 : decide ((IntKind.u64.wrap (a1)) < t272) = true := decide_eq_true c11
          clear c11
          (first | rw [c11b0] | (simp only [i64_w, i32_w]; rw [c11b0]) | skip)
          have H' := Aside0.mk H
          clear H
          obtain ⟨ASz12_0, cSz12_0, HGz12, hgz12, ⟨HSz12_0, _⟩⟩ := HI0.out
          have hcz12_0 := cellS45_0 HGz12
          have hcz12_1 := cellS45_1 HGz12
          have hfz12_0 := blk_frozen HGz12 0
          have hfz12_1 := blk_frozen HGz12 1
          clear HGz12 hgz12
          go_wp2
          go_meet
          case rel => exact ⟨_, (true), (by first | rfl | (simp; done) | (simp [*]; done)), H', ⟨by first | omega | exact Nat.le_refl _⟩, ⟨by repeat (first | (with_reducible first | exact HI0.out | apply IsS45.alloc | apply IsS45.drewN | apply IsS45.drew | apply IsS45.set_0 | apply IsS45.set_1) | exact HI0.out)⟩, ⟨by repeat (first | (with_reducible first | exact HK.out | apply KeepBut.set_ | apply keep_drewN | apply keep_drew | apply keep_alloc) | exact HK.out)⟩, ⟨by repeat (first | (with_reducible first | exact HB.out | apply below_alloc | apply pw_below_drewN | apply below_drew1 | refine below_set ?_ (IsS45.ge HI0.out)) | exact HB.out)⟩⟩
        · rw [if_neg c11] at H
          have c11b0 : decide ((IntKind.u64.wrap (a1)) < t272) = false := decide_eq_false c11
          clear c11
          (first | rw [c11b0] | (simp only [i64_w, i32_w]; rw [c11b0]) | skip)
          have H' := Aside0.mk H
          clear H
          obtain ⟨ASz13_0, cSz13_0, HGz13, hgz13, ⟨HSz13_0, _⟩⟩ := HI0.out
          have hcz13_0 := cellS45_0 HGz13
          have hcz13_1 := cellS45_1 HGz13
          have hfz13_0 := blk_frozen HGz13 0
          have hfz13_1 := blk_frozen HGz13 1
          clear HGz13 hgz13
          go_wp2
          go_meet
          case rel => exact ⟨_, (decide (t272 > (IntKind.u64.wrap ((t273.length : Int))))), (by first | rfl | (simp; done) | (simp [*]; done)), H', ⟨by first | omega | exact Nat.le_refl _⟩, ⟨by repeat (first | (with_reducible first | exact HI0.out | apply IsS45.alloc | apply IsS45.drewN | apply IsS45.drew | apply IsS45.set_0 | apply IsS45.set_1) | exact HI0.out)⟩, ⟨by repeat (first | (with_reducible first | exact HK.out | apply KeepBut.set_ | apply keep_drewN | apply keep_drew | apply keep_alloc) | exact HK.out)⟩, ⟨by repeat (first | (with_reducible first | exact HB.out | apply below_alloc | apply pw_below_drewN | apply below_drew1 | refine below_set ?_ (IsS45.ge HI0.out)) | exact HB.out)⟩⟩
    case rest =>
      clear HC7
      try clear c1
      try clear p2
      try clear c3
      try clear c3b0
      try clear c4
      try clear c9
      try clear c11
      try clear c11b0
      try clear hcz10_0
      try clear hcz10_1
      try clear hcz12_0
      try clear hcz12_1
      try clear hcz13_0
      try clear hcz13_1
      try clear hfz10_0
      try clear hfz10_1
      try clear hfz12_0
      try clear hfz12_1
      try clear hfz13_0
      try clear hfz13_1
      obtain ⟨kq, x31_6, rfl, HA, HJ6, HI0, HK, HB⟩ := hcut
      cases kq with
      | zero => exact absurd HA.out (by simp [firkinref01_S_Text.j0])
      | succ kj6 =>
        have H := HA.out
        clear HA
        simp only [firkinref01_S_Text.j0] at H
        by_cases c14 : x31_6 = true
        · subst c14
          have H1 : ((firkinref01_S_Fail.f t273 t274).bind fun bt275 => (some ((⟨#[]⟩ : ByteArray), bt275.1, bt275.2))) = some (r1, r2, r3) := by rw [if_pos rfl] at H; exact H
          clear H
          have H := H1
          clear H1
          replace H := Option.bind_eq_some_iff.mp H
          obtain ⟨⟨t275, t276⟩, A150, H⟩ := H
          replace H : (some ((⟨#[]⟩ : ByteArray), t275, t276)) = some (r1, r2, r3) := H
          have A15 := Aside0.mk A150
          clear A150
          simp only [Option.some.injEq, Prod.mk.injEq] at H
          obtain ⟨rfl, rfl, rfl⟩ := H
          go_wp2_with (first | ((with_reducible refine gate_callee (f := 40) rfl ?_); refine goesL_ (some 33) rfl rfl Try.func40 (by kernel_rfl) rfl #[.pointer (some ⟨g, 0, none⟩)] rfl (by (try simp only [List.map_toArray, List.map_cons, List.map_nil]); first | done | rfl | (simp only [List.length_drop, List.length_take]; rfl)) ?_; (with_reducible refine (firkinref01_S_Fail.calls g t273 t274 t275 t276 w0 _ ?side1 ?side2 A15.out).mono ?_); (case side1 => repeat (first | (with_reducible first | exact HI0.out | apply IsS45.alloc | apply IsS45.drewN | apply IsS45.drew | apply IsS45.set_0 | apply IsS45.set_1) | exact HI0.out)); (case side2 => repeat (first | (with_reducible first | exact HB.out | apply below_alloc | apply pw_below_drewN | apply below_drew1 | refine below_set ?_ (IsS45.ge HI0.out)) | exact HB.out)); rintro e w16 ⟨rfl, hi, hb, hk⟩; refine ⟨_, rfl, ?_⟩; have n0_ := Aside0.mk (KeepBut.trans (by repeat (first | (with_reducible first | exact HK.out | apply KeepBut.set_ | apply keep_drewN | apply keep_drew | apply keep_alloc) | exact HK.out)) hk (.inl rfl)); have n1_ := Aside0.mk (hb); have n2_ := Aside0.mk (hi); clear HK; clear HB; clear HI0; have HK := n0_; have HB := n1_; have HI0 := n2_; clear n0_ n1_ n2_; (try clear hb); (try clear hb2); (try clear hk); (try clear hi)))
          go_ret
          exact ⟨by first | rfl | (simp [errW_none, errW_some] <;> rfl) | (simp [*, errW_none, errW_some] <;> rfl), by repeat (first | (with_reducible first | exact HI0.out | apply IsS45.alloc | apply IsS45.drewN | apply IsS45.drew | apply IsS45.set_0 | apply IsS45.set_1) | exact HI0.out), by repeat (first | (with_reducible first | exact HB.out | apply below_alloc | apply pw_below_drewN | apply below_drew1 | refine below_set ?_ (IsS45.ge HI0.out)) | exact HB.out), by repeat (first | (with_reducible first | exact HK.out | apply KeepBut.set_ | apply keep_drewN | apply keep_drew | apply keep_alloc) | exact HK.out)⟩
        · replace c14 := Bool.eq_false_iff.mpr c14
          subst c14
          have H1 : ((firkinref01_S_Take.f t273 t274 (wrap64 (t272))).bind fun bt277 => (some (strOfNums bt277.1, bt277.2.1, bt277.2.2))) = some (r1, r2, r3) := by rw [if_neg (show ¬ (false = true) by decide)] at H; exact H
          clear H
          have H := H1
          clear H1
          replace H := Option.bind_eq_some_iff.mp H
          obtain ⟨⟨t277, t280, t281⟩, A170, H⟩ := H
          replace H : (some (strOfNums t277, t280, t281)) = some (r1, r2, r3) := H
          have A17 := Aside0.mk A170
          clear A170
          simp only [Option.some.injEq, Prod.mk.injEq] at H
          obtain ⟨rfl, rfl, rfl⟩ := H
          go_wp2_with (first | ((with_reducible refine gate_callee (f := 38) rfl ?_); refine goesL_ (some 37) rfl rfl Try.func38 (by kernel_rfl) rfl #[.pointer (some ⟨g, 0, none⟩), .int .i64 (wrap64 (t272))] rfl (by (try simp only [List.map_toArray, List.map_cons, List.map_nil]); first | done | rfl | (simp only [List.length_drop, List.length_take]; rfl)) ?_; (with_reducible refine (firkinref01_S_Take.calls g t273 t274 (wrap64 (t272)) t277 t280 t281 w0 _ ?side1 ?side2 A17.out).mono ?_); (case side1 => repeat (first | (with_reducible first | exact HI0.out | apply IsS45.alloc | apply IsS45.drewN | apply IsS45.drew | apply IsS45.set_0 | apply IsS45.set_1) | exact HI0.out)); (case side2 => repeat (first | (with_reducible first | exact HB.out | apply below_alloc | apply pw_below_drewN | apply below_drew1 | refine below_set ?_ (IsS45.ge HI0.out)) | exact HB.out)); rintro e w18 ⟨v278, rfl, ho0, hi, hb, hk⟩; refine ⟨_, rfl, ?_⟩; have n0_ := Aside0.mk (Kd.R_lower ho0 (keep_size (w := w) (g := g) (row := none) (by repeat (first | (with_reducible first | exact HK.out | apply KeepBut.set_ | apply keep_drewN | apply keep_drew | apply keep_alloc) | exact HK.out)))); have n1_ := Aside0.mk (KeepBut.trans (by repeat (first | (with_reducible first | exact HK.out | apply KeepBut.set_ | apply keep_drewN | apply keep_drew | apply keep_alloc) | exact HK.out)) hk (.inl rfl)); have n2_ := Aside0.mk (hb); have n3_ := Aside0.mk (hi); clear HK; clear HB; clear HI0; have HO279 := n0_; have HK := n1_; have HB := n2_; have HI0 := n3_; clear n0_ n1_ n2_ n3_; (try clear hb); (try clear hb2); (try clear hk); (try clear hi); (try clear ho0); have hcv19 := own_string (P := Try.prog) Try.underlying31 Try.underlying5 Try.underlying9 (Kd.own_of_R HO279.out)))
          go_ret
          exact ⟨by first | rfl | (simp [errW_none, errW_some] <;> rfl) | (simp [*, errW_none, errW_some] <;> rfl), by repeat (first | (with_reducible first | exact HI0.out | apply IsS45.alloc | apply IsS45.drewN | apply IsS45.drew | apply IsS45.set_0 | apply IsS45.set_1) | exact HI0.out), by repeat (first | (with_reducible first | exact HB.out | apply below_alloc | apply pw_below_drewN | apply below_drew1 | refine below_set ?_ (IsS45.ge HI0.out)) | exact HB.out), by repeat (first | (with_reducible first | exact HK.out | apply KeepBut.set_ | apply keep_drewN | apply keep_drew | apply keep_alloc) | exact HK.out)⟩

/-! ### firkinref09_May: function 67 -/
def firkinref09_May.j0 : Nat → Int → Bool → Bool → Bool → Int → ByteArray → Option (Bool)
  | 0, _, _, _, _, _, _ => none
  | k + 1, x0, x1, x12, x283000, x283001, x283002 => if x12 = true then (some false) else (if x283000 = true then (if x1 = true then (if x283001 = 0 then (some (x283002.toList == ([] : List UInt8))) else (some false)) else (some false)) else (if x0 = 3 then (if x283001 = 0 then (some (decide ((x283002.size : Int) ≤ 40))) else (some false)) else (if x283002.toList = ([] : List UInt8) then (if x0 = 1 then (some true) else (if x283001 = 0 then (some true) else (some (x283001 == 1)))) else (some false))))
def firkinref09_May.f (k : Nat) (a0 : Int) (a1 : Bool) (a2_0 : Bool) (a2_1 : Int) (a2_2 : ByteArray) : Option (Bool) := if a0 < 1 then (firkinref09_May.j0 k a0 a1 true a2_0 a2_1 a2_2) else (firkinref09_May.j0 k a0 a1 (decide (a0 > 3)) a2_0 a2_1 a2_2)
theorem firkinref09_May.mono_l : ∀ k, (∀ y0 y1 y2 y3 y4 y5, LeO (firkinref09_May.j0 k y0 y1 y2 y3 y4 y5) (firkinref09_May.j0 (k + 1) y0 y1 y2 y3 y4 y5))
  | 0 => fun _ _ _ _ _ _ r h => by simp [firkinref09_May.j0] at h
  | k + 1 => by
    have ih0 := firkinref09_May.mono_l k
    · intro y0 y1 y2 y3 y4 y5
      unfold firkinref09_May.j0
      repeat' first
      | (with_reducible exact ih0 _ _ _ _ _ _)
      | (with_reducible exact LeO.refl _)
      | (with_reducible exact LeO.none _)
      | (with_reducible refine LeO.ite ?_ ?_)
      | (with_reducible refine LeO.bind ?_ (fun _ => ?_))
      | exact ih0 _ _ _ _ _ _
      | exact LeO.none _
      | refine LeO.ite ?_ ?_
      | refine LeO.bind ?_ (fun _ => ?_)
theorem firkinref09_May.mono : ∀ a0 a1 a2 a3 a4 k, LeO (firkinref09_May.f k a0 a1 a2 a3 a4) (firkinref09_May.f (k + 1) a0 a1 a2 a3 a4) := by
  intro a0 a1 a2 a3 a4 k
  have ih0 := firkinref09_May.mono_l k
  unfold firkinref09_May.f
  repeat' first
      | (with_reducible exact ih0 _ _ _ _ _ _)
      | (with_reducible exact LeO.refl _)
      | (with_reducible exact LeO.none _)
      | (with_reducible refine LeO.ite ?_ ?_)
      | (with_reducible refine LeO.bind ?_ (fun _ => ?_))
      | exact ih0 _ _ _ _ _ _
      | exact LeO.none _
      | refine LeO.ite ?_ ?_
      | refine LeO.bind ?_ (fun _ => ?_)
set_option maxHeartbeats 8000000 in
set_option maxRecDepth 100000 in
theorem firkinref09_May.calls (k : Nat) (a0 : Int) (a1 : Bool) (a2_0 : Bool) (a2_1 : Int) (a2_2 : ByteArray) (r : Bool) (w : World) (h : firkinref09_May.f k a0 a1 a2_0 a2_1 a2_2 = some r) :
    Calls Try.prog 67 #[.int .i64 a0, .bool a1, .agg #[.bool a2_0, .int .i64 a2_1, .string a2_2]] w fun e w' => e = .returned (.bool r) ∧ Below w.heap.size w w' := by
  have hu23 := Try.underlying23
  have HB := Aside0.mk (Below.refl w.heap.size w)
  have H : (if a0 < 1 then (firkinref09_May.j0 k a0 a1 true a2_0 a2_1 a2_2) else (firkinref09_May.j0 k a0 a1 (decide (a0 > 3)) a2_0 a2_1 a2_2)) = some r := h
  clear h
  have HC4 := Aside0.mk H
  clear H
  go_enter Try.func67, Try.ntmps67
  go_upto_region 1 with (first | ((with_reducible refine gate_dst (N := 5) rfl ?_); (try (refine gate_guard (by rfl) ?_; dsimp only)); refine box_event ?hg (N := 5) ?hd (cs := #[.bool a2_0, .int .i64 a2_1, .string a2_2]) (t := 23) ?hr ?_; (case hd => rfl); (case hg => rfl); (case hr => first | (go_simp; done) | (go_simp; rfl)); intro gb282 hg w5 hbox hb; have n0_ := Aside0.mk (below_step (by repeat (first | (with_reducible first | exact HB.out | apply below_alloc | apply pw_below_drewN | apply below_drew1) | exact HB.out)) hb); have n1_ := Aside0.mk (hbox); have n2_ := Aside0.mk ((by rw [hg]; exact (below_size (by repeat (first | (with_reducible first | exact HB.out | apply below_alloc | apply pw_below_drewN | apply below_drew1) | exact HB.out))) : w.heap.size ≤ gb282)); have n3_ := Aside0.mk ((by rw [hg]; exact (below_size (by repeat (first | (with_reducible first | exact HB.out | apply below_alloc | apply pw_below_drewN | apply below_drew1) | exact HB.out))) : w.heap.size ≤ gb282)); clear HB; have HB := n0_; have BK282 := n1_; have GW282 := n2_; have GE282 := n3_; clear n0_ n1_ n2_ n3_; clear hb hbox hg))
  (try simp only [Act.put, List.setIfInBounds_toArray, List.set_cons_zero, List.set_cons_succ])
  go_cut [12] (fun v12 wc => ∃ (kq : Nat) (x12_3 : Bool), v12 = .bool x12_3 ∧ Aside0 (firkinref09_May.j0 kq a0 a1 x12_3 a2_0 a2_1 a2_2 = some r) ∧ Aside0 (kq ≤ k) ∧ Aside0 (wc.heap[gb282]? = some (.cells #[.bool a2_0, .int .i64 a2_1, .string a2_2] 23 (0, 0))) ∧ Aside0 (Below w.heap.size w wc))
  case first =>
    have H := HC4.out
    clear HC4
    by_cases c6 : a0 < 1
    · rw [if_pos c6] at H
      have c6b0 : decide (a0 < 1) = true := decide_eq_true c6
      clear c6
      (first | rw [c6b0] | (simp only [i64_w, i32_w]; rw [c6b0]) | skip)
      have H' := Aside0.mk H
      clear H
      go_wp2
      go_meet
      case rel => exact ⟨_, (true), (by first | rfl | (simp; done) | (simp [*]; done)), H', ⟨by first | omega | exact Nat.le_refl _⟩, ⟨by (with_reducible repeat (first | refine blk_drewN ?_ _ | refine blk_drew ?_ | refine blk_alloc ?_ _)); exact BK282.out⟩, ⟨by repeat (first | (with_reducible first | exact HB.out | apply below_alloc | apply pw_below_drewN | apply below_drew1 | refine below_set ?_ GE282.out) | exact HB.out)⟩⟩
    · rw [if_neg c6] at H
      have c6b0 : decide (a0 < 1) = false := decide_eq_false c6
      clear c6
      (first | rw [c6b0] | (simp only [i64_w, i32_w]; rw [c6b0]) | skip)
      have H' := Aside0.mk H
      clear H
      go_wp2
      go_meet
      case rel => exact ⟨_, (decide (a0 > 3)), (by first | rfl | (simp; done) | (simp [*]; done)), H', ⟨by first | omega | exact Nat.le_refl _⟩, ⟨by (with_reducible repeat (first | refine blk_drewN ?_ _ | refine blk_drew ?_ | refine blk_alloc ?_ _)); exact BK282.out⟩, ⟨by repeat (first | (with_reducible first | exact HB.out | apply below_alloc | apply pw_below_drewN | apply below_drew1 | refine below_set ?_ GE282.out) | exact HB.out)⟩⟩
  case rest =>
    clear HC4
    try clear p2
    try clear c6
    try clear c6b0
    obtain ⟨kq, x12_3, rfl, HA, HJ3, BK282, HB⟩ := hcut
    cases kq with
    | zero => exact absurd HA.out (by simp [firkinref09_May.j0])
    | succ kj3 =>
      have H := HA.out
      clear HA
      simp only [firkinref09_May.j0] at H
      by_cases c7 : x12_3 = true
      · subst c7
        have H1 : (some false) = some r := by rw [if_pos rfl] at H; exact H
        clear H
        have H := H1
        clear H1
        obtain rfl := Option.some.inj H
        go_wp2
        go_ret
        exact ⟨by first | rfl | (simp only [Go.Proofs.Ytkdlfejokahohaa.Strs.nilB]; rfl) | (simp [errW_none, errW_some] <;> rfl) | (simp [*, errW_none, errW_some] <;> rfl), by repeat (first | (with_reducible first | exact HB.out | apply below_alloc | apply pw_below_drewN | apply below_drew1 | refine below_set ?_ GE282.out) | exact HB.out)⟩
      · replace c7 := Bool.eq_false_iff.mpr c7
        subst c7
        have H1 : (if a2_0 = true then (if a1 = true then (if a2_1 = 0 then (some (a2_2.toList == ([] : List UInt8))) else (some false)) else (some false)) else (if a0 = 3 then (if a2_1 = 0 then (some (decide ((a2_2.size : Int) ≤ 40))) else (some false)) else (if a2_2.toList = ([] : List UInt8) then (if a0 = 1 then (some true) else (if a2_1 = 0 then (some true) else (some (a2_1 == 1)))) else (some false)))) = some r := by rw [if_neg (show ¬ (false = true) by decide)] at H; exact H
        clear H
        have H := H1
        clear H1
        by_cases c8 : a2_0 = true
        · subst c8
          have H1 : (if a1 = true then (if a2_1 = 0 then (some (a2_2.toList == ([] : List UInt8))) else (some false)) else (some false)) = some r := by rw [if_pos rfl] at H; exact H
          clear H
          have H := H1
          clear H1
          by_cases c9 : a1 = true
          · subst c9
            have H1 : (if a2_1 = 0 then (some (a2_2.toList == ([] : List UInt8))) else (some false)) = some r := by rw [if_pos rfl] at H; exact H
            clear H
            have H := H1
            clear H1
            by_cases c10 : a2_1 = 0
            · rw [if_pos c10] at H
              have c10b0 : (a2_1 == 0) = true := beq_iff_eq.mpr c10
              have c10b1 : (a2_1 != 0) = false := bne_eq_false_iff_eq.mpr c10
              clear c10
              obtain rfl := Option.some.inj H
              have hcz11_0 : wc.cell? ⟨gb282, 0, none⟩ = some (.bool true) := (blk_cell BK282.out 0).trans rfl
              have hcz11_1 : wc.cell? ⟨gb282, 1, none⟩ = some (.int .i64 a2_1) := (blk_cell BK282.out 1).trans rfl
              have hcz11_2 : wc.cell? ⟨gb282, 2, none⟩ = some (.string a2_2) := (blk_cell BK282.out 2).trans rfl
              have hfz11_0 := blk_frozen BK282.out 0
              have hfz11_1 := blk_frozen BK282.out 1
              have hfz11_2 := blk_frozen BK282.out 2
              go_wp2
              go_ret
              exact ⟨by first | rfl | (simp only [Go.Proofs.Ytkdlfejokahohaa.Strs.nilB]; rfl) | (simp [errW_none, errW_some] <;> rfl) | (simp [*, errW_none, errW_some] <;> rfl), by repeat (first | (with_reducible first | exact HB.out | apply below_alloc | apply pw_below_drewN | apply below_drew1 | refine below_set ?_ GE282.out) | exact HB.out)⟩
            · rw [if_neg c10] at H
              have c10b0 : (a2_1 == 0) = false := beq_eq_false_iff_ne.mpr c10
              have c10b1 : (a2_1 != 0) = true := bne_iff_ne.mpr c10
              obtain rfl := Option.some.inj H
              have hcz12_0 : wc.cell? ⟨gb282, 0, none⟩ = some (.bool true) := (blk_cell BK282.out 0).trans rfl
              have hcz12_1 : wc.cell? ⟨gb282, 1, none⟩ = some (.int .i64 a2_1) := (blk_cell BK282.out 1).trans rfl
              have hcz12_2 : wc.cell? ⟨gb282, 2, none⟩ = some (.string a2_2) := (blk_cell BK282.out 2).trans rfl
              have hfz12_0 := blk_frozen BK282.out 0
              have hfz12_1 := blk_frozen BK282.out 1
              have hfz12_2 := blk_frozen BK282.out 2
              go_wp2
              go_ret
              exact ⟨by first | rfl | (simp only [Go.Proofs.Ytkdlfejokahohaa.Strs.nilB]; rfl) | (simp [errW_none, errW_some] <;> rfl) | (simp [*, errW_none, errW_some] <;> rfl), by repeat (first | (with_reducible first | exact HB.out | apply below_alloc | apply pw_below_drewN | apply below_drew1 | refine below_set ?_ GE282.out) | exact HB.out)⟩
          · replace c9 := Bool.eq_false_iff.mpr c9
            subst c9
            have H1 : (some false) = some r := by rw [if_neg (show ¬ (false = true) by decide)] at H; exact H
            clear H
            have H := H1
            clear H1
            obtain rfl := Option.some.inj H
            have hcz13_0 : wc.cell? ⟨gb282, 0, none⟩ = some (.bool true) := (blk_cell BK282.out 0).trans rfl
            have hcz13_1 : wc.cell? ⟨gb282, 1, none⟩ = some (.int .i64 a2_1) := (blk_cell BK282.out 1).trans rfl
            have hcz13_2 : wc.cell? ⟨gb282, 2, none⟩ = some (.string a2_2) := (blk_cell BK282.out 2).trans rfl
            have hfz13_0 := blk_frozen BK282.out 0
            have hfz13_1 := blk_frozen BK282.out 1
            have hfz13_2 := blk_frozen BK282.out 2
            go_wp2
            go_ret
            exact ⟨by first | rfl | (simp only [Go.Proofs.Ytkdlfejokahohaa.Strs.nilB]; rfl) | (simp [errW_none, errW_some] <;> rfl) | (simp [*, errW_none, errW_some] <;> rfl), by repeat (first | (with_reducible first | exact HB.out | apply below_alloc | apply pw_below_drewN | apply below_drew1 | refine below_set ?_ GE282.out) | exact HB.out)⟩
        · replace c8 := Bool.eq_false_iff.mpr c8
          subst c8
          have H1 : (if a0 = 3 then (if a2_1 = 0 then (some (decide ((a2_2.size : Int) ≤ 40))) else (some false)) else (if a2_2.toList = ([] : List UInt8) then (if a0 = 1 then (some true) else (if a2_1 = 0 then (some true) else (some (a2_1 == 1)))) else (some false))) = some r := by rw [if_neg (show ¬ (false = true) by decide)] at H; exact H
          clear H
          have H := H1
          clear H1
          by_cases c14 : a0 = 3
          · rw [if_pos c14] at H
            have c14b0 : (a0 == 3) = true := beq_iff_eq.mpr c14
            have c14b1 : (a0 != 3) = false := bne_eq_false_iff_eq.mpr c14
            clear c14
            by_cases c15 : a2_1 = 0
            · rw [if_pos c15] at H
              have c15b0 : (a2_1 == 0) = true := beq_iff_eq.mpr c15
              have c15b1 : (a2_1 != 0) = false := bne_eq_false_iff_eq.mpr c15
              clear c15
              obtain rfl := Option.some.inj H
              have hcz16_0 : wc.cell? ⟨gb282, 0, none⟩ = some (.bool false) := (blk_cell BK282.out 0).trans rfl
              have hcz16_1 : wc.cell? ⟨gb282, 1, none⟩ = some (.int .i64 a2_1) := (blk_cell BK282.out 1).trans rfl
              have hcz16_2 : wc.cell? ⟨gb282, 2, none⟩ = some (.string a2_2) := (blk_cell BK282.out 2).trans rfl
              have hfz16_0 := blk_frozen BK282.out 0
              have hfz16_1 := blk_frozen BK282.out 1
              have hfz16_2 := blk_frozen BK282.out 2
              go_wp2
              go_ret
              exact ⟨by first | rfl | (simp only [Go.Proofs.Ytkdlfejokahohaa.Strs.nilB]; rfl) | (simp [errW_none, errW_some] <;> rfl) | (simp [*, errW_none, errW_some] <;> rfl), by repeat (first | (with_reducible first | exact HB.out | apply below_alloc | apply pw_below_drewN | apply below_drew1 | refine below_set ?_ GE282.out) | exact HB.out)⟩
            · rw [if_neg c15] at H
              have c15b0 : (a2_1 == 0) = false := beq_eq_false_iff_ne.mpr c15
              have c15b1 : (a2_1 != 0) = true := bne_iff_ne.mpr c15
              obtain rfl := Option.some.inj H
              have hcz17_0 : wc.cell? ⟨gb282, 0, none⟩ = some (.bool false) := (blk_cell BK282.out 0).trans rfl
              have hcz17_1 : wc.cell? ⟨gb282, 1, none⟩ = some (.int .i64 a2_1) := (blk_cell BK282.out 1).trans rfl
              have hcz17_2 : wc.cell? ⟨gb282, 2, none⟩ = some (.string a2_2) := (blk_cell BK282.out 2).trans rfl
              have hfz17_0 := blk_frozen BK282.out 0
              have hfz17_1 := blk_frozen BK282.out 1
              have hfz17_2 := blk_frozen BK282.out 2
              go_wp2
              go_ret
              exact ⟨by first | rfl | (simp only [Go.Proofs.Ytkdlfejokahohaa.Strs.nilB]; rfl) | (simp [errW_none, errW_some] <;> rfl) | (simp [*, errW_none, errW_some] <;> rfl), by repeat (first | (with_reducible first | exact HB.out | apply below_alloc | apply pw_below_drewN | apply below_drew1 | refine below_set ?_ GE282.out) | exact HB.out)⟩
          · rw [if_neg c14] at H
            have c14b0 : (a0 == 3) = false := beq_eq_false_iff_ne.mpr c14
            have c14b1 : (a0 != 3) = true := bne_iff_ne.mpr c14
            by_cases c18 : a2_2.toList = ([] : List UInt8)
            · rw [if_pos c18] at H
              have c18b0 : (a2_2.toList == ([] : List UInt8)) = true := beq_iff_eq.mpr c18
              have c18b0e := c18b0
              simp only [Go.Proofs.Ytkdlfejokahohaa.Strs.nilB] at c18b0e
              have c18b1 : (a2_2.toList != ([] : List UInt8)) = false := bne_eq_false_iff_eq.mpr c18
              clear c18
              by_cases c19 : a0 = 1
              · rw [if_pos c19] at H
                have c19b0 : (a0 == 1) = true := beq_iff_eq.mpr c19
                have c19b1 : (a0 != 1) = false := bne_eq_false_iff_eq.mpr c19
                clear c19
                obtain rfl := Option.some.inj H
                have hcz20_0 : wc.cell? ⟨gb282, 0, none⟩ = some (.bool false) := (blk_cell BK282.out 0).trans rfl
                have hcz20_1 : wc.cell? ⟨gb282, 1, none⟩ = some (.int .i64 a2_1) := (blk_cell BK282.out 1).trans rfl
                have hcz20_2 : wc.cell? ⟨gb282, 2, none⟩ = some (.string a2_2) := (blk_cell BK282.out 2).trans rfl
                have hfz20_0 := blk_frozen BK282.out 0
                have hfz20_1 := blk_frozen BK282.out 1
                have hfz20_2 := blk_frozen BK282.out 2
                go_wp2
                go_ret
                exact ⟨by first | rfl | (simp only [Go.Proofs.Ytkdlfejokahohaa.Strs.nilB]; rfl) | (simp [errW_none, errW_some] <;> rfl) | (simp [*, errW_none, errW_some] <;> rfl), by repeat (first | (with_reducible first | exact HB.out | apply below_alloc | apply pw_below_drewN | apply below_drew1 | refine below_set ?_ GE282.out) | exact HB.out)⟩
              · rw [if_neg c19] at H
                have c19b0 : (a0 == 1) = false := beq_eq_false_iff_ne.mpr c19
                have c19b1 : (a0 != 1) = true := bne_iff_ne.mpr c19
                by_cases c21 : a2_1 = 0
                · rw [if_pos c21] at H
                  have c21b0 : (a2_1 == 0) = true := beq_iff_eq.mpr c21
                  have c21b1 : (a2_1 != 0) = false := bne_eq_false_iff_eq.mpr c21
                  clear c21
                  obtain rfl := Option.some.inj H
                  have hcz22_0 : wc.cell? ⟨gb282, 0, none⟩ = some (.bool false) := (blk_cell BK282.out 0).trans rfl
                  have hcz22_1 : wc.cell? ⟨gb282, 1, none⟩ = some (.int .i64 a2_1) := (blk_cell BK282.out 1).trans rfl
                  have hcz22_2 : wc.cell? ⟨gb282, 2, none⟩ = some (.string a2_2) := (blk_cell BK282.out 2).trans rfl
                  have hfz22_0 := blk_frozen BK282.out 0
                  have hfz22_1 := blk_frozen BK282.out 1
                  have hfz22_2 := blk_frozen BK282.out 2
                  go_wp2
                  go_ret
                  exact ⟨by first | rfl | (simp only [Go.Proofs.Ytkdlfejokahohaa.Strs.nilB]; rfl) | (simp [errW_none, errW_some] <;> rfl) | (simp [*, errW_none, errW_some] <;> rfl), by repeat (first | (with_reducible first | exact HB.out | apply below_alloc | apply pw_below_drewN | apply below_drew1 | refine below_set ?_ GE282.out) | exact HB.out)⟩
                · rw [if_neg c21] at H
                  have c21b0 : (a2_1 == 0) = false := beq_eq_false_iff_ne.mpr c21
                  have c21b1 : (a2_1 != 0) = true := bne_iff_ne.mpr c21
                  obtain rfl := Option.some.inj H
                  have hcz23_0 : wc.cell? ⟨gb282, 0, none⟩ = some (.bool false) := (blk_cell BK282.out 0).trans rfl
                  have hcz23_1 : wc.cell? ⟨gb282, 1, none⟩ = some (.int .i64 a2_1) := (blk_cell BK282.out 1).trans rfl
                  have hcz23_2 : wc.cell? ⟨gb282, 2, none⟩ = some (.string a2_2) := (blk_cell BK282.out 2).trans rfl
                  have hfz23_0 := blk_frozen BK282.out 0
                  have hfz23_1 := blk_frozen BK282.out 1
                  have hfz23_2 := blk_frozen BK282.out 2
                  go_wp2
                  go_ret
                  exact ⟨by first | rfl | (simp only [Go.Proofs.Ytkdlfejokahohaa.Strs.nilB]; rfl) | (simp [errW_none, errW_some] <;> rfl) | (simp [*, errW_none, errW_some] <;> rfl), by repeat (first | (with_reducible first | exact HB.out | apply below_alloc | apply pw_below_drewN | apply below_drew1 | refine below_set ?_ GE282.out) | exact HB.out)⟩
            · rw [if_neg c18] at H
              have c18b0 : (a2_2.toList == ([] : List UInt8)) = false := beq_eq_false_iff_ne.mpr c18
              have c18b0e := c18b0
              simp only [Go.Proofs.Ytkdlfejokahohaa.Strs.nilB] at c18b0e
              have c18b1 : (a2_2.toList != ([] : List UInt8)) = true := bne_iff_ne.mpr c18
              obtain rfl := Option.some.inj H
              have hcz24_0 : wc.cell? ⟨gb282, 0, none⟩ = some (.bool false) := (blk_cell BK282.out 0).trans rfl
              have hcz24_1 : wc.cell? ⟨gb282, 1, none⟩ = some (.int .i64 a2_1) := (blk_cell BK282.out 1).trans rfl
              have hcz24_2 : wc.cell? ⟨gb282, 2, none⟩ = some (.string a2_2) := (blk_cell BK282.out 2).trans rfl
              have hfz24_0 := blk_frozen BK282.out 0
              have hfz24_1 := blk_frozen BK282.out 1
              have hfz24_2 := blk_frozen BK282.out 2
              go_wp2
              go_ret
              exact ⟨by first | rfl | (simp only [Go.Proofs.Ytkdlfejokahohaa.Strs.nilB]; rfl) | (simp [errW_none, errW_some] <;> rfl) | (simp [*, errW_none, errW_some] <;> rfl), by repeat (first | (with_reducible first | exact HB.out | apply below_alloc | apply pw_below_drewN | apply below_drew1 | refine below_set ?_ GE282.out) | exact HB.out)⟩

end Go.Proofs.Ytkdlfejokahohaa.X
