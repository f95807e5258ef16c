/- ZoneBytes: for every input the call returns true, and each argument reads behind the call as it read before it. No condition. (Part 5 of 10: this session's texts, laid together by wip/merge.py.) -/
import Derived.Test.YtkdlfejokahohaaX0
import Derived.Test.YtkdlfejokahohaaMem
import Derived.Test.YtkdlfejokahohaaDec
import Derived.Laws.BitsAllLaws
import Derived.Lib.Hide
import Derived.Test.YtkdlfejokahohaaMZoneBytes0
import Derived.Test.YtkdlfejokahohaaMZoneBytes1
import Derived.Test.YtkdlfejokahohaaMZoneBytes3
set_option maxHeartbeats 8000000
set_option maxRecDepth 100000
namespace Go.Proofs.Ytkdlfejokahohaa.X
open Go.RowKit Go.Proofs.YtkdlfejokahohaaW.PrintWords Go.Proofs.YtkdlfejokahohaaW.PrintLast Go.Proofs.YtkdlfejokahohaaW.PrintMore
attribute [local go_sem] max2_int min2_int max_two min_two max_three min_three max_four min_four   -- for this text's walks alone
set_option linter.unusedVariables false
open List (setIfInBounds_toArray set_cons_zero set_cons_succ)
set_option linter.unusedSimpArgs false

def vint_Source_Text.j0 : Nat → Int → Bool → List Int → Bool → Option (ByteArray × List Int × Bool)
 | 0, _, _, _, _ => none
 | k + 1, x5, x30, x1000, x1001 => if x30 = true then ((vint_Source_Fail.f x1000 x1001).bind fun bt314 => (some ((⟨#[]⟩ : ByteArray), bt314.1, bt314.2))) else ((vint_Source_Take.f x1000 x1001 (wrap64 (x5))).bind fun bt316 => (some (strOfNums bt316.1, bt316.2.1, bt316.2.2)))
def vint_Source_Text.f (k : Nat) (s0_0 : List Int) (s0_1 : Bool) (a1 : Int) : Option (ByteArray × List Int × Bool) := (vint_Source_Num.f s0_0 s0_1).bind fun bt308 => ((vint_Source_Ok.f bt308.2.1 bt308.2.2).bind fun bt311 => (if bt311.1 = true then (if a1 < 0 then (vint_Source_Text.j0 k bt308.1 true bt311.2.1 bt311.2.2) else (if bt308.1 > (IntKind.u64.wrap (a1)) then (vint_Source_Text.j0 k bt308.1 true bt311.2.1 bt311.2.2) else (vint_Source_Text.j0 k bt308.1 (decide (bt308.1 > (IntKind.u64.wrap ((bt311.2.1.length : Int))))) bt311.2.1 bt311.2.2))) else (vint_Source_Text.j0 k bt308.1 true bt311.2.1 bt311.2.2)))
theorem vint_Source_Text.mono_l : ∀ k, (∀ y0 y1 y2 y3, LeO (vint_Source_Text.j0 k y0 y1 y2 y3) (vint_Source_Text.j0 (k + 1) y0 y1 y2 y3))
 | 0 => fun _ _ _ _ r h => by simp [vint_Source_Text.j0] at h
 | k + 1 => by
  have ih0 := vint_Source_Text.mono_l k
  ·intro y0 y1 y2 y3
   unfold vint_Source_Text.j0
   repeat' first
   | (with_reducible exact ih0 _ _ _ _)
   | (with_reducible exact LeO.refl _)
   | (with_reducible exact LeO.none _)
   | (with_reducible refine LeO.ite ?_ ?_)
   | (with_reducible refine LeO.bind ?_ (fun _ => ?_))
   | exact ih0 _ _ _ _
   | exact LeO.none _
   | refine LeO.ite ?_ ?_
   | refine LeO.bind ?_ (fun _ => ?_)
theorem vint_Source_Text.mono : ∀ a0 a1 a2 k, LeO (vint_Source_Text.f k a0 a1 a2) (vint_Source_Text.f (k + 1) a0 a1 a2) := by
 intro a0 a1 a2 k
 have ih0 := vint_Source_Text.mono_l k
 unfold vint_Source_Text.f
 repeat' first
   | (with_reducible exact ih0 _ _ _ _)
   | (with_reducible exact LeO.refl _)
   | (with_reducible exact LeO.none _)
   | (with_reducible refine LeO.ite ?_ ?_)
   | (with_reducible refine LeO.bind ?_ (fun _ => ?_))
   | exact ih0 _ _ _ _
   | exact LeO.none _
   | refine LeO.ite ?_ ?_
   | refine LeO.bind ?_ (fun _ => ?_)
theorem vint_Source_Text.calls (k : Nat) (g : Nat) (s0_0 : List Int) (s0_1 : Bool) (a1 : Int) (r1 : ByteArray) (r2 : List Int) (r3 : Bool) (w0 w : World) (hI : IsS93 w0 w g s0_0 s0_1) (hB : Below w0.heap.size w0 w) (h : vint_Source_Text.f k s0_0 s0_1 a1 = some (r1, r2, r3)) :
  Calls Try.prog 35 #[.pointer (some ⟨g, 0, none⟩), .int .i64 a1] w fun e w' => e = .returned (.string r1) ∧ IsS93 w0 w' g r2 r3 ∧ Below w0.heap.size w0 w' ∧ KeepBut w w' g none := by
 have HI0 := A_ hI
 have HK := A_ (KeepBut.refl w g none)
 have HL := A_ hB.size
 clear hI
 have HW0 := A_ hB.size
 have HB := A_ hB
 clear hB
 have H : ((vint_Source_Num.f s0_0 s0_1).bind fun bt308 => ((vint_Source_Ok.f bt308.2.1 bt308.2.2).bind fun bt311 => (if bt311.1 = true then (if a1 < 0 then (vint_Source_Text.j0 k bt308.1 true bt311.2.1 bt311.2.2) else (if bt308.1 > (IntKind.u64.wrap (a1)) then (vint_Source_Text.j0 k bt308.1 true bt311.2.1 bt311.2.2) else (vint_Source_Text.j0 k bt308.1 (decide (bt308.1 > (IntKind.u64.wrap ((bt311.2.1.length : Int))))) bt311.2.1 bt311.2.2))) else (vint_Source_Text.j0 k bt308.1 true bt311.2.1 bt311.2.2)))) = some (r1, r2, r3) := h
 clear h
 replace H := Option.bind_eq_some_iff.mp H
 obtain ⟨⟨t308, t309, t310⟩, A30, H⟩ := H
 replace H : ((vint_Source_Ok.f t309 t310).bind fun bt311 => (if bt311.1 = true then (if a1 < 0 then (vint_Source_Text.j0 k t308 true bt311.2.1 bt311.2.2) else (if t308 > (IntKind.u64.wrap (a1)) then (vint_Source_Text.j0 k t308 true bt311.2.1 bt311.2.2) else (vint_Source_Text.j0 k t308 (decide (t308 > (IntKind.u64.wrap ((bt311.2.1.length : Int))))) bt311.2.1 bt311.2.2))) else (vint_Source_Text.j0 k t308 true bt311.2.1 bt311.2.2))) = some (r1, r2, r3) := H
 have A3 := A_ A30
 clear A30
 have HC4 := A_ H
 clear H
 go_enter Try.func35, Try.ntmps35
 go_upto_region 2 with (first | ((with_reducible refine gate_callee (f := 29) rfl ?_); refine goesL_ (some 7) rfl rfl Try.func29 (by kernel_rfl) rfl #[.pointer (some ⟨g, 0, none⟩)] rfl (by (try simp only [List.map_toArray, List.map_cons, List.map_nil]); first | done | rfl | (simp only [List.length_drop, List.length_take]; rfl)) ?_; (with_reducible refine (vint_Source_Num.calls g s0_0 s0_1 t308 t309 t310 w0 _ ?side1 ?side2 A3.out).mono ?_); (case side1 => repeat (first | (with_reducible first | exact HI0.out | apply IsS93.alloc | apply IsS93.drewN | apply IsS93.drew | apply IsS93.set_0 | apply IsS93.set_1) | exact HI0.out)); (case side2 => repeat (first | (with_reducible first | exact HB.out | apply ba_ | apply bn_ | apply bd_ | refine bs_ ?_ (IsS93.ge HI0.out)) | exact HB.out)); rintro e w5 ⟨rfl, hi, hb, hk⟩; refine ⟨_, rfl, ?_⟩; have n0_ := A_ (KeepBut.trans (by repeat (first | (with_reducible first | exact HK.out | apply KeepBut.set_ | apply keep_drewN | apply keep_drew | apply keep_alloc) | exact HK.out)) hk (.inl rfl)); have n1_ := A_ (hb); have n2_ := A_ (hi); clear HK; clear HB; clear HI0; have HK := n0_; have HB := n1_; have HI0 := n2_; clear n0_ n1_ n2_; (try clear hb); (try clear hb2); (try clear hk); (try clear hi)))
 (try simp only [Act.put, setIfInBounds_toArray, set_cons_zero, set_cons_succ])
 go_cut [30] (fun v30 wc => ∃ (kq : Nat) (x30_3 : Bool) (x1000_3 : List Int) (x1001_3 : Bool) (u1000 : Value), v30 = .bool x30_3 ∧ Aside0 (vint_Source_Text.j0 kq t308 x30_3 x1000_3 x1001_3 = some (r1, r2, r3)) ∧ Aside0 (kq ≤ k) ∧ Aside0 (IsS93 w0 wc g x1000_3 x1001_3) ∧ Aside0 (KeepBut w wc g none) ∧ Aside0 (Below w0.heap.size w0 wc))
 case first =>
  have H := HC4.out
  clear HC4
  replace H := Option.bind_eq_some_iff.mp H
  obtain ⟨⟨t311, t312, t313⟩, A60, H⟩ := H
  replace H : (if t311 = true then (if a1 < 0 then (vint_Source_Text.j0 k t308 true t312 t313) else (if t308 > (IntKind.u64.wrap (a1)) then (vint_Source_Text.j0 k t308 true t312 t313) else (vint_Source_Text.j0 k t308 (decide (t308 > (IntKind.u64.wrap ((t312.length : Int))))) t312 t313))) else (vint_Source_Text.j0 k t308 true t312 t313)) = some (r1, r2, r3) := H
  have A6 := A_ A60
  clear A60
  by_cases c7 : t311 = true
  ·subst c7
   have H1 : (if a1 < 0 then (vint_Source_Text.j0 k t308 true t312 t313) else (if t308 > (IntKind.u64.wrap (a1)) then (vint_Source_Text.j0 k t308 true t312 t313) else (vint_Source_Text.j0 k t308 (decide (t308 > (IntKind.u64.wrap ((t312.length : Int))))) t312 t313))) = some (r1, r2, r3) := by rw [if_pos rfl] at H; exact H
   clear H
   have H := H1
   clear H1
   by_cases c8 : a1 < 0
   ·rw [if_pos c8] at H
    have c8b0 : decide (a1 < 0) = true := decide_eq_true c8
    clear c8
    (first | rw [c8b0] | (simp only [i64_w, i32_w]; rw [c8b0]) | skip)
    have H' := A_ H
    clear H
    go_wp2_with (first | ((with_reducible refine gate_callee (f := 41) rfl ?_); refine goesL_ (some 9) rfl rfl Try.func41 (by kernel_rfl) rfl #[.pointer (some ⟨g, 0, none⟩)] rfl (by (try simp only [List.map_toArray, List.map_cons, List.map_nil]); first | done | rfl | (simp only [List.length_drop, List.length_take]; rfl)) ?_; (with_reducible refine (vint_Source_Ok.calls g t309 t310 true t312 t313 w0 _ ?side1 ?side2 A6.out).mono ?_); (case side1 => repeat (first | (with_reducible first | exact HI0.out | apply IsS93.alloc | apply IsS93.drewN | apply IsS93.drew | apply IsS93.set_0 | apply IsS93.set_1) | exact HI0.out)); (case side2 => repeat (first | (with_reducible first | exact HB.out | apply ba_ | apply bn_ | apply bd_ | refine bs_ ?_ (IsS93.ge HI0.out)) | exact HB.out)); rintro e w9 ⟨rfl, hi, hb, hk⟩; refine ⟨_, rfl, ?_⟩; have n0_ := A_ (KeepBut.trans (by repeat (first | (with_reducible first | exact HK.out | apply KeepBut.set_ | apply keep_drewN | apply keep_drew | apply keep_alloc) | exact HK.out)) hk (.inl rfl)); have n1_ := A_ (hb); have n2_ := A_ (hi); clear HK; clear HB; clear HI0; have HK := n0_; have HB := n1_; have HI0 := n2_; clear n0_ n1_ n2_; (try clear hb); (try clear hb2); (try clear hk); (try clear hi)))
    go_meet
    case rel => exact ⟨_, (true), (t312), (t313), (Value.slice none 0 0), (by first | rfl | (simp; done) | (simp [*]; done)), H', ⟨by first | omega | exact Nat.le_refl _⟩, ⟨by repeat (first | (with_reducible first | exact HI0.out | apply IsS93.alloc | apply IsS93.drewN | apply IsS93.drew | apply IsS93.set_0 | apply IsS93.set_1) | exact HI0.out)⟩, ⟨by repeat (first | (with_reducible first | exact HK.out | apply KeepBut.set_ | apply keep_drewN | apply keep_drew | apply keep_alloc) | exact HK.out)⟩, ⟨by repeat (first | (with_reducible first | exact HB.out | apply ba_ | apply bn_ | apply bd_ | refine bs_ ?_ (IsS93.ge HI0.out)) | exact HB.out)⟩⟩
   ·rw [if_neg c8] at H
    have c8b0 : decide (a1 < 0) = false := decide_eq_false c8
    clear c8
    (first | rw [c8b0] | (simp only [i64_w, i32_w]; rw [c8b0]) | skip)
    by_cases c10 : t308 > (IntKind.u64.wrap (a1))
    ·rw [if_pos c10] at H
     have c10b0 : decide ((IntKind.u64.wrap (a1)) < t308) = true := decide_eq_true c10
     clear c10
     have H' := A_ H
     clear H
     go_wp2_with (first | ((with_reducible refine gate_callee (f := 41) rfl ?_); refine goesL_ (some 9) rfl rfl Try.func41 (by kernel_rfl) rfl #[.pointer (some ⟨g, 0, none⟩)] rfl (by (try simp only [List.map_toArray, List.map_cons, List.map_nil]); first | done | rfl | (simp only [List.length_drop, List.length_take]; rfl)) ?_; (with_reducible refine (vint_Source_Ok.calls g t309 t310 true t312 t313 w0 _ ?side1 ?side2 A6.out).mono ?_); (case side1 => repeat (first | (with_reducible first | exact HI0.out | apply IsS93.alloc | apply IsS93.drewN | apply IsS93.drew | apply IsS93.set_0 | apply IsS93.set_1) | exact HI0.out)); (case side2 => repeat (first | (with_reducible first | exact HB.out | apply ba_ | apply bn_ | apply bd_ | refine bs_ ?_ (IsS93.ge HI0.out)) | exact HB.out)); rintro e w11 ⟨rfl, hi, hb, hk⟩; refine ⟨_, rfl, ?_⟩; have n0_ := A_ (KeepBut.trans (by repeat (first | (with_reducible first | exact HK.out | apply KeepBut.set_ | apply keep_drewN | apply keep_drew | apply keep_alloc) | exact HK.out)) hk (.inl rfl)); have n1_ := A_ (hb); have n2_ := A_ (hi); clear HK; clear HB; clear HI0; have HK := n0_; have HB := n1_; have HI0 := n2_; clear n0_ n1_ n2_; (try clear hb); (try clear hb2); (try clear hk); (try clear hi)))
     go_meet
     case rel => exact ⟨_, (true), (t312), (t313), (Value.slice none 0 0), (by first | rfl | (simp; done) | (simp [*]; done)), H', ⟨by first | omega | exact Nat.le_refl _⟩, ⟨by repeat (first | (with_reducible first | exact HI0.out | apply IsS93.alloc | apply IsS93.drewN | apply IsS93.drew | apply IsS93.set_0 | apply IsS93.set_1) | exact HI0.out)⟩, ⟨by repeat (first | (with_reducible first | exact HK.out | apply KeepBut.set_ | apply keep_drewN | apply keep_drew | apply keep_alloc) | exact HK.out)⟩, ⟨by repeat (first | (with_reducible first | exact HB.out | apply ba_ | apply bn_ | apply bd_ | refine bs_ ?_ (IsS93.ge HI0.out)) | exact HB.out)⟩⟩
    ·rw [if_neg c10] at H
     have c10b0 : decide ((IntKind.u64.wrap (a1)) < t308) = false := decide_eq_false c10
     clear c10
     have H' := A_ H
     clear H
     go_wp2_with (first | ((with_reducible refine gate_callee (f := 41) rfl ?_); refine goesL_ (some 9) rfl rfl Try.func41 (by kernel_rfl) rfl #[.pointer (some ⟨g, 0, none⟩)] rfl (by (try simp only [List.map_toArray, List.map_cons, List.map_nil]); first | done | rfl | (simp only [List.length_drop, List.length_take]; rfl)) ?_; (with_reducible refine (vint_Source_Ok.calls g t309 t310 true t312 t313 w0 _ ?side1 ?side2 A6.out).mono ?_); (case side1 => repeat (first | (with_reducible first | exact HI0.out | apply IsS93.alloc | apply IsS93.drewN | apply IsS93.drew | apply IsS93.set_0 | apply IsS93.set_1) | exact HI0.out)); (case side2 => repeat (first | (with_reducible first | exact HB.out | apply ba_ | apply bn_ | apply bd_ | refine bs_ ?_ (IsS93.ge HI0.out)) | exact HB.out)); rintro e w12 ⟨rfl, hi, hb, hk⟩; refine ⟨_, rfl, ?_⟩; have n0_ := A_ (KeepBut.trans (by repeat (first | (with_reducible first | exact HK.out | apply KeepBut.set_ | apply keep_drewN | apply keep_drew | apply keep_alloc) | exact HK.out)) hk (.inl rfl)); have n1_ := A_ (hb); have n2_ := A_ (hi); clear HK; clear HB; clear HI0; have HK := n0_; have HB := n1_; have HI0 := n2_; clear n0_ n1_ n2_; (try clear hb); (try clear hb2); (try clear hk); (try clear hi); obtain ⟨ASz13_0, cSz13_0, HGz13, hgz13, ⟨HSz13_0, _⟩⟩ := HI0.out; have hcz13_0 := cellS93_0 HGz13; have hcz13_1 := cellS93_1 HGz13; have hfz13_0 := bf_ HGz13 0; have hfz13_1 := bf_ HGz13 1; clear HGz13 hgz13))
     go_meet
     case rel => exact ⟨_, (decide (t308 > (IntKind.u64.wrap ((t312.length : Int))))), (t312), (t313), (Value.slice none 0 0), (by first | rfl | (simp; done) | (simp [*]; done)), H', ⟨by first | omega | exact Nat.le_refl _⟩, ⟨by repeat (first | (with_reducible first | exact HI0.out | apply IsS93.alloc | apply IsS93.drewN | apply IsS93.drew | apply IsS93.set_0 | apply IsS93.set_1) | exact HI0.out)⟩, ⟨by repeat (first | (with_reducible first | exact HK.out | apply KeepBut.set_ | apply keep_drewN | apply keep_drew | apply keep_alloc) | exact HK.out)⟩, ⟨by repeat (first | (with_reducible first | exact HB.out | apply ba_ | apply bn_ | apply bd_ | refine bs_ ?_ (IsS93.ge HI0.out)) | exact HB.out)⟩⟩
  ·replace c7 := Bool.eq_false_iff.mpr c7
   subst c7
   have H1 : (vint_Source_Text.j0 k t308 true t312 t313) = some (r1, r2, r3) := by rw [if_neg (show ¬ (false = true) by decide)] at H; exact H
   clear H
   have H := H1
   clear H1
   have H' := A_ H
   clear H
   go_wp2_with (first | ((with_reducible refine gate_callee (f := 41) rfl ?_); refine goesL_ (some 9) rfl rfl Try.func41 (by kernel_rfl) rfl #[.pointer (some ⟨g, 0, none⟩)] rfl (by (try simp only [List.map_toArray, List.map_cons, List.map_nil]); first | done | rfl | (simp only [List.length_drop, List.length_take]; rfl)) ?_; (with_reducible refine (vint_Source_Ok.calls g t309 t310 false t312 t313 w0 _ ?side1 ?side2 A6.out).mono ?_); (case side1 => repeat (first | (with_reducible first | exact HI0.out | apply IsS93.alloc | apply IsS93.drewN | apply IsS93.drew | apply IsS93.set_0 | apply IsS93.set_1) | exact HI0.out)); (case side2 => repeat (first | (with_reducible first | exact HB.out | apply ba_ | apply bn_ | apply bd_ | refine bs_ ?_ (IsS93.ge HI0.out)) | exact HB.out)); rintro e w14 ⟨rfl, hi, hb, hk⟩; refine ⟨_, rfl, ?_⟩; have n0_ := A_ (KeepBut.trans (by repeat (first | (with_reducible first | exact HK.out | apply KeepBut.set_ | apply keep_drewN | apply keep_drew | apply keep_alloc) | exact HK.out)) hk (.inl rfl)); have n1_ := A_ (hb); have n2_ := A_ (hi); clear HK; clear HB; clear HI0; have HK := n0_; have HB := n1_; have HI0 := n2_; clear n0_ n1_ n2_; (try clear hb); (try clear hb2); (try clear hk); (try clear hi)))
   go_meet
   case rel => exact ⟨_, (true), (t312), (t313), (Value.slice none 0 0), (by first | rfl | (simp; done) | (simp [*]; done)), H', ⟨by first | omega | exact Nat.le_refl _⟩, ⟨by repeat (first | (with_reducible first | exact HI0.out | apply IsS93.alloc | apply IsS93.drewN | apply IsS93.drew | apply IsS93.set_0 | apply IsS93.set_1) | exact HI0.out)⟩, ⟨by repeat (first | (with_reducible first | exact HK.out | apply KeepBut.set_ | apply keep_drewN | apply keep_drew | apply keep_alloc) | exact HK.out)⟩, ⟨by repeat (first | (with_reducible first | exact HB.out | apply ba_ | apply bn_ | apply bd_ | refine bs_ ?_ (IsS93.ge HI0.out)) | exact HB.out)⟩⟩
 case rest =>
  clear HC4
  try clear c1
  try clear c2
  try clear p2
  try clear c3
  try clear c4
  try clear c7
  try clear c8
  try clear c8b0
  try clear c10
  try clear c10b0
  try clear hcz13_0
  try clear hcz13_1
  try clear hfz13_0
  try clear hfz13_1
  obtain ⟨kq, x30_3, x1000_3, x1001_3, u1000, rfl, HA, HJ3, HI0, HK, HB⟩ := hcut
  cases kq with
  | zero => exact absurd HA.out (by simp [vint_Source_Text.j0])
  | succ kj3 =>
   have H := HA.out
   clear HA
   simp only [vint_Source_Text.j0] at H
   by_cases c15 : x30_3 = true
   ·subst c15
    have H1 : ((vint_Source_Fail.f x1000_3 x1001_3).bind fun bt314 => (some ((⟨#[]⟩ : ByteArray), bt314.1, bt314.2))) = some (r1, r2, r3) := by rw [if_pos rfl] at H; exact H
    clear H
    have H := H1
    clear H1
    replace H := Option.bind_eq_some_iff.mp H
    obtain ⟨⟨t314, t315⟩, A160, H⟩ := H
    replace H : (some ((⟨#[]⟩ : ByteArray), t314, t315)) = some (r1, r2, r3) := H
    have A16 := A_ A160
    clear A160
    simp only [Option.some.injEq, Prod.mk.injEq] at H
    obtain ⟨rfl, rfl, rfl⟩ := H
    go_wp2_with (first | ((with_reducible refine gate_callee (f := 39) rfl ?_); refine goesL_ (some 32) rfl rfl Try.func39 (by kernel_rfl) rfl #[.pointer (some ⟨g, 0, none⟩)] rfl (by (try simp only [List.map_toArray, List.map_cons, List.map_nil]); first | done | rfl | (simp only [List.length_drop, List.length_take]; rfl)) ?_; (with_reducible refine (vint_Source_Fail.calls g x1000_3 x1001_3 t314 t315 w0 _ ?side1 ?side2 A16.out).mono ?_); (case side1 => repeat (first | (with_reducible first | exact HI0.out | apply IsS93.alloc | apply IsS93.drewN | apply IsS93.drew | apply IsS93.set_0 | apply IsS93.set_1) | exact HI0.out)); (case side2 => repeat (first | (with_reducible first | exact HB.out | apply ba_ | apply bn_ | apply bd_ | refine bs_ ?_ (IsS93.ge HI0.out)) | exact HB.out)); rintro e w17 ⟨rfl, hi, hb, hk⟩; refine ⟨_, rfl, ?_⟩; have n0_ := A_ (KeepBut.trans (by repeat (first | (with_reducible first | exact HK.out | apply KeepBut.set_ | apply keep_drewN | apply keep_drew | apply keep_alloc) | exact HK.out)) hk (.inl rfl)); have n1_ := A_ (hb); have n2_ := A_ (hi); clear HK; clear HB; clear HI0; have HK := n0_; have HB := n1_; have HI0 := n2_; clear n0_ n1_ n2_; (try clear hb); (try clear hb2); (try clear hk); (try clear hi)))
    go_ret
    exact ⟨by first | rfl | (simp [errW_none, errW_some] <;> rfl) | (simp [*, errW_none, errW_some] <;> rfl), by repeat (first | (with_reducible first | exact HI0.out | apply IsS93.alloc | apply IsS93.drewN | apply IsS93.drew | apply IsS93.set_0 | apply IsS93.set_1) | exact HI0.out), by repeat (first | (with_reducible first | exact HB.out | apply ba_ | apply bn_ | apply bd_ | refine bs_ ?_ (IsS93.ge HI0.out)) | exact HB.out), by repeat (first | (with_reducible first | exact HK.out | apply KeepBut.set_ | apply keep_drewN | apply keep_drew | apply keep_alloc) | exact HK.out)⟩
   ·replace c15 := Bool.eq_false_iff.mpr c15
    subst c15
    have H1 : ((vint_Source_Take.f x1000_3 x1001_3 (wrap64 (t308))).bind fun bt316 => (some (strOfNums bt316.1, bt316.2.1, bt316.2.2))) = some (r1, r2, r3) := by rw [if_neg (show ¬ (false = true) by decide)] at H; exact H
    clear H
    have H := H1
    clear H1
    replace H := Option.bind_eq_some_iff.mp H
    obtain ⟨⟨t316, t319, t320⟩, A180, H⟩ := H
    replace H : (some (strOfNums t316, t319, t320)) = some (r1, r2, r3) := H
    have A18 := A_ A180
    clear A180
    simp only [Option.some.injEq, Prod.mk.injEq] at H
    obtain ⟨rfl, rfl, rfl⟩ := H
    go_wp2_with (first | ((with_reducible refine gate_callee (f := 37) rfl ?_); refine goesL_ (some 36) rfl rfl Try.func37 (by kernel_rfl) rfl #[.pointer (some ⟨g, 0, none⟩), .int .i64 (wrap64 (t308))] rfl (by (try simp only [List.map_toArray, List.map_cons, List.map_nil]); first | done | rfl | (simp only [List.length_drop, List.length_take]; rfl)) ?_; (with_reducible refine (vint_Source_Take.calls g x1000_3 x1001_3 (wrap64 (t308)) t316 t319 t320 w0 _ ?side1 ?side2 A18.out).mono ?_); (case side1 => repeat (first | (with_reducible first | exact HI0.out | apply IsS93.alloc | apply IsS93.drewN | apply IsS93.drew | apply IsS93.set_0 | apply IsS93.set_1) | exact HI0.out)); (case side2 => repeat (first | (with_reducible first | exact HB.out | apply ba_ | apply bn_ | apply bd_ | refine bs_ ?_ (IsS93.ge HI0.out)) | exact HB.out)); rintro e w19 ⟨v317, rfl, ho0, hi, hb, hk⟩; refine ⟨_, rfl, ?_⟩; have n0_ := A_ (Kd.R_lower ho0 (keep_size (w := w) (g := g) (row := none) (by repeat (first | (with_reducible first | exact HK.out | apply KeepBut.set_ | apply keep_drewN | apply keep_drew | apply keep_alloc) | exact HK.out)))); have n1_ := A_ (KeepBut.trans (by repeat (first | (with_reducible first | exact HK.out | apply KeepBut.set_ | apply keep_drewN | apply keep_drew | apply keep_alloc) | exact HK.out)) hk (.inl rfl)); have n2_ := A_ (hb); have n3_ := A_ (hi); clear HK; clear HB; clear HI0; have HO318 := n0_; have HK := n1_; have HB := n2_; have HI0 := n3_; clear n0_ n1_ n2_ n3_; (try clear hb); (try clear hb2); (try clear hk); (try clear hi); (try clear ho0); have hcv20 := own_string (P := Try.prog) Try.underlying31 Try.underlying5 Try.underlying9 (Kd.own_of_R HO318.out)))
    go_ret
    exact ⟨by first | rfl | (simp [errW_none, errW_some] <;> rfl) | (simp [*, errW_none, errW_some] <;> rfl), by repeat (first | (with_reducible first | exact HI0.out | apply IsS93.alloc | apply IsS93.drewN | apply IsS93.drew | apply IsS93.set_0 | apply IsS93.set_1) | exact HI0.out), by repeat (first | (with_reducible first | exact HB.out | apply ba_ | apply bn_ | apply bd_ | refine bs_ ?_ (IsS93.ge HI0.out)) | exact HB.out), by repeat (first | (with_reducible first | exact HK.out | apply KeepBut.set_ | apply keep_drewN | apply keep_drew | apply keep_alloc) | exact HK.out)⟩

def cell_Take.j0 : Nat → Int → List Int → Bool → Bool → Int → ByteArray → Option (Bool × Int × ByteArray × List Int × Bool)
 | 0, _, _, _, _, _, _ => none
 | k + 1, x1, x1000, x1001, x323000, x323001, x323002 => (vint_Source_Ok.f x1000 x1001).bind fun bt332 => (if bt332.1 = true then ((cell_May.f x1 true x323000 x323001 x323002).bind fun t335 => (if t335 = true then (some (x323000, x323001, x323002, bt332.2.1, bt332.2.2)) else ((vint_Source_Fail.f bt332.2.1 bt332.2.2).bind fun bt336 => (some (false, 0, (⟨#[]⟩ : ByteArray), bt336.1, bt336.2))))) else ((vint_Source_Fail.f bt332.2.1 bt332.2.2).bind fun bt338 => (some (false, 0, (⟨#[]⟩ : ByteArray), bt338.1, bt338.2))))
def cell_Take.f (k : Nat) (s0_0 : List Int) (s0_1 : Bool) (a1 : Int) : Option (Bool × Int × ByteArray × List Int × Bool) := (vint_Source_Below.f s0_0 s0_1 2).bind fun bt323 => (if bt323.1 = 0 then (cell_Take.j0 k a1 bt323.2.1 bt323.2.2 true 0 (⟨#[]⟩ : ByteArray)) else (if a1 = 3 then ((vint_Source_Text.f k bt323.2.1 bt323.2.2 40).bind fun bt326 => (cell_Take.j0 k a1 bt326.2.1 bt326.2.2 false 0 bt326.1)) else ((vint_Source_Int.f bt323.2.1 bt323.2.2).bind fun bt329 => (cell_Take.j0 k a1 bt329.2.1 bt329.2.2 false bt329.1 (⟨#[]⟩ : ByteArray)))))
theorem cell_Take.mono_l : ∀ k, (∀ y0 y1 y2 y3 y4 y5, LeO (cell_Take.j0 k y0 y1 y2 y3 y4 y5) (cell_Take.j0 (k + 1) y0 y1 y2 y3 y4 y5))
 | 0 => fun _ _ _ _ _ _ r h => by simp [cell_Take.j0] at h
 | k + 1 => by
  have ih0 := cell_Take.mono_l k
  ·intro y0 y1 y2 y3 y4 y5
   unfold cell_Take.j0
   repeat' first
   | (with_reducible exact ih0 _ _ _ _ _ _)
   | (with_reducible exact vint_Source_Text.mono _ _ _ _)
   | (with_reducible exact LeO.refl _)
   | (with_reducible exact LeO.none _)
   | (with_reducible refine LeO.ite ?_ ?_)
   | (with_reducible refine LeO.bind ?_ (fun _ => ?_))
   | exact ih0 _ _ _ _ _ _
   | exact vint_Source_Text.mono _ _ _ _
   | exact LeO.none _
   | refine LeO.ite ?_ ?_
   | refine LeO.bind ?_ (fun _ => ?_)
theorem cell_Take.mono : ∀ a0 a1 a2 k, LeO (cell_Take.f k a0 a1 a2) (cell_Take.f (k + 1) a0 a1 a2) := by
 intro a0 a1 a2 k
 have ih0 := cell_Take.mono_l k
 unfold cell_Take.f
 repeat' first
   | (with_reducible exact ih0 _ _ _ _ _ _)
   | (with_reducible exact vint_Source_Text.mono _ _ _ _)
   | (with_reducible exact LeO.refl _)
   | (with_reducible exact LeO.none _)
   | (with_reducible refine LeO.ite ?_ ?_)
   | (with_reducible refine LeO.bind ?_ (fun _ => ?_))
   | exact ih0 _ _ _ _ _ _
   | exact vint_Source_Text.mono _ _ _ _
   | exact LeO.none _
   | refine LeO.ite ?_ ?_
   | refine LeO.bind ?_ (fun _ => ?_)
theorem cell_Take.calls (k : Nat) (g : Nat) (s0_0 : List Int) (s0_1 : Bool) (a1 : Int) (r1 : Bool) (r2 : Int) (r3 : ByteArray) (r4 : List Int) (r5 : Bool) (w0 w : World) (hI : IsS93 w0 w g s0_0 s0_1) (hB : Below w0.heap.size w0 w) (h : cell_Take.f k s0_0 s0_1 a1 = some (r1, r2, r3, r4, r5)) :
  Calls Try.prog 65 #[.pointer (some ⟨g, 0, none⟩), .int .i64 a1] w fun e w' => e = .returned (.agg #[.bool r1, .int .i64 r2, .string r3]) ∧ IsS93 w0 w' g r4 r5 ∧ Below w0.heap.size w0 w' ∧ KeepBut w w' g none := by
 have hu23 := Try.underlying23
 have HI0 := A_ hI
 have HK := A_ (KeepBut.refl w g none)
 have HL := A_ hB.size
 clear hI
 have HW0 := A_ hB.size
 have HB := A_ hB
 clear hB
 have H : ((vint_Source_Below.f s0_0 s0_1 2).bind fun bt323 => (if bt323.1 = 0 then (cell_Take.j0 k a1 bt323.2.1 bt323.2.2 true 0 (⟨#[]⟩ : ByteArray)) else (if a1 = 3 then ((vint_Source_Text.f k bt323.2.1 bt323.2.2 40).bind fun bt326 => (cell_Take.j0 k a1 bt326.2.1 bt326.2.2 false 0 bt326.1)) else ((vint_Source_Int.f bt323.2.1 bt323.2.2).bind fun bt329 => (cell_Take.j0 k a1 bt329.2.1 bt329.2.2 false bt329.1 (⟨#[]⟩ : ByteArray)))))) = some (r1, r2, r3, r4, r5) := h
 clear h
 replace H := Option.bind_eq_some_iff.mp H
 obtain ⟨⟨t323, t324, t325⟩, A30, H⟩ := H
 replace H : (if t323 = 0 then (cell_Take.j0 k a1 t324 t325 true 0 (⟨#[]⟩ : ByteArray)) else (if a1 = 3 then ((vint_Source_Text.f k t324 t325 40).bind fun bt326 => (cell_Take.j0 k a1 bt326.2.1 bt326.2.2 false 0 bt326.1)) else ((vint_Source_Int.f t324 t325).bind fun bt329 => (cell_Take.j0 k a1 bt329.2.1 bt329.2.2 false bt329.1 (⟨#[]⟩ : ByteArray))))) = some (r1, r2, r3, r4, r5) := H
 have A3 := A_ A30
 clear A30
 have HC4 := A_ H
 clear H
 go_enter Try.func65, Try.ntmps65
 go_upto_block 0 with (first | ((with_reducible refine gate_dst (N := 4) rfl ?_); refine box_event ?hg (N := 4) ?hd (cs := #[.bool false, .int .i64 0, .string (⟨#[]⟩ : ByteArray)]) (t := 23) ?hr ?_; (case hd => rfl); (case hg => rfl); (case hr => first | (go_simp; done) | (go_simp; rfl)); intro gb321 hg w5 hbox hb; have n0_ := A_ (IsS93.below (by repeat (first | (with_reducible first | exact HI0.out | apply IsS93.alloc | apply IsS93.drewN | apply IsS93.drew | apply IsS93.set_0 | apply IsS93.set_1) | exact HI0.out)) hb); have n1_ := A_ (KeepBut.trans (by repeat (first | (with_reducible first | exact HK.out | apply KeepBut.set_ | apply keep_drewN | apply keep_drew | apply keep_alloc) | exact HK.out)) (KeepBut.of_below hb g none) (.inl rfl)); have n2_ := A_ (bp_ (by repeat (first | (with_reducible first | exact HB.out | apply ba_ | apply bn_ | apply bd_ | refine bs_ ?_ (IsS93.ge HI0.out)) | exact HB.out)) hb); have n3_ := A_ (hbox); have n4_ := A_ ((by rw [hg]; exact (keep_size (w := w) (g := g) (row := none) (by repeat (first | (with_reducible first | exact HK.out | apply KeepBut.set_ | apply keep_drewN | apply keep_drew | apply keep_alloc) | exact HK.out))) : w.heap.size ≤ gb321)); have n5_ := A_ ((Nat.le_trans HW0.out (by rw [hg]; exact (keep_size (w := w) (g := g) (row := none) (by repeat (first | (with_reducible first | exact HK.out | apply KeepBut.set_ | apply keep_drewN | apply keep_drew | apply keep_alloc) | exact HK.out))) : w.heap.size ≤ gb321) : w0.heap.size ≤ gb321)); have n6_ := A_ ((by rw [hg]; exact Nat.ne_of_lt (IsS93.lt (show IsS93 w0 _ g s0_0 s0_1 from by repeat (first | (with_reducible first | exact HI0.out | apply IsS93.alloc | apply IsS93.drewN | apply IsS93.drew | apply IsS93.set_0 | apply IsS93.set_1) | exact HI0.out))) : g ≠ gb321)); have n7_ := A_ ((by rw [hg]; exact Nat.ne_of_gt (IsS93.lt (show IsS93 w0 _ g s0_0 s0_1 from by repeat (first | (with_reducible first | exact HI0.out | apply IsS93.alloc | apply IsS93.drewN | apply IsS93.drew | apply IsS93.set_0 | apply IsS93.set_1) | exact HI0.out))) : gb321 ≠ g)); clear HI0; clear HK; clear HB; have HI0 := n0_; have HK := n1_; have HB := n2_; have BK321 := n3_; have GW321 := n4_; have GE321 := n5_; have NB0_321 := n6_; have NB321_0 := n7_; clear n0_ n1_ n2_ n3_ n4_ n5_ n6_ n7_; clear hb hbox hg) | ((with_reducible refine gate_dst (N := 5) rfl ?_); refine box_event ?hg (N := 5) ?hd (cs := #[.bool false, .int .i64 0, .string (⟨#[]⟩ : ByteArray)]) (t := 23) ?hr ?_; (case hd => rfl); (case hg => rfl); (case hr => first | (go_simp; done) | (go_simp; rfl)); intro gb322 hg w6 hbox hb; have n0_ := A_ (IsS93.below (by repeat (first | (with_reducible first | exact HI0.out | apply IsS93.alloc | apply IsS93.drewN | apply IsS93.drew | apply IsS93.set_0 | apply IsS93.set_1 | apply IsS93.far (p := ⟨gb321, _, none⟩) (hne := NB0_321.out)) | exact HI0.out)) hb); have n1_ := A_ (blk_below (g := gb321) (o := .cells #[.bool false, .int .i64 0, .string (⟨#[]⟩ : ByteArray)] 23 (0, 0)) (by (with_reducible repeat (first | refine kn_ ?_ _ | refine kd_ ?_ | refine ka_ ?_ _)); exact BK321.out) hb); have n2_ := A_ (KeepBut.trans (by repeat (first | (with_reducible first | exact HK.out | apply KeepBut.set_ | apply keep_drewN | apply keep_drew | apply keep_alloc | refine keep_far ?_ GW321.out _) | exact HK.out)) (KeepBut.of_below hb g none) (.inl rfl)); have n3_ := A_ (bp_ (by repeat (first | (with_reducible first | exact HB.out | apply ba_ | apply bn_ | apply bd_ | refine bs_ ?_ (IsS93.ge HI0.out) | refine bs_ ?_ GE321.out) | exact HB.out)) hb); have n4_ := A_ (hbox); have n5_ := A_ ((by rw [hg]; exact (keep_size (w := w) (g := g) (row := none) (by repeat (first | (with_reducible first | exact HK.out | apply KeepBut.set_ | apply keep_drewN | apply keep_drew | apply keep_alloc | refine keep_far ?_ GW321.out _) | exact HK.out))) : w.heap.size ≤ gb322)); have n6_ := A_ ((Nat.le_trans HW0.out (by rw [hg]; exact (keep_size (w := w) (g := g) (row := none) (by repeat (first | (with_reducible first | exact HK.out | apply KeepBut.set_ | apply keep_drewN | apply keep_drew | apply keep_alloc | refine keep_far ?_ GW321.out _) | exact HK.out))) : w.heap.size ≤ gb322) : w0.heap.size ≤ gb322)); have n7_ := A_ ((by rw [hg]; exact Nat.ne_of_lt (blk_lt (g := gb321) (o := .cells #[.bool false, .int .i64 0, .string (⟨#[]⟩ : ByteArray)] 23 (0, 0)) (by (with_reducible repeat (first | refine kn_ ?_ _ | refine kd_ ?_ | refine ka_ ?_ _)); exact BK321.out)) : gb321 ≠ gb322)); have n8_ := A_ ((by rw [hg]; exact Nat.ne_of_gt (blk_lt (g := gb321) (o := .cells #[.bool false, .int .i64 0, .string (⟨#[]⟩ : ByteArray)] 23 (0, 0)) (by (with_reducible repeat (first | refine kn_ ?_ _ | refine kd_ ?_ | refine ka_ ?_ _)); exact BK321.out)) : gb322 ≠ gb321)); have n9_ := A_ ((by rw [hg]; exact Nat.ne_of_lt (IsS93.lt (show IsS93 w0 _ g s0_0 s0_1 from by repeat (first | (with_reducible first | exact HI0.out | apply IsS93.alloc | apply IsS93.drewN | apply IsS93.drew | apply IsS93.set_0 | apply IsS93.set_1 | apply IsS93.far (p := ⟨gb321, _, none⟩) (hne := NB0_321.out)) | exact HI0.out))) : g ≠ gb322)); have n10_ := A_ ((by rw [hg]; exact Nat.ne_of_gt (IsS93.lt (show IsS93 w0 _ g s0_0 s0_1 from by repeat (first | (with_reducible first | exact HI0.out | apply IsS93.alloc | apply IsS93.drewN | apply IsS93.drew | apply IsS93.set_0 | apply IsS93.set_1 | apply IsS93.far (p := ⟨gb321, _, none⟩) (hne := NB0_321.out)) | exact HI0.out))) : gb322 ≠ g)); clear HI0; clear BK321; clear HK; clear HB; have HI0 := n0_; have BK321 := n1_; have HK := n2_; have HB := n3_; have BK322 := n4_; have GW322 := n5_; have GE322 := n6_; have NB321_322 := n7_; have NB322_321 := n8_; have NB0_322 := n9_; have NB322_0 := n10_; clear n0_ n1_ n2_ n3_ n4_ n5_ n6_ n7_ n8_ n9_ n10_; clear hb hbox hg) | ((with_reducible refine gate_callee (f := 33) rfl ?_); refine goesL_ (some 8) rfl rfl Try.func33 (by kernel_rfl) rfl #[.pointer (some ⟨g, 0, none⟩), .int .i64 2] rfl (by (try simp only [List.map_toArray, List.map_cons, List.map_nil]); first | done | rfl | (simp only [List.length_drop, List.length_take]; rfl)) ?_; (with_reducible refine (vint_Source_Below.calls g s0_0 s0_1 2 t323 t324 t325 w0 _ ?side1 ?side2 A3.out).mono ?_); (case side1 => repeat (first | (with_reducible first | exact HI0.out | apply IsS93.alloc | apply IsS93.drewN | apply IsS93.drew | apply IsS93.set_0 | apply IsS93.set_1 | apply IsS93.far (p := ⟨gb321, _, none⟩) (hne := NB0_321.out) | apply IsS93.far (p := ⟨gb322, _, none⟩) (hne := NB0_322.out)) | exact HI0.out)); (case side2 => repeat (first | (with_reducible first | exact HB.out | apply ba_ | apply bn_ | apply bd_ | refine bs_ ?_ (IsS93.ge HI0.out) | refine bs_ ?_ GE321.out | refine bs_ ?_ GE322.out) | exact HB.out)); rintro e w7 ⟨rfl, hi, hb, hk⟩; refine ⟨_, rfl, ?_⟩; have n0_ := A_ (KeepBut.blk hk (g' := gb321) (o := .cells #[.bool false, .int .i64 0, .string (⟨#[]⟩ : ByteArray)] 23 (0, 0)) (by (with_reducible repeat (first | refine kn_ ?_ _ | refine kd_ ?_ | refine ka_ ?_ _)); exact BK321.out) NB321_0.out (by simp)); have n1_ := A_ (KeepBut.blk hk (g' := gb322) (o := .cells #[.bool false, .int .i64 0, .string (⟨#[]⟩ : ByteArray)] 23 (0, 0)) (by (with_reducible repeat (first | refine kn_ ?_ _ | refine kd_ ?_ | refine ka_ ?_ _)); exact BK322.out) NB322_0.out (by simp)); have n2_ := A_ (KeepBut.trans (by repeat (first | (with_reducible first | exact HK.out | apply KeepBut.set_ | apply keep_drewN | apply keep_drew | apply keep_alloc | refine keep_far ?_ GW321.out _ | refine keep_far ?_ GW322.out _) | exact HK.out)) hk (.inl rfl)); have n3_ := A_ (hb); have n4_ := A_ (hi); clear BK321; clear BK322; clear HK; clear HB; clear HI0; have BK321 := n0_; have BK322 := n1_; have HK := n2_; have HB := n3_; have HI0 := n4_; clear n0_ n1_ n2_ n3_ n4_; (try clear hb); (try clear hb2); (try clear hk); (try clear hi)))
 (try simp only [Act.put, setIfInBounds_toArray, set_cons_zero, set_cons_succ])
 go_cut [] (fun wc => ∃ (kq : Nat) (x1000_3 : List Int) (x1001_3 : Bool) (x323000_3 : Bool) (x323001_3 : Int) (x323002_3 : ByteArray) (u1000 : Value), Aside0 (cell_Take.j0 kq a1 x1000_3 x1001_3 x323000_3 x323001_3 x323002_3 = some (r1, r2, r3, r4, r5)) ∧ Aside0 (kq ≤ k) ∧ Aside0 (wc.heap[gb321]? = some (.cells #[.bool false, .int .i64 0, .string (⟨#[]⟩ : ByteArray)] 23 (0, 0))) ∧ Aside0 (wc.heap[gb322]? = some (.cells #[.bool x323000_3, .int .i64 x323001_3, .string x323002_3] 23 (0, 0))) ∧ Aside0 (IsS93 w0 wc g x1000_3 x1001_3) ∧ Aside0 (KeepBut w wc g none) ∧ Aside0 (Below w0.heap.size w0 wc))
 case first =>
  have H := HC4.out
  clear HC4
  by_cases c8 : t323 = 0
  ·rw [if_pos c8] at H
   have c8b0 : (t323 == 0) = true := beq_iff_eq.mpr c8
   have c8b1 : (t323 != 0) = false := bne_eq_false_iff_eq.mpr c8
   clear c8
   (first | rw [c8b0] | (simp only [i64_w, i32_w]; rw [c8b0]) | skip)
   have H' := A_ H
   clear H
   have hnb9 := NB322_321.out
   have hnc9 := NB321_322.out
   have hnb10 := NB322_0.out
   have hnc10 := NB0_322.out
   have hcz11_0 : w7.cell? ⟨gb322, 0, none⟩ = some (.bool false) := (bc_ BK322.out 0).trans rfl
   have hcz11_1 : w7.cell? ⟨gb322, 1, none⟩ = some (.int .i64 0) := (bc_ BK322.out 1).trans rfl
   have hcz11_2 : w7.cell? ⟨gb322, 2, none⟩ = some (.string (⟨#[]⟩ : ByteArray)) := (bc_ BK322.out 2).trans rfl
   have hfz11_0 := bf_ BK322.out 0
   have hfz11_1 := bf_ BK322.out 1
   have hfz11_2 := bf_ BK322.out 2
   go_wp2
   go_meet
   case rel => exact ⟨_, (t324), (t325), (true), (0), ((⟨#[]⟩ : ByteArray)), (Value.slice none 0 0), H', ⟨by first | omega | exact Nat.le_refl _⟩, ⟨by (with_reducible repeat (first | refine kn_ ?_ _ | refine kd_ ?_ | refine ka_ ?_ _)); refine blk_far ?_ NB321_322.out _; (with_reducible repeat (first | refine kn_ ?_ _ | refine kd_ ?_ | refine ka_ ?_ _)); exact BK321.out⟩, ⟨by (with_reducible repeat (first | refine kn_ ?_ _ | refine kd_ ?_ | refine ka_ ?_ _)); refine blk_put (cs := #[.bool false, .int .i64 0, .string (⟨#[]⟩ : ByteArray)]) ?_ 0 _ rfl; (with_reducible repeat (first | refine kn_ ?_ _ | refine kd_ ?_ | refine ka_ ?_ _)); exact BK322.out⟩, ⟨by repeat (first | (with_reducible first | exact HI0.out | apply IsS93.alloc | apply IsS93.drewN | apply IsS93.drew | apply IsS93.set_0 | apply IsS93.set_1 | apply IsS93.far (p := ⟨gb321, _, none⟩) (hne := NB0_321.out) | apply IsS93.far (p := ⟨gb322, _, none⟩) (hne := NB0_322.out)) | exact HI0.out)⟩, ⟨by repeat (first | (with_reducible first | exact HK.out | apply KeepBut.set_ | apply keep_drewN | apply keep_drew | apply keep_alloc | refine keep_far ?_ GW321.out _ | refine keep_far ?_ GW322.out _) | exact HK.out)⟩, ⟨by repeat (first | (with_reducible first | exact HB.out | apply ba_ | apply bn_ | apply bd_ | refine bs_ ?_ (IsS93.ge HI0.out) | refine bs_ ?_ GE321.out | refine bs_ ?_ GE322.out) | exact HB.out)⟩⟩
  ·rw [if_neg c8] at H
   have c8b0 : (t323 == 0) = false := beq_eq_false_iff_ne.mpr c8
   have c8b1 : (t323 != 0) = true := bne_iff_ne.mpr c8
   (first | rw [c8b0] | (simp only [i64_w, i32_w]; rw [c8b0]) | skip)
   by_cases c12 : a1 = 3
   ·rw [if_pos c12] at H
    have c12b0 : (a1 == 3) = true := beq_iff_eq.mpr c12
    have c12b1 : (a1 != 3) = false := bne_eq_false_iff_eq.mpr c12
    clear c12
    replace H := Option.bind_eq_some_iff.mp H
    obtain ⟨⟨t326, t327, t328⟩, A130, H⟩ := H
    replace H : (cell_Take.j0 k a1 t327 t328 false 0 t326) = some (r1, r2, r3, r4, r5) := H
    have A13 := A_ A130
    clear A130
    have H' := A_ H
    clear H
    go_wp2_with (first | ((with_reducible refine gate_callee (f := 35) rfl ?_); refine goesL_ (some 20) rfl rfl Try.func35 (by kernel_rfl) rfl #[.pointer (some ⟨g, 0, none⟩), .int .i64 40] rfl (by (try simp only [List.map_toArray, List.map_cons, List.map_nil]); first | done | rfl | (simp only [List.length_drop, List.length_take]; rfl)) ?_; (with_reducible refine (vint_Source_Text.calls k g t324 t325 40 t326 t327 t328 w0 _ ?side1 ?side2 A13.out).mono ?_); (case side1 => repeat (first | (with_reducible first | exact HI0.out | apply IsS93.alloc | apply IsS93.drewN | apply IsS93.drew | apply IsS93.set_0 | apply IsS93.set_1 | apply IsS93.far (p := ⟨gb321, _, none⟩) (hne := NB0_321.out) | apply IsS93.far (p := ⟨gb322, _, none⟩) (hne := NB0_322.out)) | exact HI0.out)); (case side2 => repeat (first | (with_reducible first | exact HB.out | apply ba_ | apply bn_ | apply bd_ | refine bs_ ?_ (IsS93.ge HI0.out) | refine bs_ ?_ GE321.out | refine bs_ ?_ GE322.out) | exact HB.out)); rintro e w14 ⟨rfl, hi, hb, hk⟩; refine ⟨_, rfl, ?_⟩; have n0_ := A_ (KeepBut.blk hk (g' := gb321) (o := .cells #[.bool false, .int .i64 0, .string (⟨#[]⟩ : ByteArray)] 23 (0, 0)) (by (with_reducible repeat (first | refine kn_ ?_ _ | refine kd_ ?_ | refine ka_ ?_ _)); exact BK321.out) NB321_0.out (by simp)); have n1_ := A_ (KeepBut.blk hk (g' := gb322) (o := .cells #[.bool false, .int .i64 0, .string (⟨#[]⟩ : ByteArray)] 23 (0, 0)) (by (with_reducible repeat (first | refine kn_ ?_ _ | refine kd_ ?_ | refine ka_ ?_ _)); exact BK322.out) NB322_0.out (by simp)); have n2_ := A_ (KeepBut.trans (by repeat (first | (with_reducible first | exact HK.out | apply KeepBut.set_ | apply keep_drewN | apply keep_drew | apply keep_alloc | refine keep_far ?_ GW321.out _ | refine keep_far ?_ GW322.out _) | exact HK.out)) hk (.inl rfl)); have n3_ := A_ (hb); have n4_ := A_ (hi); clear BK321; clear BK322; clear HK; clear HB; clear HI0; have BK321 := n0_; have BK322 := n1_; have HK := n2_; have HB := n3_; have HI0 := n4_; clear n0_ n1_ n2_ n3_ n4_; (try clear hb); (try clear hb2); (try clear hk); (try clear hi); have hnb15 := NB322_321.out; have hnc15 := NB321_322.out; have hnb16 := NB322_0.out; have hnc16 := NB0_322.out; have hcz17_0 : w14.cell? ⟨gb322, 0, none⟩ = some (.bool false) := (bc_ BK322.out 0).trans rfl; have hcz17_1 : w14.cell? ⟨gb322, 1, none⟩ = some (.int .i64 0) := (bc_ BK322.out 1).trans rfl; have hcz17_2 : w14.cell? ⟨gb322, 2, none⟩ = some (.string (⟨#[]⟩ : ByteArray)) := (bc_ BK322.out 2).trans rfl; have hfz17_0 := bf_ BK322.out 0; have hfz17_1 := bf_ BK322.out 1; have hfz17_2 := bf_ BK322.out 2))
    go_meet
    case rel => exact ⟨_, (t327), (t328), (false), (0), (t326), (Value.slice none 0 0), H', ⟨by first | omega | exact Nat.le_refl _⟩, ⟨by (with_reducible repeat (first | refine kn_ ?_ _ | refine kd_ ?_ | refine ka_ ?_ _)); refine blk_far ?_ NB321_322.out _; (with_reducible repeat (first | refine kn_ ?_ _ | refine kd_ ?_ | refine ka_ ?_ _)); exact BK321.out⟩, ⟨by (with_reducible repeat (first | refine kn_ ?_ _ | refine kd_ ?_ | refine ka_ ?_ _)); refine blk_put (cs := #[.bool false, .int .i64 0, .string (⟨#[]⟩ : ByteArray)]) ?_ 2 _ rfl; (with_reducible repeat (first | refine kn_ ?_ _ | refine kd_ ?_ | refine ka_ ?_ _)); exact BK322.out⟩, ⟨by repeat (first | (with_reducible first | exact HI0.out | apply IsS93.alloc | apply IsS93.drewN | apply IsS93.drew | apply IsS93.set_0 | apply IsS93.set_1 | apply IsS93.far (p := ⟨gb321, _, none⟩) (hne := NB0_321.out) | apply IsS93.far (p := ⟨gb322, _, none⟩) (hne := NB0_322.out)) | exact HI0.out)⟩, ⟨by repeat (first | (with_reducible first | exact HK.out | apply KeepBut.set_ | apply keep_drewN | apply keep_drew | apply keep_alloc | refine keep_far ?_ GW321.out _ | refine keep_far ?_ GW322.out _) | exact HK.out)⟩, ⟨by repeat (first | (with_reducible first | exact HB.out | apply ba_ | apply bn_ | apply bd_ | refine bs_ ?_ (IsS93.ge HI0.out) | refine bs_ ?_ GE321.out | refine bs_ ?_ GE322.out) | exact HB.out)⟩⟩
   ·rw [if_neg c12] at H
    have c12b0 : (a1 == 3) = false := beq_eq_false_iff_ne.mpr c12
    have c12b1 : (a1 != 3) = true := bne_iff_ne.mpr c12
    replace H := Option.bind_eq_some_iff.mp H
    obtain ⟨⟨t329, t330, t331⟩, A180, H⟩ := H
    replace H : (cell_Take.j0 k a1 t330 t331 false t329 (⟨#[]⟩ : ByteArray)) = some (r1, r2, r3, r4, r5) := H
    have A18 := A_ A180
    clear A180
    have H' := A_ H
    clear H
    go_wp2_with (first | ((with_reducible refine gate_callee (f := 31) rfl ?_); refine goesL_ (some 10) rfl rfl Try.func31 (by kernel_rfl) rfl #[.pointer (some ⟨g, 0, none⟩)] rfl (by (try simp only [List.map_toArray, List.map_cons, List.map_nil]); first | done | rfl | (simp only [List.length_drop, List.length_take]; rfl)) ?_; (with_reducible refine (vint_Source_Int.calls g t324 t325 t329 t330 t331 w0 _ ?side1 ?side2 A18.out).mono ?_); (case side1 => repeat (first | (with_reducible first | exact HI0.out | apply IsS93.alloc | apply IsS93.drewN | apply IsS93.drew | apply IsS93.set_0 | apply IsS93.set_1 | apply IsS93.far (p := ⟨gb321, _, none⟩) (hne := NB0_321.out) | apply IsS93.far (p := ⟨gb322, _, none⟩) (hne := NB0_322.out)) | exact HI0.out)); (case side2 => repeat (first | (with_reducible first | exact HB.out | apply ba_ | apply bn_ | apply bd_ | refine bs_ ?_ (IsS93.ge HI0.out) | refine bs_ ?_ GE321.out | refine bs_ ?_ GE322.out) | exact HB.out)); rintro e w19 ⟨rfl, hi, hb, hk⟩; refine ⟨_, rfl, ?_⟩; have n0_ := A_ (KeepBut.blk hk (g' := gb321) (o := .cells #[.bool false, .int .i64 0, .string (⟨#[]⟩ : ByteArray)] 23 (0, 0)) (by (with_reducible repeat (first | refine kn_ ?_ _ | refine kd_ ?_ | refine ka_ ?_ _)); exact BK321.out) NB321_0.out (by simp)); have n1_ := A_ (KeepBut.blk hk (g' := gb322) (o := .cells #[.bool false, .int .i64 0, .string (⟨#[]⟩ : ByteArray)] 23 (0, 0)) (by (with_reducible repeat (first | refine kn_ ?_ _ | refine kd_ ?_ | refine ka_ ?_ _)); exact BK322.out) NB322_0.out (by simp)); have n2_ := A_ (KeepBut.trans (by repeat (first | (with_reducible first | exact HK.out | apply KeepBut.set_ | apply keep_drewN | apply keep_drew | apply keep_alloc | refine keep_far ?_ GW321.out _ | refine keep_far ?_ GW322.out _) | exact HK.out)) hk (.inl rfl)); have n3_ := A_ (hb); have n4_ := A_ (hi); clear BK321; clear BK322; clear HK; clear HB; clear HI0; have BK321 := n0_; have BK322 := n1_; have HK := n2_; have HB := n3_; have HI0 := n4_; clear n0_ n1_ n2_ n3_ n4_; (try clear hb); (try clear hb2); (try clear hk); (try clear hi); have hnb20 := NB322_321.out; have hnc20 := NB321_322.out; have hnb21 := NB322_0.out; have hnc21 := NB0_322.out; have hcz22_0 : w19.cell? ⟨gb322, 0, none⟩ = some (.bool false) := (bc_ BK322.out 0).trans rfl; have hcz22_1 : w19.cell? ⟨gb322, 1, none⟩ = some (.int .i64 0) := (bc_ BK322.out 1).trans rfl; have hcz22_2 : w19.cell? ⟨gb322, 2, none⟩ = some (.string (⟨#[]⟩ : ByteArray)) := (bc_ BK322.out 2).trans rfl; have hfz22_0 := bf_ BK322.out 0; have hfz22_1 := bf_ BK322.out 1; have hfz22_2 := bf_ BK322.out 2))
    go_meet
    case rel => exact ⟨_, (t330), (t331), (false), (t329), ((⟨#[]⟩ : ByteArray)), (Value.slice none 0 0), H', ⟨by first | omega | exact Nat.le_refl _⟩, ⟨by (with_reducible repeat (first | refine kn_ ?_ _ | refine kd_ ?_ | refine ka_ ?_ _)); refine blk_far ?_ NB321_322.out _; (with_reducible repeat (first | refine kn_ ?_ _ | refine kd_ ?_ | refine ka_ ?_ _)); exact BK321.out⟩, ⟨by (with_reducible repeat (first | refine kn_ ?_ _ | refine kd_ ?_ | refine ka_ ?_ _)); refine blk_put (cs := #[.bool false, .int .i64 0, .string (⟨#[]⟩ : ByteArray)]) ?_ 1 _ rfl; (with_reducible repeat (first | refine kn_ ?_ _ | refine kd_ ?_ | refine ka_ ?_ _)); exact BK322.out⟩, ⟨by repeat (first | (with_reducible first | exact HI0.out | apply IsS93.alloc | apply IsS93.drewN | apply IsS93.drew | apply IsS93.set_0 | apply IsS93.set_1 | apply IsS93.far (p := ⟨gb321, _, none⟩) (hne := NB0_321.out) | apply IsS93.far (p := ⟨gb322, _, none⟩) (hne := NB0_322.out)) | exact HI0.out)⟩, ⟨by repeat (first | (with_reducible first | exact HK.out | apply KeepBut.set_ | apply keep_drewN | apply keep_drew | apply keep_alloc | refine keep_far ?_ GW321.out _ | refine keep_far ?_ GW322.out _) | exact HK.out)⟩, ⟨by repeat (first | (with_reducible first | exact HB.out | apply ba_ | apply bn_ | apply bd_ | refine bs_ ?_ (IsS93.ge HI0.out) | refine bs_ ?_ GE321.out | refine bs_ ?_ GE322.out) | exact HB.out)⟩⟩
 case rest =>
  clear HC4
  try clear c1
  try clear c2
  try clear p2
  try clear c3
  try clear c6
  try clear c8
  try clear c8b0
  try clear c8b1
  try clear c9
  try clear c10
  try clear c12
  try clear c12b0
  try clear c12b1
  try clear c15
  try clear c16
  try clear c20
  try clear c21
  try clear hcz11_0
  try clear hcz11_1
  try clear hcz11_2
  try clear hcz17_0
  try clear hcz17_1
  try clear hcz17_2
  try clear hcz22_0
  try clear hcz22_1
  try clear hcz22_2
  try clear hfz11_0
  try clear hfz11_1
  try clear hfz11_2
  try clear hfz17_0
  try clear hfz17_1
  try clear hfz17_2
  try clear hfz22_0
  try clear hfz22_1
  try clear hfz22_2
  obtain ⟨kq, x1000_3, x1001_3, x323000_3, x323001_3, x323002_3, u1000, HA, HJ3, BK321, BK322, HI0, HK, HB⟩ := hcut
  cases kq with
  | zero => exact absurd HA.out (by simp [cell_Take.j0])
  | succ kj3 =>
   have H := HA.out
   clear HA
   simp only [cell_Take.j0] at H
   replace H := Option.bind_eq_some_iff.mp H
   obtain ⟨⟨t332, t333, t334⟩, A230, H⟩ := H
   replace H : (if t332 = true then ((cell_May.f a1 true x323000_3 x323001_3 x323002_3).bind fun t335 => (if t335 = true then (some (x323000_3, x323001_3, x323002_3, t333, t334)) else ((vint_Source_Fail.f t333 t334).bind fun bt336 => (some (false, 0, (⟨#[]⟩ : ByteArray), bt336.1, bt336.2))))) else ((vint_Source_Fail.f t333 t334).bind fun bt338 => (some (false, 0, (⟨#[]⟩ : ByteArray), bt338.1, bt338.2)))) = some (r1, r2, r3, r4, r5) := H
   have A23 := A_ A230
   clear A230
   by_cases c24 : t332 = true
   ·subst c24
    have H1 : ((cell_May.f a1 true x323000_3 x323001_3 x323002_3).bind fun t335 => (if t335 = true then (some (x323000_3, x323001_3, x323002_3, t333, t334)) else ((vint_Source_Fail.f t333 t334).bind fun bt336 => (some (false, 0, (⟨#[]⟩ : ByteArray), bt336.1, bt336.2))))) = some (r1, r2, r3, r4, r5) := by rw [if_pos rfl] at H; exact H
    clear H
    have H := H1
    clear H1
    replace H := Option.bind_eq_some_iff.mp H
    obtain ⟨t335, A250, H⟩ := H
    replace H : (if t335 = true then (some (x323000_3, x323001_3, x323002_3, t333, t334)) else ((vint_Source_Fail.f t333 t334).bind fun bt336 => (some (false, 0, (⟨#[]⟩ : ByteArray), bt336.1, bt336.2)))) = some (r1, r2, r3, r4, r5) := H
    have A25 := A_ A250
    clear A250
    by_cases c26 : t335 = true
    ·subst c26
     have H1 : (some (x323000_3, x323001_3, x323002_3, t333, t334)) = some (r1, r2, r3, r4, r5) := by rw [if_pos rfl] at H; exact H
     clear H
     have H := H1
     clear H1
     simp only [Option.some.injEq, Prod.mk.injEq] at H
     obtain ⟨rfl, rfl, rfl, rfl, rfl⟩ := H
     go_wp2_with (first | ((with_reducible refine gate_callee (f := 41) rfl ?_); refine goesL_ (some 23) rfl rfl Try.func41 (by kernel_rfl) rfl #[.pointer (some ⟨g, 0, none⟩)] rfl (by (try simp only [List.map_toArray, List.map_cons, List.map_nil]); first | done | rfl | (simp only [List.length_drop, List.length_take]; rfl)) ?_; (with_reducible refine (vint_Source_Ok.calls g x1000_3 x1001_3 true t333 t334 w0 _ ?side1 ?side2 A23.out).mono ?_); (case side1 => repeat (first | (with_reducible first | exact HI0.out | apply IsS93.alloc | apply IsS93.drewN | apply IsS93.drew | apply IsS93.set_0 | apply IsS93.set_1 | apply IsS93.far (p := ⟨gb321, _, none⟩) (hne := NB0_321.out) | apply IsS93.far (p := ⟨gb322, _, none⟩) (hne := NB0_322.out)) | exact HI0.out)); (case side2 => repeat (first | (with_reducible first | exact HB.out | apply ba_ | apply bn_ | apply bd_ | refine bs_ ?_ (IsS93.ge HI0.out) | refine bs_ ?_ GE321.out | refine bs_ ?_ GE322.out) | exact HB.out)); rintro e w27 ⟨rfl, hi, hb, hk⟩; refine ⟨_, rfl, ?_⟩; have n0_ := A_ (KeepBut.blk hk (g' := gb321) (o := .cells #[.bool false, .int .i64 0, .string (⟨#[]⟩ : ByteArray)] 23 (0, 0)) (by (with_reducible repeat (first | refine kn_ ?_ _ | refine kd_ ?_ | refine ka_ ?_ _)); exact BK321.out) NB321_0.out (by simp)); have n1_ := A_ (KeepBut.blk hk (g' := gb322) (o := .cells #[.bool x323000_3, .int .i64 x323001_3, .string x323002_3] 23 (0, 0)) (by (with_reducible repeat (first | refine kn_ ?_ _ | refine kd_ ?_ | refine ka_ ?_ _)); exact BK322.out) NB322_0.out (by simp)); have n2_ := A_ (KeepBut.trans (by repeat (first | (with_reducible first | exact HK.out | apply KeepBut.set_ | apply keep_drewN | apply keep_drew | apply keep_alloc | refine keep_far ?_ GW321.out _ | refine keep_far ?_ GW322.out _) | exact HK.out)) hk (.inl rfl)); have n3_ := A_ (hb); have n4_ := A_ (hi); clear BK321; clear BK322; clear HK; clear HB; clear HI0; have BK321 := n0_; have BK322 := n1_; have HK := n2_; have HB := n3_; have HI0 := n4_; clear n0_ n1_ n2_ n3_ n4_; (try clear hb); (try clear hb2); (try clear hk); (try clear hi); have hnb28 := NB322_321.out; have hnc28 := NB321_322.out; have hnb29 := NB322_0.out; have hnc29 := NB0_322.out; have hcz30_0 : w27.cell? ⟨gb322, 0, none⟩ = some (.bool x323000_3) := (bc_ BK322.out 0).trans rfl; have hcz30_1 : w27.cell? ⟨gb322, 1, none⟩ = some (.int .i64 x323001_3) := (bc_ BK322.out 1).trans rfl; have hcz30_2 : w27.cell? ⟨gb322, 2, none⟩ = some (.string x323002_3) := (bc_ BK322.out 2).trans rfl; have hfz30_0 := bf_ BK322.out 0; have hfz30_1 := bf_ BK322.out 1; have hfz30_2 := bf_ BK322.out 2) | (go_at_call 73; (with_reducible refine (cell_May.calls a1 true x323000_3 x323001_3 x323002_3 true _ A25.out).mono ?_); rintro e w31 ⟨rfl, hb⟩; have n0_ := A_ (blk_below (g := gb321) (o := .cells #[.bool false, .int .i64 0, .string (⟨#[]⟩ : ByteArray)] 23 (0, 0)) (by (with_reducible repeat (first | refine kn_ ?_ _ | refine kd_ ?_ | refine ka_ ?_ _)); exact BK321.out) hb); have n1_ := A_ (blk_below (g := gb322) (o := .cells #[.bool x323000_3, .int .i64 x323001_3, .string x323002_3] 23 (0, 0)) (by (with_reducible repeat (first | refine kn_ ?_ _ | refine kd_ ?_ | refine ka_ ?_ _)); exact BK322.out) hb); have n2_ := A_ (IsS93.below (by repeat (first | (with_reducible first | exact HI0.out | apply IsS93.alloc | apply IsS93.drewN | apply IsS93.drew | apply IsS93.set_0 | apply IsS93.set_1 | apply IsS93.far (p := ⟨gb321, _, none⟩) (hne := NB0_321.out) | apply IsS93.far (p := ⟨gb322, _, none⟩) (hne := NB0_322.out)) | exact HI0.out)) hb); have n3_ := A_ (KeepBut.trans (by repeat (first | (with_reducible first | exact HK.out | apply KeepBut.set_ | apply keep_drewN | apply keep_drew | apply keep_alloc | refine keep_far ?_ GW321.out _ | refine keep_far ?_ GW322.out _) | exact HK.out)) (KeepBut.of_below hb g none) (.inl rfl)); have n4_ := A_ (bp_ (by repeat (first | (with_reducible first | exact HB.out | apply ba_ | apply bn_ | apply bd_ | refine bs_ ?_ (IsS93.ge HI0.out) | refine bs_ ?_ GE321.out | refine bs_ ?_ GE322.out) | exact HB.out)) hb); clear BK321; clear BK322; clear HI0; clear HK; clear HB; have BK321 := n0_; have BK322 := n1_; have HI0 := n2_; have HK := n3_; have HB := n4_; clear n0_ n1_ n2_ n3_ n4_; (try clear hb); (try clear hb2); (try clear hk); (try clear hi); have hcz32_0 : w31.cell? ⟨gb322, 0, none⟩ = some (.bool x323000_3) := (bc_ BK322.out 0).trans rfl; have hcz32_1 : w31.cell? ⟨gb322, 1, none⟩ = some (.int .i64 x323001_3) := (bc_ BK322.out 1).trans rfl; have hcz32_2 : w31.cell? ⟨gb322, 2, none⟩ = some (.string x323002_3) := (bc_ BK322.out 2).trans rfl; have hfz32_0 := bf_ BK322.out 0; have hfz32_1 := bf_ BK322.out 1; have hfz32_2 := bf_ BK322.out 2; have hnb33 := NB321_0.out; have hnc33 := NB0_321.out; have hcz34_0 : w31.cell? ⟨gb321, 0, none⟩ = some (.bool false) := (bc_ BK321.out 0).trans rfl; have hcz34_1 : w31.cell? ⟨gb321, 1, none⟩ = some (.int .i64 0) := (bc_ BK321.out 1).trans rfl; have hcz34_2 : w31.cell? ⟨gb321, 2, none⟩ = some (.string (⟨#[]⟩ : ByteArray)) := (bc_ BK321.out 2).trans rfl; have hfz34_0 := bf_ BK321.out 0; have hfz34_1 := bf_ BK321.out 1; have hfz34_2 := bf_ BK321.out 2))
     refine bodyPost_ret (results_cell_row rfl _ _ gb321 23 #[.bool x323000_3, .int .i64 x323001_3, .string x323002_3] (0, 0) _ rfl (by (with_reducible repeat (first | refine kn_ ?_ _ | refine kd_ ?_ | refine ka_ ?_ _)); refine blk_put (cs := #[.bool x323000_3, .int .i64 x323001_3, .string (⟨#[]⟩ : ByteArray)]) ?_ 2 _ rfl; (with_reducible repeat (first | refine kn_ ?_ _ | refine kd_ ?_ | refine ka_ ?_ _)); refine blk_put (cs := #[.bool x323000_3, .int .i64 0, .string (⟨#[]⟩ : ByteArray)]) ?_ 1 _ rfl; (with_reducible repeat (first | refine kn_ ?_ _ | refine kd_ ?_ | refine ka_ ?_ _)); refine blk_put (cs := #[.bool false, .int .i64 0, .string (⟨#[]⟩ : ByteArray)]) ?_ 0 _ rfl; (with_reducible repeat (first | refine kn_ ?_ _ | refine kd_ ?_ | refine ka_ ?_ _)); exact BK321.out) Try.underlying23 rfl (by kernel_rfl)) rfl ?_
     exact ⟨by first | rfl | (simp [errW_none, errW_some] <;> rfl) | (simp [*, errW_none, errW_some] <;> rfl), by repeat (first | (with_reducible first | exact HI0.out | apply IsS93.alloc | apply IsS93.drewN | apply IsS93.drew | apply IsS93.set_0 | apply IsS93.set_1 | apply IsS93.far (p := ⟨gb321, _, none⟩) (hne := NB0_321.out) | apply IsS93.far (p := ⟨gb322, _, none⟩) (hne := NB0_322.out)) | exact HI0.out), by repeat (first | (with_reducible first | exact HB.out | apply ba_ | apply bn_ | apply bd_ | refine bs_ ?_ (IsS93.ge HI0.out) | refine bs_ ?_ GE321.out | refine bs_ ?_ GE322.out) | exact HB.out), by repeat (first | (with_reducible first | exact HK.out | apply KeepBut.set_ | apply keep_drewN | apply keep_drew | apply keep_alloc | refine keep_far ?_ GW321.out _ | refine keep_far ?_ GW322.out _) | exact HK.out)⟩
    ·replace c26 := Bool.eq_false_iff.mpr c26
     subst c26
     have H1 : ((vint_Source_Fail.f t333 t334).bind fun bt336 => (some (false, 0, (⟨#[]⟩ : ByteArray), bt336.1, bt336.2))) = some (r1, r2, r3, r4, r5) := by rw [if_neg (show ¬ (false = true) by decide)] at H; exact H
     clear H
     have H := H1
     clear H1
     replace H := Option.bind_eq_some_iff.mp H
     obtain ⟨⟨t336, t337⟩, A350, H⟩ := H
     replace H : (some (false, 0, (⟨#[]⟩ : ByteArray), t336, t337)) = some (r1, r2, r3, r4, r5) := H
     have A35 := A_ A350
     clear A350
     simp only [Option.some.injEq, Prod.mk.injEq] at H
     obtain ⟨rfl, rfl, rfl, rfl, rfl⟩ := H
     go_wp2_with (first | ((with_reducible refine gate_callee (f := 41) rfl ?_); refine goesL_ (some 23) rfl rfl Try.func41 (by kernel_rfl) rfl #[.pointer (some ⟨g, 0, none⟩)] rfl (by (try simp only [List.map_toArray, List.map_cons, List.map_nil]); first | done | rfl | (simp only [List.length_drop, List.length_take]; rfl)) ?_; (with_reducible refine (vint_Source_Ok.calls g x1000_3 x1001_3 true t333 t334 w0 _ ?side1 ?side2 A23.out).mono ?_); (case side1 => repeat (first | (with_reducible first | exact HI0.out | apply IsS93.alloc | apply IsS93.drewN | apply IsS93.drew | apply IsS93.set_0 | apply IsS93.set_1 | apply IsS93.far (p := ⟨gb321, _, none⟩) (hne := NB0_321.out) | apply IsS93.far (p := ⟨gb322, _, none⟩) (hne := NB0_322.out)) | exact HI0.out)); (case side2 => repeat (first | (with_reducible first | exact HB.out | apply ba_ | apply bn_ | apply bd_ | refine bs_ ?_ (IsS93.ge HI0.out) | refine bs_ ?_ GE321.out | refine bs_ ?_ GE322.out) | exact HB.out)); rintro e w36 ⟨rfl, hi, hb, hk⟩; refine ⟨_, rfl, ?_⟩; have n0_ := A_ (KeepBut.blk hk (g' := gb321) (o := .cells #[.bool false, .int .i64 0, .string (⟨#[]⟩ : ByteArray)] 23 (0, 0)) (by (with_reducible repeat (first | refine kn_ ?_ _ | refine kd_ ?_ | refine ka_ ?_ _)); exact BK321.out) NB321_0.out (by simp)); have n1_ := A_ (KeepBut.blk hk (g' := gb322) (o := .cells #[.bool x323000_3, .int .i64 x323001_3, .string x323002_3] 23 (0, 0)) (by (with_reducible repeat (first | refine kn_ ?_ _ | refine kd_ ?_ | refine ka_ ?_ _)); exact BK322.out) NB322_0.out (by simp)); have n2_ := A_ (KeepBut.trans (by repeat (first | (with_reducible first | exact HK.out | apply KeepBut.set_ | apply keep_drewN | apply keep_drew | apply keep_alloc | refine keep_far ?_ GW321.out _ | refine keep_far ?_ GW322.out _) | exact HK.out)) hk (.inl rfl)); have n3_ := A_ (hb); have n4_ := A_ (hi); clear BK321; clear BK322; clear HK; clear HB; clear HI0; have BK321 := n0_; have BK322 := n1_; have HK := n2_; have HB := n3_; have HI0 := n4_; clear n0_ n1_ n2_ n3_ n4_; (try clear hb); (try clear hb2); (try clear hk); (try clear hi); have hnb37 := NB322_321.out; have hnc37 := NB321_322.out; have hnb38 := NB322_0.out; have hnc38 := NB0_322.out; have hcz39_0 : w36.cell? ⟨gb322, 0, none⟩ = some (.bool x323000_3) := (bc_ BK322.out 0).trans rfl; have hcz39_1 : w36.cell? ⟨gb322, 1, none⟩ = some (.int .i64 x323001_3) := (bc_ BK322.out 1).trans rfl; have hcz39_2 : w36.cell? ⟨gb322, 2, none⟩ = some (.string x323002_3) := (bc_ BK322.out 2).trans rfl; have hfz39_0 := bf_ BK322.out 0; have hfz39_1 := bf_ BK322.out 1; have hfz39_2 := bf_ BK322.out 2) | (go_at_call 73; (with_reducible refine (cell_May.calls a1 true x323000_3 x323001_3 x323002_3 false _ A25.out).mono ?_); rintro e w40 ⟨rfl, hb⟩; have n0_ := A_ (blk_below (g := gb321) (o := .cells #[.bool false, .int .i64 0, .string (⟨#[]⟩ : ByteArray)] 23 (0, 0)) (by (with_reducible repeat (first | refine kn_ ?_ _ | refine kd_ ?_ | refine ka_ ?_ _)); exact BK321.out) hb); have n1_ := A_ (blk_below (g := gb322) (o := .cells #[.bool x323000_3, .int .i64 x323001_3, .string x323002_3] 23 (0, 0)) (by (with_reducible repeat (first | refine kn_ ?_ _ | refine kd_ ?_ | refine ka_ ?_ _)); exact BK322.out) hb); have n2_ := A_ (IsS93.below (by repeat (first | (with_reducible first | exact HI0.out | apply IsS93.alloc | apply IsS93.drewN | apply IsS93.drew | apply IsS93.set_0 | apply IsS93.set_1 | apply IsS93.far (p := ⟨gb321, _, none⟩) (hne := NB0_321.out) | apply IsS93.far (p := ⟨gb322, _, none⟩) (hne := NB0_322.out)) | exact HI0.out)) hb); have n3_ := A_ (KeepBut.trans (by repeat (first | (with_reducible first | exact HK.out | apply KeepBut.set_ | apply keep_drewN | apply keep_drew | apply keep_alloc | refine keep_far ?_ GW321.out _ | refine keep_far ?_ GW322.out _) | exact HK.out)) (KeepBut.of_below hb g none) (.inl rfl)); have n4_ := A_ (bp_ (by repeat (first | (with_reducible first | exact HB.out | apply ba_ | apply bn_ | apply bd_ | refine bs_ ?_ (IsS93.ge HI0.out) | refine bs_ ?_ GE321.out | refine bs_ ?_ GE322.out) | exact HB.out)) hb); clear BK321; clear BK322; clear HI0; clear HK; clear HB; have BK321 := n0_; have BK322 := n1_; have HI0 := n2_; have HK := n3_; have HB := n4_; clear n0_ n1_ n2_ n3_ n4_; (try clear hb); (try clear hb2); (try clear hk); (try clear hi)) | ((with_reducible refine gate_callee (f := 39) rfl ?_); refine goesL_ (some 32) rfl rfl Try.func39 (by kernel_rfl) rfl #[.pointer (some ⟨g, 0, none⟩)] rfl (by (try simp only [List.map_toArray, List.map_cons, List.map_nil]); first | done | rfl | (simp only [List.length_drop, List.length_take]; rfl)) ?_; (with_reducible refine (vint_Source_Fail.calls g t333 t334 t336 t337 w0 _ ?side1 ?side2 A35.out).mono ?_); (case side1 => repeat (first | (with_reducible first | exact HI0.out | apply IsS93.alloc | apply IsS93.drewN | apply IsS93.drew | apply IsS93.set_0 | apply IsS93.set_1 | apply IsS93.far (p := ⟨gb321, _, none⟩) (hne := NB0_321.out) | apply IsS93.far (p := ⟨gb322, _, none⟩) (hne := NB0_322.out)) | exact HI0.out)); (case side2 => repeat (first | (with_reducible first | exact HB.out | apply ba_ | apply bn_ | apply bd_ | refine bs_ ?_ (IsS93.ge HI0.out) | refine bs_ ?_ GE321.out | refine bs_ ?_ GE322.out) | exact HB.out)); rintro e w41 ⟨rfl, hi, hb, hk⟩; refine ⟨_, rfl, ?_⟩; have n0_ := A_ (KeepBut.blk hk (g' := gb321) (o := .cells #[.bool false, .int .i64 0, .string (⟨#[]⟩ : ByteArray)] 23 (0, 0)) (by (with_reducible repeat (first | refine kn_ ?_ _ | refine kd_ ?_ | refine ka_ ?_ _)); exact BK321.out) NB321_0.out (by simp)); have n1_ := A_ (KeepBut.blk hk (g' := gb322) (o := .cells #[.bool x323000_3, .int .i64 x323001_3, .string x323002_3] 23 (0, 0)) (by (with_reducible repeat (first | refine kn_ ?_ _ | refine kd_ ?_ | refine ka_ ?_ _)); exact BK322.out) NB322_0.out (by simp)); have n2_ := A_ (KeepBut.trans (by repeat (first | (with_reducible first | exact HK.out | apply KeepBut.set_ | apply keep_drewN | apply keep_drew | apply keep_alloc | refine keep_far ?_ GW321.out _ | refine keep_far ?_ GW322.out _) | exact HK.out)) hk (.inl rfl)); have n3_ := A_ (hb); have n4_ := A_ (hi); clear BK321; clear BK322; clear HK; clear HB; clear HI0; have BK321 := n0_; have BK322 := n1_; have HK := n2_; have HB := n3_; have HI0 := n4_; clear n0_ n1_ n2_ n3_ n4_; (try clear hb); (try clear hb2); (try clear hk); (try clear hi); have hnb42 := NB321_0.out; have hnc42 := NB0_321.out; have hcz43_0 : w41.cell? ⟨gb321, 0, none⟩ = some (.bool false) := (bc_ BK321.out 0).trans rfl; have hcz43_1 : w41.cell? ⟨gb321, 1, none⟩ = some (.int .i64 0) := (bc_ BK321.out 1).trans rfl; have hcz43_2 : w41.cell? ⟨gb321, 2, none⟩ = some (.string (⟨#[]⟩ : ByteArray)) := (bc_ BK321.out 2).trans rfl; have hfz43_0 := bf_ BK321.out 0; have hfz43_1 := bf_ BK321.out 1; have hfz43_2 := bf_ BK321.out 2))
     refine bodyPost_ret (results_cell_row rfl _ _ gb321 23 #[.bool false, .int .i64 0, .string (⟨#[]⟩ : ByteArray)] (0, 0) _ rfl (by (with_reducible repeat (first | refine kn_ ?_ _ | refine kd_ ?_ | refine ka_ ?_ _)); refine blk_put (cs := #[.bool false, .int .i64 0, .string (⟨#[]⟩ : ByteArray)]) ?_ 2 _ rfl; (with_reducible repeat (first | refine kn_ ?_ _ | refine kd_ ?_ | refine ka_ ?_ _)); refine blk_put (cs := #[.bool false, .int .i64 0, .string (⟨#[]⟩ : ByteArray)]) ?_ 1 _ rfl; (with_reducible repeat (first | refine kn_ ?_ _ | refine kd_ ?_ | refine ka_ ?_ _)); refine blk_put (cs := #[.bool false, .int .i64 0, .string (⟨#[]⟩ : ByteArray)]) ?_ 0 _ rfl; (with_reducible repeat (first | refine kn_ ?_ _ | refine kd_ ?_ | refine ka_ ?_ _)); exact BK321.out) Try.underlying23 rfl (by kernel_rfl)) rfl ?_
     exact ⟨by first | rfl | (simp [errW_none, errW_some] <;> rfl) | (simp [*, errW_none, errW_some] <;> rfl), by repeat (first | (with_reducible first | exact HI0.out | apply IsS93.alloc | apply IsS93.drewN | apply IsS93.drew | apply IsS93.set_0 | apply IsS93.set_1 | apply IsS93.far (p := ⟨gb321, _, none⟩) (hne := NB0_321.out) | apply IsS93.far (p := ⟨gb322, _, none⟩) (hne := NB0_322.out)) | exact HI0.out), by repeat (first | (with_reducible first | exact HB.out | apply ba_ | apply bn_ | apply bd_ | refine bs_ ?_ (IsS93.ge HI0.out) | refine bs_ ?_ GE321.out | refine bs_ ?_ GE322.out) | exact HB.out), by repeat (first | (with_reducible first | exact HK.out | apply KeepBut.set_ | apply keep_drewN | apply keep_drew | apply keep_alloc | refine keep_far ?_ GW321.out _ | refine keep_far ?_ GW322.out _) | exact HK.out)⟩
   ·replace c24 := Bool.eq_false_iff.mpr c24
    subst c24
    have H1 : ((vint_Source_Fail.f t333 t334).bind fun bt338 => (some (false, 0, (⟨#[]⟩ : ByteArray), bt338.1, bt338.2))) = some (r1, r2, r3, r4, r5) := by rw [if_neg (show ¬ (false = true) by decide)] at H; exact H
    clear H
    have H := H1
    clear H1
    replace H := Option.bind_eq_some_iff.mp H
    obtain ⟨⟨t338, t339⟩, A440, H⟩ := H
    replace H : (some (false, 0, (⟨#[]⟩ : ByteArray), t338, t339)) = some (r1, r2, r3, r4, r5) := H
    have A44 := A_ A440
    clear A440
    simp only [Option.some.injEq, Prod.mk.injEq] at H
    obtain ⟨rfl, rfl, rfl, rfl, rfl⟩ := H
    go_wp2_with (first | ((with_reducible refine gate_callee (f := 41) rfl ?_); refine goesL_ (some 23) rfl rfl Try.func41 (by kernel_rfl) rfl #[.pointer (some ⟨g, 0, none⟩)] rfl (by (try simp only [List.map_toArray, List.map_cons, List.map_nil]); first | done | rfl | (simp only [List.length_drop, List.length_take]; rfl)) ?_; (with_reducible refine (vint_Source_Ok.calls g x1000_3 x1001_3 false t333 t334 w0 _ ?side1 ?side2 A23.out).mono ?_); (case side1 => repeat (first | (with_reducible first | exact HI0.out | apply IsS93.alloc | apply IsS93.drewN | apply IsS93.drew | apply IsS93.set_0 | apply IsS93.set_1 | apply IsS93.far (p := ⟨gb321, _, none⟩) (hne := NB0_321.out) | apply IsS93.far (p := ⟨gb322, _, none⟩) (hne := NB0_322.out)) | exact HI0.out)); (case side2 => repeat (first | (with_reducible first | exact HB.out | apply ba_ | apply bn_ | apply bd_ | refine bs_ ?_ (IsS93.ge HI0.out) | refine bs_ ?_ GE321.out | refine bs_ ?_ GE322.out) | exact HB.out)); rintro e w45 ⟨rfl, hi, hb, hk⟩; refine ⟨_, rfl, ?_⟩; have n0_ := A_ (KeepBut.blk hk (g' := gb321) (o := .cells #[.bool false, .int .i64 0, .string (⟨#[]⟩ : ByteArray)] 23 (0, 0)) (by (with_reducible repeat (first | refine kn_ ?_ _ | refine kd_ ?_ | refine ka_ ?_ _)); exact BK321.out) NB321_0.out (by simp)); have n1_ := A_ (KeepBut.blk hk (g' := gb322) (o := .cells #[.bool x323000_3, .int .i64 x323001_3, .string x323002_3] 23 (0, 0)) (by (with_reducible repeat (first | refine kn_ ?_ _ | refine kd_ ?_ | refine ka_ ?_ _)); exact BK322.out) NB322_0.out (by simp)); have n2_ := A_ (KeepBut.trans (by repeat (first | (with_reducible first | exact HK.out | apply KeepBut.set_ | apply keep_drewN | apply keep_drew | apply keep_alloc | refine keep_far ?_ GW321.out _ | refine keep_far ?_ GW322.out _) | exact HK.out)) hk (.inl rfl)); have n3_ := A_ (hb); have n4_ := A_ (hi); clear BK321; clear BK322; clear HK; clear HB; clear HI0; have BK321 := n0_; have BK322 := n1_; have HK := n2_; have HB := n3_; have HI0 := n4_; clear n0_ n1_ n2_ n3_ n4_; (try clear hb); (try clear hb2); (try clear hk); (try clear hi)) | ((with_reducible refine gate_callee (f := 39) rfl ?_); refine goesL_ (some 32) rfl rfl Try.func39 (by kernel_rfl) rfl #[.pointer (some ⟨g, 0, none⟩)] rfl (by (try simp only [List.map_toArray, List.map_cons, List.map_nil]); first | done | rfl | (simp only [List.length_drop, List.length_take]; rfl)) ?_; (with_reducible refine (vint_Source_Fail.calls g t333 t334 t338 t339 w0 _ ?side1 ?side2 A44.out).mono ?_); (case side1 => repeat (first | (with_reducible first | exact HI0.out | apply IsS93.alloc | apply IsS93.drewN | apply IsS93.drew | apply IsS93.set_0 | apply IsS93.set_1 | apply IsS93.far (p := ⟨gb321, _, none⟩) (hne := NB0_321.out) | apply IsS93.far (p := ⟨gb322, _, none⟩) (hne := NB0_322.out)) | exact HI0.out)); (case side2 => repeat (first | (with_reducible first | exact HB.out | apply ba_ | apply bn_ | apply bd_ | refine bs_ ?_ (IsS93.ge HI0.out) | refine bs_ ?_ GE321.out | refine bs_ ?_ GE322.out) | exact HB.out)); rintro e w46 ⟨rfl, hi, hb, hk⟩; refine ⟨_, rfl, ?_⟩; have n0_ := A_ (KeepBut.blk hk (g' := gb321) (o := .cells #[.bool false, .int .i64 0, .string (⟨#[]⟩ : ByteArray)] 23 (0, 0)) (by (with_reducible repeat (first | refine kn_ ?_ _ | refine kd_ ?_ | refine ka_ ?_ _)); exact BK321.out) NB321_0.out (by simp)); have n1_ := A_ (KeepBut.blk hk (g' := gb322) (o := .cells #[.bool x323000_3, .int .i64 x323001_3, .string x323002_3] 23 (0, 0)) (by (with_reducible repeat (first | refine kn_ ?_ _ | refine kd_ ?_ | refine ka_ ?_ _)); exact BK322.out) NB322_0.out (by simp)); have n2_ := A_ (KeepBut.trans (by repeat (first | (with_reducible first | exact HK.out | apply KeepBut.set_ | apply keep_drewN | apply keep_drew | apply keep_alloc | refine keep_far ?_ GW321.out _ | refine keep_far ?_ GW322.out _) | exact HK.out)) hk (.inl rfl)); have n3_ := A_ (hb); have n4_ := A_ (hi); clear BK321; clear BK322; clear HK; clear HB; clear HI0; have BK321 := n0_; have BK322 := n1_; have HK := n2_; have HB := n3_; have HI0 := n4_; clear n0_ n1_ n2_ n3_ n4_; (try clear hb); (try clear hb2); (try clear hk); (try clear hi); have hnb47 := NB321_322.out; have hnc47 := NB322_321.out; have hnb48 := NB321_0.out; have hnc48 := NB0_321.out; have hcz49_0 : w46.cell? ⟨gb321, 0, none⟩ = some (.bool false) := (bc_ BK321.out 0).trans rfl; have hcz49_1 : w46.cell? ⟨gb321, 1, none⟩ = some (.int .i64 0) := (bc_ BK321.out 1).trans rfl; have hcz49_2 : w46.cell? ⟨gb321, 2, none⟩ = some (.string (⟨#[]⟩ : ByteArray)) := (bc_ BK321.out 2).trans rfl; have hfz49_0 := bf_ BK321.out 0; have hfz49_1 := bf_ BK321.out 1; have hfz49_2 := bf_ BK321.out 2))
    refine bodyPost_ret (results_cell_row rfl _ _ gb321 23 #[.bool false, .int .i64 0, .string (⟨#[]⟩ : ByteArray)] (0, 0) _ rfl (by (with_reducible repeat (first | refine kn_ ?_ _ | refine kd_ ?_ | refine ka_ ?_ _)); refine blk_put (cs := #[.bool false, .int .i64 0, .string (⟨#[]⟩ : ByteArray)]) ?_ 2 _ rfl; (with_reducible repeat (first | refine kn_ ?_ _ | refine kd_ ?_ | refine ka_ ?_ _)); refine blk_put (cs := #[.bool false, .int .i64 0, .string (⟨#[]⟩ : ByteArray)]) ?_ 1 _ rfl; (with_reducible repeat (first | refine kn_ ?_ _ | refine kd_ ?_ | refine ka_ ?_ _)); refine blk_put (cs := #[.bool false, .int .i64 0, .string (⟨#[]⟩ : ByteArray)]) ?_ 0 _ rfl; (with_reducible repeat (first | refine kn_ ?_ _ | refine kd_ ?_ | refine ka_ ?_ _)); exact BK321.out) Try.underlying23 rfl (by kernel_rfl)) rfl ?_
    exact ⟨by first | rfl | (simp [errW_none, errW_some] <;> rfl) | (simp [*, errW_none, errW_some] <;> rfl), by repeat (first | (with_reducible first | exact HI0.out | apply IsS93.alloc | apply IsS93.drewN | apply IsS93.drew | apply IsS93.set_0 | apply IsS93.set_1 | apply IsS93.far (p := ⟨gb321, _, none⟩) (hne := NB0_321.out) | apply IsS93.far (p := ⟨gb322, _, none⟩) (hne := NB0_322.out)) | exact HI0.out), by repeat (first | (with_reducible first | exact HB.out | apply ba_ | apply bn_ | apply bd_ | refine bs_ ?_ (IsS93.ge HI0.out) | refine bs_ ?_ GE321.out | refine bs_ ?_ GE322.out) | exact HB.out), by repeat (first | (with_reducible first | exact HK.out | apply KeepBut.set_ | apply keep_drewN | apply keep_drew | apply keep_alloc | refine keep_far ?_ GW321.out _ | refine keep_far ?_ GW322.out _) | exact HK.out)⟩

end Go.Proofs.Ytkdlfejokahohaa.X
namespace Go.Proofs.Ytkdlfejokahohaa.X
open Go.RowKit Go.Proofs.YtkdlfejokahohaaW.PrintWords Go.Proofs.YtkdlfejokahohaaW.PrintLast Go.Proofs.YtkdlfejokahohaaW.PrintMore
attribute [local go_sem] max2_int min2_int max_two min_two max_three min_three max_four min_four   -- for this text's walks alone
set_option linter.unusedVariables false
open List (setIfInBounds_toArray set_cons_zero set_cons_succ)
set_option linter.unusedSimpArgs false

mutual
def zone_Take.j0 : Nat → Int → Bool → List Int → Bool → Int → Int → Bool → Int → ByteArray → Bool → Int → ByteArray → Option (Int × Int × Bool × Int × ByteArray × Bool × Int × ByteArray × List Int × Bool)
 | 0, _, _, _, _, _, _, _, _, _, _, _, _ => none
 | k + 1, x1, x16, x1000, x1001, x348000, x348001, x348002, x348003, x348004, x348005, x348006, x348007 => if x16 = true then ((cell_Take.f k x1000 x1001 x1).bind fun bt352 => ((cell_Take.f k bt352.2.2.2.1 bt352.2.2.2.2 x1).bind fun bt357 => (zone_Take.j1 k x1 bt357.2.2.2.1 bt357.2.2.2.2 x348000 x348001 bt352.1 bt352.2.1 bt352.2.2.1 bt357.1 bt357.2.1 bt357.2.2.1))) else (zone_Take.j1 k x1 x1000 x1001 x348000 x348001 x348002 x348003 x348004 x348005 x348006 x348007)
def zone_Take.j1 : Nat → Int → List Int → Bool → Int → Int → Bool → Int → ByteArray → Bool → Int → ByteArray → Option (Int × Int × Bool × Int × ByteArray × Bool × Int × ByteArray × List Int × Bool)
 | 0, _, _, _, _, _, _, _, _, _, _, _ => none
 | k + 1, x1, x1000, x1001, x348000, x348001, x348002, x348003, x348004, x348005, x348006, x348007 => (vint_Source_Ok.f x1000 x1001).bind fun bt362 => (if bt362.1 = true then ((zone_May.f k x1 x348000 x348001 x348002 x348003 x348004 x348005 x348006 x348007).bind fun t365 => (if t365 = true then (some (x348000, x348001, x348002, x348003, x348004, x348005, x348006, x348007, bt362.2.1, bt362.2.2)) else ((vint_Source_Fail.f bt362.2.1 bt362.2.2).bind fun bt366 => (some (0, 0, false, 0, (⟨#[]⟩ : ByteArray), false, 0, (⟨#[]⟩ : ByteArray), bt366.1, bt366.2))))) else ((vint_Source_Fail.f bt362.2.1 bt362.2.2).bind fun bt368 => (some (0, 0, false, 0, (⟨#[]⟩ : ByteArray), false, 0, (⟨#[]⟩ : ByteArray), bt368.1, bt368.2))))
end
def zone_Take.f (k : Nat) (s0_0 : List Int) (s0_1 : Bool) (a1 : Int) : Option (Int × Int × Bool × Int × ByteArray × Bool × Int × ByteArray × List Int × Bool) := (vint_Source_Below.f s0_0 s0_1 4097).bind fun bt341 => ((vint_Source_Below.f bt341.2.1 bt341.2.2 4097).bind fun bt344 => ((vint_Source_Ok.f bt344.2.1 bt344.2.2).bind fun bt348 => (if bt348.1 = true then ((zone_some.f bt341.1 bt344.1 false 0 (⟨#[]⟩ : ByteArray) false 0 (⟨#[]⟩ : ByteArray)).bind fun t351 => (zone_Take.j0 k a1 t351 bt348.2.1 bt348.2.2 bt341.1 bt344.1 false 0 (⟨#[]⟩ : ByteArray) false 0 (⟨#[]⟩ : ByteArray))) else (zone_Take.j0 k a1 false bt348.2.1 bt348.2.2 bt341.1 bt344.1 false 0 (⟨#[]⟩ : ByteArray) false 0 (⟨#[]⟩ : ByteArray)))))
theorem zone_Take.mono_l : ∀ k, (∀ y0 y1 y2 y3 y4 y5 y6 y7 y8 y9 y10 y11, LeO (zone_Take.j0 k y0 y1 y2 y3 y4 y5 y6 y7 y8 y9 y10 y11) (zone_Take.j0 (k + 1) y0 y1 y2 y3 y4 y5 y6 y7 y8 y9 y10 y11)) ∧ (∀ y0 y1 y2 y3 y4 y5 y6 y7 y8 y9 y10, LeO (zone_Take.j1 k y0 y1 y2 y3 y4 y5 y6 y7 y8 y9 y10) (zone_Take.j1 (k + 1) y0 y1 y2 y3 y4 y5 y6 y7 y8 y9 y10))
 | 0 => ⟨fun _ _ _ _ _ _ _ _ _ _ _ _ r h => by simp [zone_Take.j0] at h, fun _ _ _ _ _ _ _ _ _ _ _ r h => by simp [zone_Take.j1] at h⟩
 | k + 1 => by
  obtain ⟨ih0, ih1⟩ := zone_Take.mono_l k
  refine ⟨?_, ?_⟩
  ·intro y0 y1 y2 y3 y4 y5 y6 y7 y8 y9 y10 y11
   unfold zone_Take.j0
   repeat' first
   | (with_reducible exact ih0 _ _ _ _ _ _ _ _ _ _ _ _)
   | (with_reducible exact ih1 _ _ _ _ _ _ _ _ _ _ _)
   | (with_reducible exact cell_Take.mono _ _ _ _)
   | (with_reducible exact zone_May.mono _ _ _ _ _ _ _ _ _ _)
   | (with_reducible exact LeO.refl _)
   | (with_reducible exact LeO.none _)
   | (with_reducible refine LeO.ite ?_ ?_)
   | (with_reducible refine LeO.bind ?_ (fun _ => ?_))
   | exact ih0 _ _ _ _ _ _ _ _ _ _ _ _
   | exact ih1 _ _ _ _ _ _ _ _ _ _ _
   | exact cell_Take.mono _ _ _ _
   | exact zone_May.mono _ _ _ _ _ _ _ _ _ _
   | exact LeO.none _
   | refine LeO.ite ?_ ?_
   | refine LeO.bind ?_ (fun _ => ?_)
  ·intro y0 y1 y2 y3 y4 y5 y6 y7 y8 y9 y10
   unfold zone_Take.j1
   repeat' first
   | (with_reducible exact ih0 _ _ _ _ _ _ _ _ _ _ _ _)
   | (with_reducible exact ih1 _ _ _ _ _ _ _ _ _ _ _)
   | (with_reducible exact cell_Take.mono _ _ _ _)
   | (with_reducible exact zone_May.mono _ _ _ _ _ _ _ _ _ _)
   | (with_reducible exact LeO.refl _)
   | (with_reducible exact LeO.none _)
   | (with_reducible refine LeO.ite ?_ ?_)
   | (with_reducible refine LeO.bind ?_ (fun _ => ?_))
   | exact ih0 _ _ _ _ _ _ _ _ _ _ _ _
   | exact ih1 _ _ _ _ _ _ _ _ _ _ _
   | exact cell_Take.mono _ _ _ _
   | exact zone_May.mono _ _ _ _ _ _ _ _ _ _
   | exact LeO.none _
   | refine LeO.ite ?_ ?_
   | refine LeO.bind ?_ (fun _ => ?_)
theorem zone_Take.mono : ∀ a0 a1 a2 k, LeO (zone_Take.f k a0 a1 a2) (zone_Take.f (k + 1) a0 a1 a2) := by
 intro a0 a1 a2 k
 obtain ⟨ih0, ih1⟩ := zone_Take.mono_l k
 unfold zone_Take.f
 repeat' first
   | (with_reducible exact ih0 _ _ _ _ _ _ _ _ _ _ _ _)
   | (with_reducible exact ih1 _ _ _ _ _ _ _ _ _ _ _)
   | (with_reducible exact cell_Take.mono _ _ _ _)
   | (with_reducible exact zone_May.mono _ _ _ _ _ _ _ _ _ _)
   | (with_reducible exact LeO.refl _)
   | (with_reducible exact LeO.none _)
   | (with_reducible refine LeO.ite ?_ ?_)
   | (with_reducible refine LeO.bind ?_ (fun _ => ?_))
   | exact ih0 _ _ _ _ _ _ _ _ _ _ _ _
   | exact ih1 _ _ _ _ _ _ _ _ _ _ _
   | exact cell_Take.mono _ _ _ _
   | exact zone_May.mono _ _ _ _ _ _ _ _ _ _
   | exact LeO.none _
   | refine LeO.ite ?_ ?_
   | refine LeO.bind ?_ (fun _ => ?_)
theorem zone_Take.calls (k : Nat) (g : Nat) (s0_0 : List Int) (s0_1 : Bool) (a1 : Int) (r1 : Int) (r2 : Int) (r3 : Bool) (r4 : Int) (r5 : ByteArray) (r6 : Bool) (r7 : Int) (r8 : ByteArray) (r9 : List Int) (r10 : Bool) (w0 w : World) (hI : IsS93 w0 w g s0_0 s0_1) (hB : Below w0.heap.size w0 w) (h : zone_Take.f k s0_0 s0_1 a1 = some (r1, r2, r3, r4, r5, r6, r7, r8, r9, r10)) :
  Calls Try.prog 70 #[.pointer (some ⟨g, 0, none⟩), .int .i64 a1] w fun e w' => e = .returned (.agg #[.int .i64 r1, .int .i64 r2, .bool r3, .int .i64 r4, .string r5, .bool r6, .int .i64 r7, .string r8]) ∧ IsS93 w0 w' g r9 r10 ∧ Below w0.heap.size w0 w' ∧ KeepBut w w' g none := by
 have hu25 := Try.underlying25
 have hu23 := Try.underlying23
 have HI0 := A_ hI
 have HK := A_ (KeepBut.refl w g none)
 have HL := A_ hB.size
 clear hI
 have HW0 := A_ hB.size
 have HB := A_ hB
 clear hB
 have H : ((vint_Source_Below.f s0_0 s0_1 4097).bind fun bt341 => ((vint_Source_Below.f bt341.2.1 bt341.2.2 4097).bind fun bt344 => ((vint_Source_Ok.f bt344.2.1 bt344.2.2).bind fun bt348 => (if bt348.1 = true then ((zone_some.f bt341.1 bt344.1 false 0 (⟨#[]⟩ : ByteArray) false 0 (⟨#[]⟩ : ByteArray)).bind fun t351 => (zone_Take.j0 k a1 t351 bt348.2.1 bt348.2.2 bt341.1 bt344.1 false 0 (⟨#[]⟩ : ByteArray) false 0 (⟨#[]⟩ : ByteArray))) else (zone_Take.j0 k a1 false bt348.2.1 bt348.2.2 bt341.1 bt344.1 false 0 (⟨#[]⟩ : ByteArray) false 0 (⟨#[]⟩ : ByteArray)))))) = some (r1, r2, r3, r4, r5, r6, r7, r8, r9, r10) := h
 clear h
 replace H := Option.bind_eq_some_iff.mp H
 obtain ⟨⟨t341, t342, t343⟩, A30, H⟩ := H
 replace H : ((vint_Source_Below.f t342 t343 4097).bind fun bt344 => ((vint_Source_Ok.f bt344.2.1 bt344.2.2).bind fun bt348 => (if bt348.1 = true then ((zone_some.f t341 bt344.1 false 0 (⟨#[]⟩ : ByteArray) false 0 (⟨#[]⟩ : ByteArray)).bind fun t351 => (zone_Take.j0 k a1 t351 bt348.2.1 bt348.2.2 t341 bt344.1 false 0 (⟨#[]⟩ : ByteArray) false 0 (⟨#[]⟩ : ByteArray))) else (zone_Take.j0 k a1 false bt348.2.1 bt348.2.2 t341 bt344.1 false 0 (⟨#[]⟩ : ByteArray) false 0 (⟨#[]⟩ : ByteArray))))) = some (r1, r2, r3, r4, r5, r6, r7, r8, r9, r10) := H
 have A3 := A_ A30
 clear A30
 replace H := Option.bind_eq_some_iff.mp H
 obtain ⟨⟨t344, t345, t346⟩, A40, H⟩ := H
 replace H : ((vint_Source_Ok.f t345 t346).bind fun bt348 => (if bt348.1 = true then ((zone_some.f t341 t344 false 0 (⟨#[]⟩ : ByteArray) false 0 (⟨#[]⟩ : ByteArray)).bind fun t351 => (zone_Take.j0 k a1 t351 bt348.2.1 bt348.2.2 t341 t344 false 0 (⟨#[]⟩ : ByteArray) false 0 (⟨#[]⟩ : ByteArray))) else (zone_Take.j0 k a1 false bt348.2.1 bt348.2.2 t341 t344 false 0 (⟨#[]⟩ : ByteArray) false 0 (⟨#[]⟩ : ByteArray)))) = some (r1, r2, r3, r4, r5, r6, r7, r8, r9, r10) := H
 have A4 := A_ A40
 clear A40
 have HC5 := A_ H
 clear H
 go_enter Try.func70, Try.ntmps70
 go_upto_region 2 with (first | ((with_reducible refine gate_dst (N := 4) rfl ?_); refine box_event ?hg (N := 4) ?hd (cs := #[.int .i64 0, .int .i64 0, .bool false, .int .i64 0, .string (⟨#[]⟩ : ByteArray), .bool false, .int .i64 0, .string (⟨#[]⟩ : ByteArray)]) (t := 25) ?hr ?_; (case hd => rfl); (case hg => rfl); (case hr => first | (go_simp; done) | (go_simp; rfl)); intro gb340 hg w6 hbox hb; have n0_ := A_ (IsS93.below (by repeat (first | (with_reducible first | exact HI0.out | apply IsS93.alloc | apply IsS93.drewN | apply IsS93.drew | apply IsS93.set_0 | apply IsS93.set_1) | exact HI0.out)) hb); have n1_ := A_ (KeepBut.trans (by repeat (first | (with_reducible first | exact HK.out | apply KeepBut.set_ | apply keep_drewN | apply keep_drew | apply keep_alloc) | exact HK.out)) (KeepBut.of_below hb g none) (.inl rfl)); have n2_ := A_ (bp_ (by repeat (first | (with_reducible first | exact HB.out | apply ba_ | apply bn_ | apply bd_ | refine bs_ ?_ (IsS93.ge HI0.out)) | exact HB.out)) hb); have n3_ := A_ (hbox); have n4_ := A_ ((by rw [hg]; exact (keep_size (w := w) (g := g) (row := none) (by repeat (first | (with_reducible first | exact HK.out | apply KeepBut.set_ | apply keep_drewN | apply keep_drew | apply keep_alloc) | exact HK.out))) : w.heap.size ≤ gb340)); have n5_ := A_ ((Nat.le_trans HW0.out (by rw [hg]; exact (keep_size (w := w) (g := g) (row := none) (by repeat (first | (with_reducible first | exact HK.out | apply KeepBut.set_ | apply keep_drewN | apply keep_drew | apply keep_alloc) | exact HK.out))) : w.heap.size ≤ gb340) : w0.heap.size ≤ gb340)); have n6_ := A_ ((by rw [hg]; exact Nat.ne_of_lt (IsS93.lt (show IsS93 w0 _ g s0_0 s0_1 from by repeat (first | (with_reducible first | exact HI0.out | apply IsS93.alloc | apply IsS93.drewN | apply IsS93.drew | apply IsS93.set_0 | apply IsS93.set_1) | exact HI0.out))) : g ≠ gb340)); have n7_ := A_ ((by rw [hg]; exact Nat.ne_of_gt (IsS93.lt (show IsS93 w0 _ g s0_0 s0_1 from by repeat (first | (with_reducible first | exact HI0.out | apply IsS93.alloc | apply IsS93.drewN | apply IsS93.drew | apply IsS93.set_0 | apply IsS93.set_1) | exact HI0.out))) : gb340 ≠ g)); clear HI0; clear HK; clear HB; have HI0 := n0_; have HK := n1_; have HB := n2_; have BK340 := n3_; have GW340 := n4_; have GE340 := n5_; have NB0_340 := n6_; have NB340_0 := n7_; clear n0_ n1_ n2_ n3_ n4_ n5_ n6_ n7_; clear hb hbox hg) | ((with_reducible refine gate_callee (f := 33) rfl ?_); refine goesL_ (some 7) rfl rfl Try.func33 (by kernel_rfl) rfl #[.pointer (some ⟨g, 0, none⟩), .int .i64 4097] rfl (by (try simp only [List.map_toArray, List.map_cons, List.map_nil]); first | done | rfl | (simp only [List.length_drop, List.length_take]; rfl)) ?_; (with_reducible refine (vint_Source_Below.calls g s0_0 s0_1 4097 t341 t342 t343 w0 _ ?side1 ?side2 A3.out).mono ?_); (case side1 => repeat (first | (with_reducible first | exact HI0.out | apply IsS93.alloc | apply IsS93.drewN | apply IsS93.drew | apply IsS93.set_0 | apply IsS93.set_1 | apply IsS93.far (p := ⟨gb340, _, none⟩) (hne := NB0_340.out)) | exact HI0.out)); (case side2 => repeat (first | (with_reducible first | exact HB.out | apply ba_ | apply bn_ | apply bd_ | refine bs_ ?_ (IsS93.ge HI0.out) | refine bs_ ?_ GE340.out) | exact HB.out)); rintro e w7 ⟨rfl, hi, hb, hk⟩; refine ⟨_, rfl, ?_⟩; have n0_ := A_ (KeepBut.blk hk (g' := gb340) (o := .cells #[.int .i64 0, .int .i64 0, .bool false, .int .i64 0, .string (⟨#[]⟩ : ByteArray), .bool false, .int .i64 0, .string (⟨#[]⟩ : ByteArray)] 25 (0, 0)) (by (with_reducible repeat (first | refine kn_ ?_ _ | refine kd_ ?_ | refine ka_ ?_ _)); exact BK340.out) NB340_0.out (by simp)); have n1_ := A_ (KeepBut.trans (by repeat (first | (with_reducible first | exact HK.out | apply KeepBut.set_ | apply keep_drewN | apply keep_drew | apply keep_alloc | refine keep_far ?_ GW340.out _) | exact HK.out)) hk (.inl rfl)); have n2_ := A_ (hb); have n3_ := A_ (hi); clear BK340; clear HK; clear HB; clear HI0; have BK340 := n0_; have HK := n1_; have HB := n2_; have HI0 := n3_; clear n0_ n1_ n2_ n3_; (try clear hb); (try clear hb2); (try clear hk); (try clear hi)) | ((with_reducible refine gate_callee (f := 33) rfl ?_); refine goesL_ (some 9) rfl rfl Try.func33 (by kernel_rfl) rfl #[.pointer (some ⟨g, 0, none⟩), .int .i64 4097] rfl (by (try simp only [List.map_toArray, List.map_cons, List.map_nil]); first | done | rfl | (simp only [List.length_drop, List.length_take]; rfl)) ?_; (with_reducible refine (vint_Source_Below.calls g t342 t343 4097 t344 t345 t346 w0 _ ?side1 ?side2 A4.out).mono ?_); (case side1 => repeat (first | (with_reducible first | exact HI0.out | apply IsS93.alloc | apply IsS93.drewN | apply IsS93.drew | apply IsS93.set_0 | apply IsS93.set_1 | apply IsS93.far (p := ⟨gb340, _, none⟩) (hne := NB0_340.out)) | exact HI0.out)); (case side2 => repeat (first | (with_reducible first | exact HB.out | apply ba_ | apply bn_ | apply bd_ | refine bs_ ?_ (IsS93.ge HI0.out) | refine bs_ ?_ GE340.out) | exact HB.out)); rintro e w8 ⟨rfl, hi, hb, hk⟩; refine ⟨_, rfl, ?_⟩; have n0_ := A_ (KeepBut.blk hk (g' := gb340) (o := .cells #[.int .i64 0, .int .i64 0, .bool false, .int .i64 0, .string (⟨#[]⟩ : ByteArray), .bool false, .int .i64 0, .string (⟨#[]⟩ : ByteArray)] 25 (0, 0)) (by (with_reducible repeat (first | refine kn_ ?_ _ | refine kd_ ?_ | refine ka_ ?_ _)); exact BK340.out) NB340_0.out (by simp)); have n1_ := A_ (KeepBut.trans (by repeat (first | (with_reducible first | exact HK.out | apply KeepBut.set_ | apply keep_drewN | apply keep_drew | apply keep_alloc | refine keep_far ?_ GW340.out _) | exact HK.out)) hk (.inl rfl)); have n2_ := A_ (hb); have n3_ := A_ (hi); clear BK340; clear HK; clear HB; clear HI0; have BK340 := n0_; have HK := n1_; have HB := n2_; have HI0 := n3_; clear n0_ n1_ n2_ n3_; (try clear hb); (try clear hb2); (try clear hk); (try clear hi)) | ((with_reducible refine gate_dst (N := 5) rfl ?_); refine box_event ?hg (N := 5) ?hd (cs := #[.int .i64 0, .int .i64 0, .bool false, .int .i64 0, .string (⟨#[]⟩ : ByteArray), .bool false, .int .i64 0, .string (⟨#[]⟩ : ByteArray)]) (t := 25) ?hr ?_; (case hd => rfl); (case hg => rfl); (case hr => first | (go_simp; done) | (go_simp; rfl)); intro gb347 hg w9 hbox hb; have n0_ := A_ (IsS93.below (by repeat (first | (with_reducible first | exact HI0.out | apply IsS93.alloc | apply IsS93.drewN | apply IsS93.drew | apply IsS93.set_0 | apply IsS93.set_1 | apply IsS93.far (p := ⟨gb340, _, none⟩) (hne := NB0_340.out)) | exact HI0.out)) hb); have n1_ := A_ (blk_below (g := gb340) (o := .cells #[.int .i64 0, .int .i64 0, .bool false, .int .i64 0, .string (⟨#[]⟩ : ByteArray), .bool false, .int .i64 0, .string (⟨#[]⟩ : ByteArray)] 25 (0, 0)) (by (with_reducible repeat (first | refine kn_ ?_ _ | refine kd_ ?_ | refine ka_ ?_ _)); exact BK340.out) hb); have n2_ := A_ (KeepBut.trans (by repeat (first | (with_reducible first | exact HK.out | apply KeepBut.set_ | apply keep_drewN | apply keep_drew | apply keep_alloc | refine keep_far ?_ GW340.out _) | exact HK.out)) (KeepBut.of_below hb g none) (.inl rfl)); have n3_ := A_ (bp_ (by repeat (first | (with_reducible first | exact HB.out | apply ba_ | apply bn_ | apply bd_ | refine bs_ ?_ (IsS93.ge HI0.out) | refine bs_ ?_ GE340.out) | exact HB.out)) hb); have n4_ := A_ (hbox); have n5_ := A_ ((by rw [hg]; exact (keep_size (w := w) (g := g) (row := none) (by repeat (first | (with_reducible first | exact HK.out | apply KeepBut.set_ | apply keep_drewN | apply keep_drew | apply keep_alloc | refine keep_far ?_ GW340.out _) | exact HK.out))) : w.heap.size ≤ gb347)); have n6_ := A_ ((Nat.le_trans HW0.out (by rw [hg]; exact (keep_size (w := w) (g := g) (row := none) (by repeat (first | (with_reducible first | exact HK.out | apply KeepBut.set_ | apply keep_drewN | apply keep_drew | apply keep_alloc | refine keep_far ?_ GW340.out _) | exact HK.out))) : w.heap.size ≤ gb347) : w0.heap.size ≤ gb347)); have n7_ := A_ ((by rw [hg]; exact Nat.ne_of_lt (blk_lt (g := gb340) (o := .cells #[.int .i64 0, .int .i64 0, .bool false, .int .i64 0, .string (⟨#[]⟩ : ByteArray), .bool false, .int .i64 0, .string (⟨#[]⟩ : ByteArray)] 25 (0, 0)) (by (with_reducible repeat (first | refine kn_ ?_ _ | refine kd_ ?_ | refine ka_ ?_ _)); exact BK340.out)) : gb340 ≠ gb347)); have n8_ := A_ ((by rw [hg]; exact Nat.ne_of_gt (blk_lt (g := gb340) (o := .cells #[.int .i64 0, .int .i64 0, .bool false, .int .i64 0, .string (⟨#[]⟩ : ByteArray), .bool false, .int .i64 0, .string (⟨#[]⟩ : ByteArray)] 25 (0, 0)) (by (with_reducible repeat (first | refine kn_ ?_ _ | refine kd_ ?_ | refine ka_ ?_ _)); exact BK340.out)) : gb347 ≠ gb340)); have n9_ := A_ ((by rw [hg]; exact Nat.ne_of_lt (IsS93.lt (show IsS93 w0 _ g t345 t346 from by repeat (first | (with_reducible first | exact HI0.out | apply IsS93.alloc | apply IsS93.drewN | apply IsS93.drew | apply IsS93.set_0 | apply IsS93.set_1 | apply IsS93.far (p := ⟨gb340, _, none⟩) (hne := NB0_340.out)) | exact HI0.out))) : g ≠ gb347)); have n10_ := A_ ((by rw [hg]; exact Nat.ne_of_gt (IsS93.lt (show IsS93 w0 _ g t345 t346 from by repeat (first | (with_reducible first | exact HI0.out | apply IsS93.alloc | apply IsS93.drewN | apply IsS93.drew | apply IsS93.set_0 | apply IsS93.set_1 | apply IsS93.far (p := ⟨gb340, _, none⟩) (hne := NB0_340.out)) | exact HI0.out))) : gb347 ≠ g)); clear HI0; clear BK340; clear HK; clear HB; have HI0 := n0_; have BK340 := n1_; have HK := n2_; have HB := n3_; have BK347 := n4_; have GW347 := n5_; have GE347 := n6_; have NB340_347 := n7_; have NB347_340 := n8_; have NB0_347 := n9_; have NB347_0 := n10_; clear n0_ n1_ n2_ n3_ n4_ n5_ n6_ n7_ n8_ n9_ n10_; clear hb hbox hg; have hnb10 := NB347_340.out; have hnc10 := NB340_347.out; have hnb11 := NB347_0.out; have hnc11 := NB0_347.out; have hcz12_0 : w9.cell? ⟨gb347, 0, none⟩ = some (.int .i64 0) := (bc_ BK347.out 0).trans rfl; have hcz12_1 : w9.cell? ⟨gb347, 1, none⟩ = some (.int .i64 0) := (bc_ BK347.out 1).trans rfl; have hcz12_2 : w9.cell? ⟨gb347, 2, none⟩ = some (.bool false) := (bc_ BK347.out 2).trans rfl; have hcz12_3 : w9.cell? ⟨gb347, 3, none⟩ = some (.int .i64 0) := (bc_ BK347.out 3).trans rfl; have hcz12_4 : w9.cell? ⟨gb347, 4, none⟩ = some (.string (⟨#[]⟩ : ByteArray)) := (bc_ BK347.out 4).trans rfl; have hcz12_5 : w9.cell? ⟨gb347, 5, none⟩ = some (.bool false) := (bc_ BK347.out 5).trans rfl; have hcz12_6 : w9.cell? ⟨gb347, 6, none⟩ = some (.int .i64 0) := (bc_ BK347.out 6).trans rfl; have hcz12_7 : w9.cell? ⟨gb347, 7, none⟩ = some (.string (⟨#[]⟩ : ByteArray)) := (bc_ BK347.out 7).trans rfl; have hfz12_0 := bf_ BK347.out 0; have hfz12_1 := bf_ BK347.out 1; have hfz12_2 := bf_ BK347.out 2; have hfz12_3 := bf_ BK347.out 3; have hfz12_4 := bf_ BK347.out 4; have hfz12_5 := bf_ BK347.out 5; have hfz12_6 := bf_ BK347.out 6; have hfz12_7 := bf_ BK347.out 7))
 (try simp only [Act.put, setIfInBounds_toArray, set_cons_zero, set_cons_succ])
 go_cut [16] (fun v16 wc => ∃ (kq : Nat) (x16_4 : Bool) (x1000_4 : List Int) (x1001_4 : Bool) (u1000 : Value), v16 = .bool x16_4 ∧ Aside0 (zone_Take.j0 kq a1 x16_4 x1000_4 x1001_4 t341 t344 false 0 (⟨#[]⟩ : ByteArray) false 0 (⟨#[]⟩ : ByteArray) = some (r1, r2, r3, r4, r5, r6, r7, r8, r9, r10)) ∧ Aside0 (kq ≤ k) ∧ Aside0 (wc.heap[gb340]? = some (.cells #[.int .i64 0, .int .i64 0, .bool false, .int .i64 0, .string (⟨#[]⟩ : ByteArray), .bool false, .int .i64 0, .string (⟨#[]⟩ : ByteArray)] 25 (0, 0))) ∧ Aside0 (wc.heap[gb347]? = some (.cells #[.int .i64 t341, .int .i64 t344, .bool false, .int .i64 0, .string (⟨#[]⟩ : ByteArray), .bool false, .int .i64 0, .string (⟨#[]⟩ : ByteArray)] 25 (0, 0))) ∧ Aside0 (IsS93 w0 wc g x1000_4 x1001_4) ∧ Aside0 (KeepBut w wc g none) ∧ Aside0 (Below w0.heap.size w0 wc))
 case first =>
  have H := HC5.out
  clear HC5
  replace H := Option.bind_eq_some_iff.mp H
  obtain ⟨⟨t348, t349, t350⟩, A130, H⟩ := H
  replace H : (if t348 = true then ((zone_some.f t341 t344 false 0 (⟨#[]⟩ : ByteArray) false 0 (⟨#[]⟩ : ByteArray)).bind fun t351 => (zone_Take.j0 k a1 t351 t349 t350 t341 t344 false 0 (⟨#[]⟩ : ByteArray) false 0 (⟨#[]⟩ : ByteArray))) else (zone_Take.j0 k a1 false t349 t350 t341 t344 false 0 (⟨#[]⟩ : ByteArray) false 0 (⟨#[]⟩ : ByteArray))) = some (r1, r2, r3, r4, r5, r6, r7, r8, r9, r10) := H
  have A13 := A_ A130
  clear A130
  by_cases c14 : t348 = true
  ·subst c14
   have H1 : ((zone_some.f t341 t344 false 0 (⟨#[]⟩ : ByteArray) false 0 (⟨#[]⟩ : ByteArray)).bind fun t351 => (zone_Take.j0 k a1 t351 t349 t350 t341 t344 false 0 (⟨#[]⟩ : ByteArray) false 0 (⟨#[]⟩ : ByteArray))) = some (r1, r2, r3, r4, r5, r6, r7, r8, r9, r10) := by rw [if_pos rfl] at H; exact H
   clear H
   have H := H1
   clear H1
   replace H := Option.bind_eq_some_iff.mp H
   obtain ⟨t351, A150, H⟩ := H
   replace H : (zone_Take.j0 k a1 t351 t349 t350 t341 t344 false 0 (⟨#[]⟩ : ByteArray) false 0 (⟨#[]⟩ : ByteArray)) = some (r1, r2, r3, r4, r5, r6, r7, r8, r9, r10) := H
   have A15 := A_ A150
   clear A150
   have H' := A_ H
   clear H
   go_wp2_with (first | ((with_reducible refine gate_callee (f := 41) rfl ?_); refine goesL_ (some 12) rfl rfl Try.func41 (by kernel_rfl) rfl #[.pointer (some ⟨g, 0, none⟩)] rfl (by (try simp only [List.map_toArray, List.map_cons, List.map_nil]); first | done | rfl | (simp only [List.length_drop, List.length_take]; rfl)) ?_; (with_reducible refine (vint_Source_Ok.calls g t345 t346 true t349 t350 w0 _ ?side1 ?side2 A13.out).mono ?_); (case side1 => repeat (first | (with_reducible first | exact HI0.out | apply IsS93.alloc | apply IsS93.drewN | apply IsS93.drew | apply IsS93.set_0 | apply IsS93.set_1 | apply IsS93.far (p := ⟨gb340, _, none⟩) (hne := NB0_340.out) | apply IsS93.far (p := ⟨gb347, _, none⟩) (hne := NB0_347.out)) | exact HI0.out)); (case side2 => repeat (first | (with_reducible first | exact HB.out | apply ba_ | apply bn_ | apply bd_ | refine bs_ ?_ (IsS93.ge HI0.out) | refine bs_ ?_ GE340.out | refine bs_ ?_ GE347.out) | exact HB.out)); rintro e w16 ⟨rfl, hi, hb, hk⟩; refine ⟨_, rfl, ?_⟩; have n0_ := A_ (KeepBut.blk hk (g' := gb340) (o := .cells #[.int .i64 0, .int .i64 0, .bool false, .int .i64 0, .string (⟨#[]⟩ : ByteArray), .bool false, .int .i64 0, .string (⟨#[]⟩ : ByteArray)] 25 (0, 0)) (by (with_reducible repeat (first | refine kn_ ?_ _ | refine kd_ ?_ | refine ka_ ?_ _)); refine blk_far ?_ NB340_347.out _; (with_reducible repeat (first | refine kn_ ?_ _ | refine kd_ ?_ | refine ka_ ?_ _)); refine blk_far ?_ NB340_347.out _; (with_reducible repeat (first | refine kn_ ?_ _ | refine kd_ ?_ | refine ka_ ?_ _)); refine blk_far ?_ NB340_347.out _; (with_reducible repeat (first | refine kn_ ?_ _ | refine kd_ ?_ | refine ka_ ?_ _)); refine blk_far ?_ NB340_347.out _; (with_reducible repeat (first | refine kn_ ?_ _ | refine kd_ ?_ | refine ka_ ?_ _)); refine blk_far ?_ NB340_347.out _; (with_reducible repeat (first | refine kn_ ?_ _ | refine kd_ ?_ | refine ka_ ?_ _)); refine blk_far ?_ NB340_347.out _; (with_reducible repeat (first | refine kn_ ?_ _ | refine kd_ ?_ | refine ka_ ?_ _)); refine blk_far ?_ NB340_347.out _; (with_reducible repeat (first | refine kn_ ?_ _ | refine kd_ ?_ | refine ka_ ?_ _)); refine blk_far ?_ NB340_347.out _; (with_reducible repeat (first | refine kn_ ?_ _ | refine kd_ ?_ | refine ka_ ?_ _)); exact BK340.out) NB340_0.out (by simp)); have n1_ := A_ (KeepBut.blk hk (g' := gb347) (o := .cells #[.int .i64 t341, .int .i64 t344, .bool false, .int .i64 0, .string (⟨#[]⟩ : ByteArray), .bool false, .int .i64 0, .string (⟨#[]⟩ : ByteArray)] 25 (0, 0)) (by (with_reducible repeat (first | refine kn_ ?_ _ | refine kd_ ?_ | refine ka_ ?_ _)); refine blk_put (cs := #[.int .i64 t341, .int .i64 t344, .bool false, .int .i64 0, .string (⟨#[]⟩ : ByteArray), .bool false, .int .i64 0, .string (⟨#[]⟩ : ByteArray)]) ?_ 7 _ rfl; (with_reducible repeat (first | refine kn_ ?_ _ | refine kd_ ?_ | refine ka_ ?_ _)); refine blk_put (cs := #[.int .i64 t341, .int .i64 t344, .bool false, .int .i64 0, .string (⟨#[]⟩ : ByteArray), .bool false, .int .i64 0, .string (⟨#[]⟩ : ByteArray)]) ?_ 6 _ rfl; (with_reducible repeat (first | refine kn_ ?_ _ | refine kd_ ?_ | refine ka_ ?_ _)); refine blk_put (cs := #[.int .i64 t341, .int .i64 t344, .bool false, .int .i64 0, .string (⟨#[]⟩ : ByteArray), .bool false, .int .i64 0, .string (⟨#[]⟩ : ByteArray)]) ?_ 5 _ rfl; (with_reducible repeat (first | refine kn_ ?_ _ | refine kd_ ?_ | refine ka_ ?_ _)); refine blk_put (cs := #[.int .i64 t341, .int .i64 t344, .bool false, .int .i64 0, .string (⟨#[]⟩ : ByteArray), .bool false, .int .i64 0, .string (⟨#[]⟩ : ByteArray)]) ?_ 4 _ rfl; (with_reducible repeat (first | refine kn_ ?_ _ | refine kd_ ?_ | refine ka_ ?_ _)); refine blk_put (cs := #[.int .i64 t341, .int .i64 t344, .bool false, .int .i64 0, .string (⟨#[]⟩ : ByteArray), .bool false, .int .i64 0, .string (⟨#[]⟩ : ByteArray)]) ?_ 3 _ rfl; (with_reducible repeat (first | refine kn_ ?_ _ | refine kd_ ?_ | refine ka_ ?_ _)); refine blk_put (cs := #[.int .i64 t341, .int .i64 t344, .bool false, .int .i64 0, .string (⟨#[]⟩ : ByteArray), .bool false, .int .i64 0, .string (⟨#[]⟩ : ByteArray)]) ?_ 2 _ rfl; (with_reducible repeat (first | refine kn_ ?_ _ | refine kd_ ?_ | refine ka_ ?_ _)); refine blk_put (cs := #[.int .i64 t341, .int .i64 0, .bool false, .int .i64 0, .string (⟨#[]⟩ : ByteArray), .bool false, .int .i64 0, .string (⟨#[]⟩ : ByteArray)]) ?_ 1 _ rfl; (with_reducible repeat (first | refine kn_ ?_ _ | refine kd_ ?_ | refine ka_ ?_ _)); refine blk_put (cs := #[.int .i64 0, .int .i64 0, .bool false, .int .i64 0, .string (⟨#[]⟩ : ByteArray), .bool false, .int .i64 0, .string (⟨#[]⟩ : ByteArray)]) ?_ 0 _ rfl; (with_reducible repeat (first | refine kn_ ?_ _ | refine kd_ ?_ | refine ka_ ?_ _)); exact BK347.out) NB347_0.out (by simp)); have n2_ := A_ (KeepBut.trans (by repeat (first | (with_reducible first | exact HK.out | apply KeepBut.set_ | apply keep_drewN | apply keep_drew | apply keep_alloc | refine keep_far ?_ GW340.out _ | refine keep_far ?_ GW347.out _) | exact HK.out)) hk (.inl rfl)); have n3_ := A_ (hb); have n4_ := A_ (hi); clear BK340; clear BK347; clear HK; clear HB; clear HI0; have BK340 := n0_; have BK347 := n1_; have HK := n2_; have HB := n3_; have HI0 := n4_; clear n0_ n1_ n2_ n3_ n4_; (try clear hb); (try clear hb2); (try clear hk); (try clear hi); have hnb17 := NB347_340.out; have hnc17 := NB340_347.out; have hnb18 := NB347_0.out; have hnc18 := NB0_347.out; have hcz19_0 : w16.cell? ⟨gb347, 0, none⟩ = some (.int .i64 t341) := (bc_ BK347.out 0).trans rfl; have hcz19_1 : w16.cell? ⟨gb347, 1, none⟩ = some (.int .i64 t344) := (bc_ BK347.out 1).trans rfl; have hcz19_2 : w16.cell? ⟨gb347, 2, none⟩ = some (.bool false) := (bc_ BK347.out 2).trans rfl; have hcz19_3 : w16.cell? ⟨gb347, 3, none⟩ = some (.int .i64 0) := (bc_ BK347.out 3).trans rfl; have hcz19_4 : w16.cell? ⟨gb347, 4, none⟩ = some (.string (⟨#[]⟩ : ByteArray)) := (bc_ BK347.out 4).trans rfl; have hcz19_5 : w16.cell? ⟨gb347, 5, none⟩ = some (.bool false) := (bc_ BK347.out 5).trans rfl; have hcz19_6 : w16.cell? ⟨gb347, 6, none⟩ = some (.int .i64 0) := (bc_ BK347.out 6).trans rfl; have hcz19_7 : w16.cell? ⟨gb347, 7, none⟩ = some (.string (⟨#[]⟩ : ByteArray)) := (bc_ BK347.out 7).trans rfl; have hfz19_0 := bf_ BK347.out 0; have hfz19_1 := bf_ BK347.out 1; have hfz19_2 := bf_ BK347.out 2; have hfz19_3 := bf_ BK347.out 3; have hfz19_4 := bf_ BK347.out 4; have hfz19_5 := bf_ BK347.out 5; have hfz19_6 := bf_ BK347.out 6; have hfz19_7 := bf_ BK347.out 7) | (go_at_call 72; (with_reducible refine (zone_some.calls t341 t344 false 0 (⟨#[]⟩ : ByteArray) false 0 (⟨#[]⟩ : ByteArray) t351 _ A15.out).mono ?_); rintro e w20 ⟨rfl, hb⟩; have n0_ := A_ (IsS93.below (by repeat (first | (with_reducible first | exact HI0.out | apply IsS93.alloc | apply IsS93.drewN | apply IsS93.drew | apply IsS93.set_0 | apply IsS93.set_1 | apply IsS93.far (p := ⟨gb340, _, none⟩) (hne := NB0_340.out) | apply IsS93.far (p := ⟨gb347, _, none⟩) (hne := NB0_347.out)) | exact HI0.out)) hb); have n1_ := A_ (blk_below (g := gb340) (o := .cells #[.int .i64 0, .int .i64 0, .bool false, .int .i64 0, .string (⟨#[]⟩ : ByteArray), .bool false, .int .i64 0, .string (⟨#[]⟩ : ByteArray)] 25 (0, 0)) (by (with_reducible repeat (first | refine kn_ ?_ _ | refine kd_ ?_ | refine ka_ ?_ _)); exact BK340.out) hb); have n2_ := A_ (blk_below (g := gb347) (o := .cells #[.int .i64 t341, .int .i64 t344, .bool false, .int .i64 0, .string (⟨#[]⟩ : ByteArray), .bool false, .int .i64 0, .string (⟨#[]⟩ : ByteArray)] 25 (0, 0)) (by (with_reducible repeat (first | refine kn_ ?_ _ | refine kd_ ?_ | refine ka_ ?_ _)); exact BK347.out) hb); have n3_ := A_ (KeepBut.trans (by repeat (first | (with_reducible first | exact HK.out | apply KeepBut.set_ | apply keep_drewN | apply keep_drew | apply keep_alloc | refine keep_far ?_ GW340.out _ | refine keep_far ?_ GW347.out _) | exact HK.out)) (KeepBut.of_below hb g none) (.inl rfl)); have n4_ := A_ (bp_ (by repeat (first | (with_reducible first | exact HB.out | apply ba_ | apply bn_ | apply bd_ | refine bs_ ?_ (IsS93.ge HI0.out) | refine bs_ ?_ GE340.out | refine bs_ ?_ GE347.out) | exact HB.out)) hb); clear HI0; clear BK340; clear BK347; clear HK; clear HB; have HI0 := n0_; have BK340 := n1_; have BK347 := n2_; have HK := n3_; have HB := n4_; clear n0_ n1_ n2_ n3_ n4_; (try clear hb); (try clear hb2); (try clear hk); (try clear hi)))
   go_meet
   case rel => exact ⟨_, (t351), (t349), (t350), (Value.slice none 0 0), (by first | rfl | (simp; done) | (simp [*]; done)), H', ⟨by first | omega | exact Nat.le_refl _⟩, ⟨by (with_reducible repeat (first | refine kn_ ?_ _ | refine kd_ ?_ | refine ka_ ?_ _)); exact BK340.out⟩, ⟨by (with_reducible repeat (first | refine kn_ ?_ _ | refine kd_ ?_ | refine ka_ ?_ _)); exact BK347.out⟩, ⟨by repeat (first | (with_reducible first | exact HI0.out | apply IsS93.alloc | apply IsS93.drewN | apply IsS93.drew | apply IsS93.set_0 | apply IsS93.set_1 | apply IsS93.far (p := ⟨gb340, _, none⟩) (hne := NB0_340.out) | apply IsS93.far (p := ⟨gb347, _, none⟩) (hne := NB0_347.out)) | exact HI0.out)⟩, ⟨by repeat (first | (with_reducible first | exact HK.out | apply KeepBut.set_ | apply keep_drewN | apply keep_drew | apply keep_alloc | refine keep_far ?_ GW340.out _ | refine keep_far ?_ GW347.out _) | exact HK.out)⟩, ⟨by repeat (first | (with_reducible first | exact HB.out | apply ba_ | apply bn_ | apply bd_ | refine bs_ ?_ (IsS93.ge HI0.out) | refine bs_ ?_ GE340.out | refine bs_ ?_ GE347.out) | exact HB.out)⟩⟩
  ·replace c14 := Bool.eq_false_iff.mpr c14
   subst c14
   have H1 : (zone_Take.j0 k a1 false t349 t350 t341 t344 false 0 (⟨#[]⟩ : ByteArray) false 0 (⟨#[]⟩ : ByteArray)) = some (r1, r2, r3, r4, r5, r6, r7, r8, r9, r10) := by rw [if_neg (show ¬ (false = true) by decide)] at H; exact H
   clear H
   have H := H1
   clear H1
   have H' := A_ H
   clear H
   go_wp2_with (first | ((with_reducible refine gate_callee (f := 41) rfl ?_); refine goesL_ (some 12) rfl rfl Try.func41 (by kernel_rfl) rfl #[.pointer (some ⟨g, 0, none⟩)] rfl (by (try simp only [List.map_toArray, List.map_cons, List.map_nil]); first | done | rfl | (simp only [List.length_drop, List.length_take]; rfl)) ?_; (with_reducible refine (vint_Source_Ok.calls g t345 t346 false t349 t350 w0 _ ?side1 ?side2 A13.out).mono ?_); (case side1 => repeat (first | (with_reducible first | exact HI0.out | apply IsS93.alloc | apply IsS93.drewN | apply IsS93.drew | apply IsS93.set_0 | apply IsS93.set_1 | apply IsS93.far (p := ⟨gb340, _, none⟩) (hne := NB0_340.out) | apply IsS93.far (p := ⟨gb347, _, none⟩) (hne := NB0_347.out)) | exact HI0.out)); (case side2 => repeat (first | (with_reducible first | exact HB.out | apply ba_ | apply bn_ | apply bd_ | refine bs_ ?_ (IsS93.ge HI0.out) | refine bs_ ?_ GE340.out | refine bs_ ?_ GE347.out) | exact HB.out)); rintro e w21 ⟨rfl, hi, hb, hk⟩; refine ⟨_, rfl, ?_⟩; have n0_ := A_ (KeepBut.blk hk (g' := gb340) (o := .cells #[.int .i64 0, .int .i64 0, .bool false, .int .i64 0, .string (⟨#[]⟩ : ByteArray), .bool false, .int .i64 0, .string (⟨#[]⟩ : ByteArray)] 25 (0, 0)) (by (with_reducible repeat (first | refine kn_ ?_ _ | refine kd_ ?_ | refine ka_ ?_ _)); refine blk_far ?_ NB340_347.out _; (with_reducible repeat (first | refine kn_ ?_ _ | refine kd_ ?_ | refine ka_ ?_ _)); refine blk_far ?_ NB340_347.out _; (with_reducible repeat (first | refine kn_ ?_ _ | refine kd_ ?_ | refine ka_ ?_ _)); refine blk_far ?_ NB340_347.out _; (with_reducible repeat (first | refine kn_ ?_ _ | refine kd_ ?_ | refine ka_ ?_ _)); refine blk_far ?_ NB340_347.out _; (with_reducible repeat (first | refine kn_ ?_ _ | refine kd_ ?_ | refine ka_ ?_ _)); refine blk_far ?_ NB340_347.out _; (with_reducible repeat (first | refine kn_ ?_ _ | refine kd_ ?_ | refine ka_ ?_ _)); refine blk_far ?_ NB340_347.out _; (with_reducible repeat (first | refine kn_ ?_ _ | refine kd_ ?_ | refine ka_ ?_ _)); refine blk_far ?_ NB340_347.out _; (with_reducible repeat (first | refine kn_ ?_ _ | refine kd_ ?_ | refine ka_ ?_ _)); refine blk_far ?_ NB340_347.out _; (with_reducible repeat (first | refine kn_ ?_ _ | refine kd_ ?_ | refine ka_ ?_ _)); exact BK340.out) NB340_0.out (by simp)); have n1_ := A_ (KeepBut.blk hk (g' := gb347) (o := .cells #[.int .i64 t341, .int .i64 t344, .bool false, .int .i64 0, .string (⟨#[]⟩ : ByteArray), .bool false, .int .i64 0, .string (⟨#[]⟩ : ByteArray)] 25 (0, 0)) (by (with_reducible repeat (first | refine kn_ ?_ _ | refine kd_ ?_ | refine ka_ ?_ _)); refine blk_put (cs := #[.int .i64 t341, .int .i64 t344, .bool false, .int .i64 0, .string (⟨#[]⟩ : ByteArray), .bool false, .int .i64 0, .string (⟨#[]⟩ : ByteArray)]) ?_ 7 _ rfl; (with_reducible repeat (first | refine kn_ ?_ _ | refine kd_ ?_ | refine ka_ ?_ _)); refine blk_put (cs := #[.int .i64 t341, .int .i64 t344, .bool false, .int .i64 0, .string (⟨#[]⟩ : ByteArray), .bool false, .int .i64 0, .string (⟨#[]⟩ : ByteArray)]) ?_ 6 _ rfl; (with_reducible repeat (first | refine kn_ ?_ _ | refine kd_ ?_ | refine ka_ ?_ _)); refine blk_put (cs := #[.int .i64 t341, .int .i64 t344, .bool false, .int .i64 0, .string (⟨#[]⟩ : ByteArray), .bool false, .int .i64 0, .string (⟨#[]⟩ : ByteArray)]) ?_ 5 _ rfl; (with_reducible repeat (first | refine kn_ ?_ _ | refine kd_ ?_ | refine ka_ ?_ _)); refine blk_put (cs := #[.int .i64 t341, .int .i64 t344, .bool false, .int .i64 0, .string (⟨#[]⟩ : ByteArray), .bool false, .int .i64 0, .string (⟨#[]⟩ : ByteArray)]) ?_ 4 _ rfl; (with_reducible repeat (first | refine kn_ ?_ _ | refine kd_ ?_ | refine ka_ ?_ _)); refine blk_put (cs := #[.int .i64 t341, .int .i64 t344, .bool false, .int .i64 0, .string (⟨#[]⟩ : ByteArray), .bool false, .int .i64 0, .string (⟨#[]⟩ : ByteArray)]) ?_ 3 _ rfl; (with_reducible repeat (first | refine kn_ ?_ _ | refine kd_ ?_ | refine ka_ ?_ _)); refine blk_put (cs := #[.int .i64 t341, .int .i64 t344, .bool false, .int .i64 0, .string (⟨#[]⟩ : ByteArray), .bool false, .int .i64 0, .string (⟨#[]⟩ : ByteArray)]) ?_ 2 _ rfl; (with_reducible repeat (first | refine kn_ ?_ _ | refine kd_ ?_ | refine ka_ ?_ _)); refine blk_put (cs := #[.int .i64 t341, .int .i64 0, .bool false, .int .i64 0, .string (⟨#[]⟩ : ByteArray), .bool false, .int .i64 0, .string (⟨#[]⟩ : ByteArray)]) ?_ 1 _ rfl; (with_reducible repeat (first | refine kn_ ?_ _ | refine kd_ ?_ | refine ka_ ?_ _)); refine blk_put (cs := #[.int .i64 0, .int .i64 0, .bool false, .int .i64 0, .string (⟨#[]⟩ : ByteArray), .bool false, .int .i64 0, .string (⟨#[]⟩ : ByteArray)]) ?_ 0 _ rfl; (with_reducible repeat (first | refine kn_ ?_ _ | refine kd_ ?_ | refine ka_ ?_ _)); exact BK347.out) NB347_0.out (by simp)); have n2_ := A_ (KeepBut.trans (by repeat (first | (with_reducible first | exact HK.out | apply KeepBut.set_ | apply keep_drewN | apply keep_drew | apply keep_alloc | refine keep_far ?_ GW340.out _ | refine keep_far ?_ GW347.out _) | exact HK.out)) hk (.inl rfl)); have n3_ := A_ (hb); have n4_ := A_ (hi); clear BK340; clear BK347; clear HK; clear HB; clear HI0; have BK340 := n0_; have BK347 := n1_; have HK := n2_; have HB := n3_; have HI0 := n4_; clear n0_ n1_ n2_ n3_ n4_; (try clear hb); (try clear hb2); (try clear hk); (try clear hi)))
   go_meet
   case rel => exact ⟨_, (false), (t349), (t350), (Value.slice none 0 0), (by first | rfl | (simp; done) | (simp [*]; done)), H', ⟨by first | omega | exact Nat.le_refl _⟩, ⟨by (with_reducible repeat (first | refine kn_ ?_ _ | refine kd_ ?_ | refine ka_ ?_ _)); exact BK340.out⟩, ⟨by (with_reducible repeat (first | refine kn_ ?_ _ | refine kd_ ?_ | refine ka_ ?_ _)); exact BK347.out⟩, ⟨by repeat (first | (with_reducible first | exact HI0.out | apply IsS93.alloc | apply IsS93.drewN | apply IsS93.drew | apply IsS93.set_0 | apply IsS93.set_1 | apply IsS93.far (p := ⟨gb340, _, none⟩) (hne := NB0_340.out) | apply IsS93.far (p := ⟨gb347, _, none⟩) (hne := NB0_347.out)) | exact HI0.out)⟩, ⟨by repeat (first | (with_reducible first | exact HK.out | apply KeepBut.set_ | apply keep_drewN | apply keep_drew | apply keep_alloc | refine keep_far ?_ GW340.out _ | refine keep_far ?_ GW347.out _) | exact HK.out)⟩, ⟨by repeat (first | (with_reducible first | exact HB.out | apply ba_ | apply bn_ | apply bd_ | refine bs_ ?_ (IsS93.ge HI0.out) | refine bs_ ?_ GE340.out | refine bs_ ?_ GE347.out) | exact HB.out)⟩⟩
 case rest =>
  clear HC5
  try clear c1
  try clear p2
  try clear c3
  try clear c4
  try clear c7
  try clear c10
  try clear c11
  try clear c14
  try clear c17
  try clear c18
  try clear hcz12_0
  try clear hcz12_1
  try clear hcz12_2
  try clear hcz12_3
  try clear hcz12_4
  try clear hcz12_5
  try clear hcz12_6
  try clear hcz12_7
  try clear hcz19_0
  try clear hcz19_1
  try clear hcz19_2
  try clear hcz19_3
  try clear hcz19_4
  try clear hcz19_5
  try clear hcz19_6
  try clear hcz19_7
  try clear hfz12_0
  try clear hfz12_1
  try clear hfz12_2
  try clear hfz12_3
  try clear hfz12_4
  try clear hfz12_5
  try clear hfz12_6
  try clear hfz12_7
  try clear hfz19_0
  try clear hfz19_1
  try clear hfz19_2
  try clear hfz19_3
  try clear hfz19_4
  try clear hfz19_5
  try clear hfz19_6
  try clear hfz19_7
  obtain ⟨kq, x16_4, x1000_4, x1001_4, u1000, rfl, HA, HJ4, BK340, BK347, HI0, HK, HB⟩ := hcut
  cases kq with
  | zero => exact absurd HA.out (by simp [zone_Take.j0])
  | succ kj4 =>
   have H := HA.out
   clear HA
   simp only [zone_Take.j0] at H
   have HC22 := A_ H
   clear H
   go_upto_if 16 with (fail)
   go_cut [] (fun wc => ∃ (kq : Nat) (x1000_21 : List Int) (x1001_21 : Bool) (x348002_21 : Bool) (x348003_21 : Int) (x348004_21 : ByteArray) (x348005_21 : Bool) (x348006_21 : Int) (x348007_21 : ByteArray) (u1000 : Value), Aside0 (zone_Take.j1 kq a1 x1000_21 x1001_21 t341 t344 x348002_21 x348003_21 x348004_21 x348005_21 x348006_21 x348007_21 = some (r1, r2, r3, r4, r5, r6, r7, r8, r9, r10)) ∧ Aside0 (kq ≤ kj4) ∧ Aside0 (wc.heap[gb340]? = some (.cells #[.int .i64 0, .int .i64 0, .bool false, .int .i64 0, .string (⟨#[]⟩ : ByteArray), .bool false, .int .i64 0, .string (⟨#[]⟩ : ByteArray)] 25 (0, 0))) ∧ Aside0 (wc.heap[gb347]? = some (.cells #[.int .i64 t341, .int .i64 t344, .bool x348002_21, .int .i64 x348003_21, .string x348004_21, .bool x348005_21, .int .i64 x348006_21, .string x348007_21] 25 (0, 0))) ∧ Aside0 (IsS93 w0 wc g x1000_21 x1001_21) ∧ Aside0 (KeepBut w wc g none) ∧ Aside0 (Below w0.heap.size w0 wc))
   case first =>
    have H := HC22.out
    clear HC22
    by_cases c23 : x16_4 = true
    ·subst c23
     have H1 : ((cell_Take.f kj4 x1000_4 x1001_4 a1).bind fun bt352 => ((cell_Take.f kj4 bt352.2.2.2.1 bt352.2.2.2.2 a1).bind fun bt357 => (zone_Take.j1 kj4 a1 bt357.2.2.2.1 bt357.2.2.2.2 t341 t344 bt352.1 bt352.2.1 bt352.2.2.1 bt357.1 bt357.2.1 bt357.2.2.1))) = some (r1, r2, r3, r4, r5, r6, r7, r8, r9, r10) := by rw [if_pos rfl] at H; exact H
     clear H
     have H := H1
     clear H1
     replace H := Option.bind_eq_some_iff.mp H
     obtain ⟨⟨t352, t353, t354, t355, t356⟩, A240, H⟩ := H
     replace H : ((cell_Take.f kj4 t355 t356 a1).bind fun bt357 => (zone_Take.j1 kj4 a1 bt357.2.2.2.1 bt357.2.2.2.2 t341 t344 t352 t353 t354 bt357.1 bt357.2.1 bt357.2.2.1)) = some (r1, r2, r3, r4, r5, r6, r7, r8, r9, r10) := H
     have A24 := A_ A240
     clear A240
     replace H := Option.bind_eq_some_iff.mp H
     obtain ⟨⟨t357, t358, t359, t360, t361⟩, A250, H⟩ := H
     replace H : (zone_Take.j1 kj4 a1 t360 t361 t341 t344 t352 t353 t354 t357 t358 t359) = some (r1, r2, r3, r4, r5, r6, r7, r8, r9, r10) := H
     have A25 := A_ A250
     clear A250
     have H' := A_ H
     clear H
     go_wp2_with (first | ((with_reducible refine gate_callee (f := 65) rfl ?_); refine goesL_ (some 19) rfl rfl Try.func65 (by kernel_rfl) rfl #[.pointer (some ⟨g, 0, none⟩), .int .i64 a1] rfl (by (try simp only [List.map_toArray, List.map_cons, List.map_nil]); first | done | rfl | (simp only [List.length_drop, List.length_take]; rfl)) ?_; (with_reducible refine (cell_Take.calls kj4 g x1000_4 x1001_4 a1 t352 t353 t354 t355 t356 w0 _ ?side1 ?side2 A24.out).mono ?_); (case side1 => repeat (first | (with_reducible first | exact HI0.out | apply IsS93.alloc | apply IsS93.drewN | apply IsS93.drew | apply IsS93.set_0 | apply IsS93.set_1 | apply IsS93.far (p := ⟨gb340, _, none⟩) (hne := NB0_340.out) | apply IsS93.far (p := ⟨gb347, _, none⟩) (hne := NB0_347.out)) | exact HI0.out)); (case side2 => repeat (first | (with_reducible first | exact HB.out | apply ba_ | apply bn_ | apply bd_ | refine bs_ ?_ (IsS93.ge HI0.out) | refine bs_ ?_ GE340.out | refine bs_ ?_ GE347.out) | exact HB.out)); rintro e w26 ⟨rfl, hi, hb, hk⟩; refine ⟨_, rfl, ?_⟩; have n0_ := A_ (KeepBut.blk hk (g' := gb340) (o := .cells #[.int .i64 0, .int .i64 0, .bool false, .int .i64 0, .string (⟨#[]⟩ : ByteArray), .bool false, .int .i64 0, .string (⟨#[]⟩ : ByteArray)] 25 (0, 0)) (by (with_reducible repeat (first | refine kn_ ?_ _ | refine kd_ ?_ | refine ka_ ?_ _)); exact BK340.out) NB340_0.out (by simp)); have n1_ := A_ (KeepBut.blk hk (g' := gb347) (o := .cells #[.int .i64 t341, .int .i64 t344, .bool false, .int .i64 0, .string (⟨#[]⟩ : ByteArray), .bool false, .int .i64 0, .string (⟨#[]⟩ : ByteArray)] 25 (0, 0)) (by (with_reducible repeat (first | refine kn_ ?_ _ | refine kd_ ?_ | refine ka_ ?_ _)); exact BK347.out) NB347_0.out (by simp)); have n2_ := A_ (KeepBut.trans (by repeat (first | (with_reducible first | exact HK.out | apply KeepBut.set_ | apply keep_drewN | apply keep_drew | apply keep_alloc | refine keep_far ?_ GW340.out _ | refine keep_far ?_ GW347.out _) | exact HK.out)) hk (.inl rfl)); have n3_ := A_ (hb); have n4_ := A_ (hi); clear BK340; clear BK347; clear HK; clear HB; clear HI0; have BK340 := n0_; have BK347 := n1_; have HK := n2_; have HB := n3_; have HI0 := n4_; clear n0_ n1_ n2_ n3_ n4_; (try clear hb); (try clear hb2); (try clear hk); (try clear hi)) | ((with_reducible refine gate_callee (f := 65) rfl ?_); refine goesL_ (some 22) rfl rfl Try.func65 (by kernel_rfl) rfl #[.pointer (some ⟨g, 0, none⟩), .int .i64 a1] rfl (by (try simp only [List.map_toArray, List.map_cons, List.map_nil]); first | done | rfl | (simp only [List.length_drop, List.length_take]; rfl)) ?_; (with_reducible refine (cell_Take.calls kj4 g t355 t356 a1 t357 t358 t359 t360 t361 w0 _ ?side1 ?side2 A25.out).mono ?_); (case side1 => repeat (first | (with_reducible first | exact HI0.out | apply IsS93.alloc | apply IsS93.drewN | apply IsS93.drew | apply IsS93.set_0 | apply IsS93.set_1 | apply IsS93.far (p := ⟨gb340, _, none⟩) (hne := NB0_340.out) | apply IsS93.far (p := ⟨gb347, _, none⟩) (hne := NB0_347.out)) | exact HI0.out)); (case side2 => repeat (first | (with_reducible first | exact HB.out | apply ba_ | apply bn_ | apply bd_ | refine bs_ ?_ (IsS93.ge HI0.out) | refine bs_ ?_ GE340.out | refine bs_ ?_ GE347.out) | exact HB.out)); rintro e w27 ⟨rfl, hi, hb, hk⟩; refine ⟨_, rfl, ?_⟩; have n0_ := A_ (KeepBut.blk hk (g' := gb340) (o := .cells #[.int .i64 0, .int .i64 0, .bool false, .int .i64 0, .string (⟨#[]⟩ : ByteArray), .bool false, .int .i64 0, .string (⟨#[]⟩ : ByteArray)] 25 (0, 0)) (by (with_reducible repeat (first | refine kn_ ?_ _ | refine kd_ ?_ | refine ka_ ?_ _)); exact BK340.out) NB340_0.out (by simp)); have n1_ := A_ (KeepBut.blk hk (g' := gb347) (o := .cells #[.int .i64 t341, .int .i64 t344, .bool false, .int .i64 0, .string (⟨#[]⟩ : ByteArray), .bool false, .int .i64 0, .string (⟨#[]⟩ : ByteArray)] 25 (0, 0)) (by (with_reducible repeat (first | refine kn_ ?_ _ | refine kd_ ?_ | refine ka_ ?_ _)); exact BK347.out) NB347_0.out (by simp)); have n2_ := A_ (KeepBut.trans (by repeat (first | (with_reducible first | exact HK.out | apply KeepBut.set_ | apply keep_drewN | apply keep_drew | apply keep_alloc | refine keep_far ?_ GW340.out _ | refine keep_far ?_ GW347.out _) | exact HK.out)) hk (.inl rfl)); have n3_ := A_ (hb); have n4_ := A_ (hi); clear BK340; clear BK347; clear HK; clear HB; clear HI0; have BK340 := n0_; have BK347 := n1_; have HK := n2_; have HB := n3_; have HI0 := n4_; clear n0_ n1_ n2_ n3_ n4_; (try clear hb); (try clear hb2); (try clear hk); (try clear hi); have hnb28 := NB347_340.out; have hnc28 := NB340_347.out; have hnb29 := NB347_0.out; have hnc29 := NB0_347.out; have hcz30_0 : w27.cell? ⟨gb347, 0, none⟩ = some (.int .i64 t341) := (bc_ BK347.out 0).trans rfl; have hcz30_1 : w27.cell? ⟨gb347, 1, none⟩ = some (.int .i64 t344) := (bc_ BK347.out 1).trans rfl; have hcz30_2 : w27.cell? ⟨gb347, 2, none⟩ = some (.bool false) := (bc_ BK347.out 2).trans rfl; have hcz30_3 : w27.cell? ⟨gb347, 3, none⟩ = some (.int .i64 0) := (bc_ BK347.out 3).trans rfl; have hcz30_4 : w27.cell? ⟨gb347, 4, none⟩ = some (.string (⟨#[]⟩ : ByteArray)) := (bc_ BK347.out 4).trans rfl; have hcz30_5 : w27.cell? ⟨gb347, 5, none⟩ = some (.bool false) := (bc_ BK347.out 5).trans rfl; have hcz30_6 : w27.cell? ⟨gb347, 6, none⟩ = some (.int .i64 0) := (bc_ BK347.out 6).trans rfl; have hcz30_7 : w27.cell? ⟨gb347, 7, none⟩ = some (.string (⟨#[]⟩ : ByteArray)) := (bc_ BK347.out 7).trans rfl; have hfz30_0 := bf_ BK347.out 0; have hfz30_1 := bf_ BK347.out 1; have hfz30_2 := bf_ BK347.out 2; have hfz30_3 := bf_ BK347.out 3; have hfz30_4 := bf_ BK347.out 4; have hfz30_5 := bf_ BK347.out 5; have hfz30_6 := bf_ BK347.out 6; have hfz30_7 := bf_ BK347.out 7))
     go_meet
     case rel => exact ⟨_, (t360), (t361), (t352), (t353), (t354), (t357), (t358), (t359), (Value.slice none 0 0), H', ⟨by have := HJ4.out; first | omega | exact Nat.le_refl _⟩, ⟨by (with_reducible repeat (first | refine kn_ ?_ _ | refine kd_ ?_ | refine ka_ ?_ _)); refine blk_far ?_ NB340_347.out _; (with_reducible repeat (first | refine kn_ ?_ _ | refine kd_ ?_ | refine ka_ ?_ _)); refine blk_far ?_ NB340_347.out _; (with_reducible repeat (first | refine kn_ ?_ _ | refine kd_ ?_ | refine ka_ ?_ _)); refine blk_far ?_ NB340_347.out _; (with_reducible repeat (first | refine kn_ ?_ _ | refine kd_ ?_ | refine ka_ ?_ _)); refine blk_far ?_ NB340_347.out _; (with_reducible repeat (first | refine kn_ ?_ _ | refine kd_ ?_ | refine ka_ ?_ _)); refine blk_far ?_ NB340_347.out _; (with_reducible repeat (first | refine kn_ ?_ _ | refine kd_ ?_ | refine ka_ ?_ _)); refine blk_far ?_ NB340_347.out _; (with_reducible repeat (first | refine kn_ ?_ _ | refine kd_ ?_ | refine ka_ ?_ _)); exact BK340.out⟩, ⟨by (with_reducible repeat (first | refine kn_ ?_ _ | refine kd_ ?_ | refine ka_ ?_ _)); refine blk_put (cs := #[.int .i64 t341, .int .i64 t344, .bool t352, .int .i64 t353, .string t354, .bool t357, .int .i64 t358, .string (⟨#[]⟩ : ByteArray)]) ?_ 7 _ rfl; (with_reducible repeat (first | refine kn_ ?_ _ | refine kd_ ?_ | refine ka_ ?_ _)); refine blk_put (cs := #[.int .i64 t341, .int .i64 t344, .bool t352, .int .i64 t353, .string t354, .bool t357, .int .i64 0, .string (⟨#[]⟩ : ByteArray)]) ?_ 6 _ rfl; (with_reducible repeat (first | refine kn_ ?_ _ | refine kd_ ?_ | refine ka_ ?_ _)); refine blk_put (cs := #[.int .i64 t341, .int .i64 t344, .bool t352, .int .i64 t353, .string t354, .bool false, .int .i64 0, .string (⟨#[]⟩ : ByteArray)]) ?_ 5 _ rfl; (with_reducible repeat (first | refine kn_ ?_ _ | refine kd_ ?_ | refine ka_ ?_ _)); refine blk_put (cs := #[.int .i64 t341, .int .i64 t344, .bool t352, .int .i64 t353, .string (⟨#[]⟩ : ByteArray), .bool false, .int .i64 0, .string (⟨#[]⟩ : ByteArray)]) ?_ 4 _ rfl; (with_reducible repeat (first | refine kn_ ?_ _ | refine kd_ ?_ | refine ka_ ?_ _)); refine blk_put (cs := #[.int .i64 t341, .int .i64 t344, .bool t352, .int .i64 0, .string (⟨#[]⟩ : ByteArray), .bool false, .int .i64 0, .string (⟨#[]⟩ : ByteArray)]) ?_ 3 _ rfl; (with_reducible repeat (first | refine kn_ ?_ _ | refine kd_ ?_ | refine ka_ ?_ _)); refine blk_put (cs := #[.int .i64 t341, .int .i64 t344, .bool false, .int .i64 0, .string (⟨#[]⟩ : ByteArray), .bool false, .int .i64 0, .string (⟨#[]⟩ : ByteArray)]) ?_ 2 _ rfl; (with_reducible repeat (first | refine kn_ ?_ _ | refine kd_ ?_ | refine ka_ ?_ _)); exact BK347.out⟩, ⟨by repeat (first | (with_reducible first | exact HI0.out | apply IsS93.alloc | apply IsS93.drewN | apply IsS93.drew | apply IsS93.set_0 | apply IsS93.set_1 | apply IsS93.far (p := ⟨gb340, _, none⟩) (hne := NB0_340.out) | apply IsS93.far (p := ⟨gb347, _, none⟩) (hne := NB0_347.out)) | exact HI0.out)⟩, ⟨by repeat (first | (with_reducible first | exact HK.out | apply KeepBut.set_ | apply keep_drewN | apply keep_drew | apply keep_alloc | refine keep_far ?_ GW340.out _ | refine keep_far ?_ GW347.out _) | exact HK.out)⟩, ⟨by repeat (first | (with_reducible first | exact HB.out | apply ba_ | apply bn_ | apply bd_ | refine bs_ ?_ (IsS93.ge HI0.out) | refine bs_ ?_ GE340.out | refine bs_ ?_ GE347.out) | exact HB.out)⟩⟩
    ·replace c23 := Bool.eq_false_iff.mpr c23
     subst c23
     have H1 : (zone_Take.j1 kj4 a1 x1000_4 x1001_4 t341 t344 false 0 (⟨#[]⟩ : ByteArray) false 0 (⟨#[]⟩ : ByteArray)) = some (r1, r2, r3, r4, r5, r6, r7, r8, r9, r10) := by rw [if_neg (show ¬ (false = true) by decide)] at H; exact H
     clear H
     have H := H1
     clear H1
     have H' := A_ H
     clear H
     go_wp2
     go_meet
     case rel => exact ⟨_, (x1000_4), (x1001_4), (false), (0), ((⟨#[]⟩ : ByteArray)), (false), (0), ((⟨#[]⟩ : ByteArray)), (Value.slice none 0 0), H', ⟨by have := HJ4.out; first | omega | exact Nat.le_refl _⟩, ⟨by (with_reducible repeat (first | refine kn_ ?_ _ | refine kd_ ?_ | refine ka_ ?_ _)); exact BK340.out⟩, ⟨by (with_reducible repeat (first | refine kn_ ?_ _ | refine kd_ ?_ | refine ka_ ?_ _)); exact BK347.out⟩, ⟨by repeat (first | (with_reducible first | exact HI0.out | apply IsS93.alloc | apply IsS93.drewN | apply IsS93.drew | apply IsS93.set_0 | apply IsS93.set_1 | apply IsS93.far (p := ⟨gb340, _, none⟩) (hne := NB0_340.out) | apply IsS93.far (p := ⟨gb347, _, none⟩) (hne := NB0_347.out)) | exact HI0.out)⟩, ⟨by repeat (first | (with_reducible first | exact HK.out | apply KeepBut.set_ | apply keep_drewN | apply keep_drew | apply keep_alloc | refine keep_far ?_ GW340.out _ | refine keep_far ?_ GW347.out _) | exact HK.out)⟩, ⟨by repeat (first | (with_reducible first | exact HB.out | apply ba_ | apply bn_ | apply bd_ | refine bs_ ?_ (IsS93.ge HI0.out) | refine bs_ ?_ GE340.out | refine bs_ ?_ GE347.out) | exact HB.out)⟩⟩
   case rest =>
    clear HC22
    try clear c1
    try clear c2
    try clear p2
    try clear c3
    try clear c4
    try clear c6
    try clear c7
    try clear c10
    try clear c11
    try clear c14
    try clear c17
    try clear c18
    try clear c23
    try clear c28
    try clear c29
    try clear hcz12_0
    try clear hcz12_1
    try clear hcz12_2
    try clear hcz12_3
    try clear hcz12_4
    try clear hcz12_5
    try clear hcz12_6
    try clear hcz12_7
    try clear hcz19_0
    try clear hcz19_1
    try clear hcz19_2
    try clear hcz19_3
    try clear hcz19_4
    try clear hcz19_5
    try clear hcz19_6
    try clear hcz19_7
    try clear hcz30_0
    try clear hcz30_1
    try clear hcz30_2
    try clear hcz30_3
    try clear hcz30_4
    try clear hcz30_5
    try clear hcz30_6
    try clear hcz30_7
    try clear hfz12_0
    try clear hfz12_1
    try clear hfz12_2
    try clear hfz12_3
    try clear hfz12_4
    try clear hfz12_5
    try clear hfz12_6
    try clear hfz12_7
    try clear hfz19_0
    try clear hfz19_1
    try clear hfz19_2
    try clear hfz19_3
    try clear hfz19_4
    try clear hfz19_5
    try clear hfz19_6
    try clear hfz19_7
    try clear hfz30_0
    try clear hfz30_1
    try clear hfz30_2
    try clear hfz30_3
    try clear hfz30_4
    try clear hfz30_5
    try clear hfz30_6
    try clear hfz30_7
    try clear p2
    obtain ⟨kq, x1000_21, x1001_21, x348002_21, x348003_21, x348004_21, x348005_21, x348006_21, x348007_21, u1000, HA, HJ21, BK340, BK347, HI0, HK, HB⟩ := hcut
    cases kq with
    | zero => exact absurd HA.out (by simp [zone_Take.j1])
    | succ kj21 =>
     have H := HA.out
     clear HA
     simp only [zone_Take.j1] at H
     replace H := Option.bind_eq_some_iff.mp H
     obtain ⟨⟨t362, t363, t364⟩, A310, H⟩ := H
     replace H : (if t362 = true then ((zone_May.f kj21 a1 t341 t344 x348002_21 x348003_21 x348004_21 x348005_21 x348006_21 x348007_21).bind fun t365 => (if t365 = true then (some (t341, t344, x348002_21, x348003_21, x348004_21, x348005_21, x348006_21, x348007_21, t363, t364)) else ((vint_Source_Fail.f t363 t364).bind fun bt366 => (some (0, 0, false, 0, (⟨#[]⟩ : ByteArray), false, 0, (⟨#[]⟩ : ByteArray), bt366.1, bt366.2))))) else ((vint_Source_Fail.f t363 t364).bind fun bt368 => (some (0, 0, false, 0, (⟨#[]⟩ : ByteArray), false, 0, (⟨#[]⟩ : ByteArray), bt368.1, bt368.2)))) = some (r1, r2, r3, r4, r5, r6, r7, r8, r9, r10) := H
     have A31 := A_ A310
     clear A310
     by_cases c32 : t362 = true
     ·subst c32
      have H1 : ((zone_May.f kj21 a1 t341 t344 x348002_21 x348003_21 x348004_21 x348005_21 x348006_21 x348007_21).bind fun t365 => (if t365 = true then (some (t341, t344, x348002_21, x348003_21, x348004_21, x348005_21, x348006_21, x348007_21, t363, t364)) else ((vint_Source_Fail.f t363 t364).bind fun bt366 => (some (0, 0, false, 0, (⟨#[]⟩ : ByteArray), false, 0, (⟨#[]⟩ : ByteArray), bt366.1, bt366.2))))) = some (r1, r2, r3, r4, r5, r6, r7, r8, r9, r10) := by rw [if_pos rfl] at H; exact H
      clear H
      have H := H1
      clear H1
      replace H := Option.bind_eq_some_iff.mp H
      obtain ⟨t365, A330, H⟩ := H
      replace H : (if t365 = true then (some (t341, t344, x348002_21, x348003_21, x348004_21, x348005_21, x348006_21, x348007_21, t363, t364)) else ((vint_Source_Fail.f t363 t364).bind fun bt366 => (some (0, 0, false, 0, (⟨#[]⟩ : ByteArray), false, 0, (⟨#[]⟩ : ByteArray), bt366.1, bt366.2)))) = some (r1, r2, r3, r4, r5, r6, r7, r8, r9, r10) := H
      have A33 := A_ A330
      clear A330
      by_cases c34 : t365 = true
      ·subst c34
       have H1 : (some (t341, t344, x348002_21, x348003_21, x348004_21, x348005_21, x348006_21, x348007_21, t363, t364)) = some (r1, r2, r3, r4, r5, r6, r7, r8, r9, r10) := by rw [if_pos rfl] at H; exact H
       clear H
       have H := H1
       clear H1
       simp only [Option.some.injEq, Prod.mk.injEq] at H
       obtain ⟨rfl, rfl, rfl, rfl, rfl, rfl, rfl, rfl, rfl, rfl⟩ := H
       go_wp2_with (first | ((with_reducible refine gate_callee (f := 41) rfl ?_); refine goesL_ (some 26) rfl rfl Try.func41 (by kernel_rfl) rfl #[.pointer (some ⟨g, 0, none⟩)] rfl (by (try simp only [List.map_toArray, List.map_cons, List.map_nil]); first | done | rfl | (simp only [List.length_drop, List.length_take]; rfl)) ?_; (with_reducible refine (vint_Source_Ok.calls g x1000_21 x1001_21 true t363 t364 w0 _ ?side1 ?side2 A31.out).mono ?_); (case side1 => repeat (first | (with_reducible first | exact HI0.out | apply IsS93.alloc | apply IsS93.drewN | apply IsS93.drew | apply IsS93.set_0 | apply IsS93.set_1 | apply IsS93.far (p := ⟨gb340, _, none⟩) (hne := NB0_340.out) | apply IsS93.far (p := ⟨gb347, _, none⟩) (hne := NB0_347.out)) | exact HI0.out)); (case side2 => repeat (first | (with_reducible first | exact HB.out | apply ba_ | apply bn_ | apply bd_ | refine bs_ ?_ (IsS93.ge HI0.out) | refine bs_ ?_ GE340.out | refine bs_ ?_ GE347.out) | exact HB.out)); rintro e w35 ⟨rfl, hi, hb, hk⟩; refine ⟨_, rfl, ?_⟩; have n0_ := A_ (KeepBut.blk hk (g' := gb340) (o := .cells #[.int .i64 0, .int .i64 0, .bool false, .int .i64 0, .string (⟨#[]⟩ : ByteArray), .bool false, .int .i64 0, .string (⟨#[]⟩ : ByteArray)] 25 (0, 0)) (by (with_reducible repeat (first | refine kn_ ?_ _ | refine kd_ ?_ | refine ka_ ?_ _)); exact BK340.out) NB340_0.out (by simp)); have n1_ := A_ (KeepBut.blk hk (g' := gb347) (o := .cells #[.int .i64 t341, .int .i64 t344, .bool x348002_21, .int .i64 x348003_21, .string x348004_21, .bool x348005_21, .int .i64 x348006_21, .string x348007_21] 25 (0, 0)) (by (with_reducible repeat (first | refine kn_ ?_ _ | refine kd_ ?_ | refine ka_ ?_ _)); exact BK347.out) NB347_0.out (by simp)); have n2_ := A_ (KeepBut.trans (by repeat (first | (with_reducible first | exact HK.out | apply KeepBut.set_ | apply keep_drewN | apply keep_drew | apply keep_alloc | refine keep_far ?_ GW340.out _ | refine keep_far ?_ GW347.out _) | exact HK.out)) hk (.inl rfl)); have n3_ := A_ (hb); have n4_ := A_ (hi); clear BK340; clear BK347; clear HK; clear HB; clear HI0; have BK340 := n0_; have BK347 := n1_; have HK := n2_; have HB := n3_; have HI0 := n4_; clear n0_ n1_ n2_ n3_ n4_; (try clear hb); (try clear hb2); (try clear hk); (try clear hi); have hnb36 := NB347_340.out; have hnc36 := NB340_347.out; have hnb37 := NB347_0.out; have hnc37 := NB0_347.out; have hcz38_0 : w35.cell? ⟨gb347, 0, none⟩ = some (.int .i64 t341) := (bc_ BK347.out 0).trans rfl; have hcz38_1 : w35.cell? ⟨gb347, 1, none⟩ = some (.int .i64 t344) := (bc_ BK347.out 1).trans rfl; have hcz38_2 : w35.cell? ⟨gb347, 2, none⟩ = some (.bool x348002_21) := (bc_ BK347.out 2).trans rfl; have hcz38_3 : w35.cell? ⟨gb347, 3, none⟩ = some (.int .i64 x348003_21) := (bc_ BK347.out 3).trans rfl; have hcz38_4 : w35.cell? ⟨gb347, 4, none⟩ = some (.string x348004_21) := (bc_ BK347.out 4).trans rfl; have hcz38_5 : w35.cell? ⟨gb347, 5, none⟩ = some (.bool x348005_21) := (bc_ BK347.out 5).trans rfl; have hcz38_6 : w35.cell? ⟨gb347, 6, none⟩ = some (.int .i64 x348006_21) := (bc_ BK347.out 6).trans rfl; have hcz38_7 : w35.cell? ⟨gb347, 7, none⟩ = some (.string x348007_21) := (bc_ BK347.out 7).trans rfl; have hfz38_0 := bf_ BK347.out 0; have hfz38_1 := bf_ BK347.out 1; have hfz38_2 := bf_ BK347.out 2; have hfz38_3 := bf_ BK347.out 3; have hfz38_4 := bf_ BK347.out 4; have hfz38_5 := bf_ BK347.out 5; have hfz38_6 := bf_ BK347.out 6; have hfz38_7 := bf_ BK347.out 7) | (go_at_call 16; (with_reducible refine (zone_May.calls kj21 a1 t341 t344 x348002_21 x348003_21 x348004_21 x348005_21 x348006_21 x348007_21 true _ A33.out).mono ?_); rintro e w39 ⟨rfl, hb⟩; have n0_ := A_ (blk_below (g := gb340) (o := .cells #[.int .i64 0, .int .i64 0, .bool false, .int .i64 0, .string (⟨#[]⟩ : ByteArray), .bool false, .int .i64 0, .string (⟨#[]⟩ : ByteArray)] 25 (0, 0)) (by (with_reducible repeat (first | refine kn_ ?_ _ | refine kd_ ?_ | refine ka_ ?_ _)); exact BK340.out) hb); have n1_ := A_ (blk_below (g := gb347) (o := .cells #[.int .i64 t341, .int .i64 t344, .bool x348002_21, .int .i64 x348003_21, .string x348004_21, .bool x348005_21, .int .i64 x348006_21, .string x348007_21] 25 (0, 0)) (by (with_reducible repeat (first | refine kn_ ?_ _ | refine kd_ ?_ | refine ka_ ?_ _)); exact BK347.out) hb); have n2_ := A_ (IsS93.below (by repeat (first | (with_reducible first | exact HI0.out | apply IsS93.alloc | apply IsS93.drewN | apply IsS93.drew | apply IsS93.set_0 | apply IsS93.set_1 | apply IsS93.far (p := ⟨gb340, _, none⟩) (hne := NB0_340.out) | apply IsS93.far (p := ⟨gb347, _, none⟩) (hne := NB0_347.out)) | exact HI0.out)) hb); have n3_ := A_ (KeepBut.trans (by repeat (first | (with_reducible first | exact HK.out | apply KeepBut.set_ | apply keep_drewN | apply keep_drew | apply keep_alloc | refine keep_far ?_ GW340.out _ | refine keep_far ?_ GW347.out _) | exact HK.out)) (KeepBut.of_below hb g none) (.inl rfl)); have n4_ := A_ (bp_ (by repeat (first | (with_reducible first | exact HB.out | apply ba_ | apply bn_ | apply bd_ | refine bs_ ?_ (IsS93.ge HI0.out) | refine bs_ ?_ GE340.out | refine bs_ ?_ GE347.out) | exact HB.out)) hb); clear BK340; clear BK347; clear HI0; clear HK; clear HB; have BK340 := n0_; have BK347 := n1_; have HI0 := n2_; have HK := n3_; have HB := n4_; clear n0_ n1_ n2_ n3_ n4_; (try clear hb); (try clear hb2); (try clear hk); (try clear hi); have hcz40_0 : w39.cell? ⟨gb347, 0, none⟩ = some (.int .i64 t341) := (bc_ BK347.out 0).trans rfl; have hcz40_1 : w39.cell? ⟨gb347, 1, none⟩ = some (.int .i64 t344) := (bc_ BK347.out 1).trans rfl; have hcz40_2 : w39.cell? ⟨gb347, 2, none⟩ = some (.bool x348002_21) := (bc_ BK347.out 2).trans rfl; have hcz40_3 : w39.cell? ⟨gb347, 3, none⟩ = some (.int .i64 x348003_21) := (bc_ BK347.out 3).trans rfl; have hcz40_4 : w39.cell? ⟨gb347, 4, none⟩ = some (.string x348004_21) := (bc_ BK347.out 4).trans rfl; have hcz40_5 : w39.cell? ⟨gb347, 5, none⟩ = some (.bool x348005_21) := (bc_ BK347.out 5).trans rfl; have hcz40_6 : w39.cell? ⟨gb347, 6, none⟩ = some (.int .i64 x348006_21) := (bc_ BK347.out 6).trans rfl; have hcz40_7 : w39.cell? ⟨gb347, 7, none⟩ = some (.string x348007_21) := (bc_ BK347.out 7).trans rfl; have hfz40_0 := bf_ BK347.out 0; have hfz40_1 := bf_ BK347.out 1; have hfz40_2 := bf_ BK347.out 2; have hfz40_3 := bf_ BK347.out 3; have hfz40_4 := bf_ BK347.out 4; have hfz40_5 := bf_ BK347.out 5; have hfz40_6 := bf_ BK347.out 6; have hfz40_7 := bf_ BK347.out 7; have hnb41 := NB340_0.out; have hnc41 := NB0_340.out; have hcz42_0 : w39.cell? ⟨gb340, 0, none⟩ = some (.int .i64 0) := (bc_ BK340.out 0).trans rfl; have hcz42_1 : w39.cell? ⟨gb340, 1, none⟩ = some (.int .i64 0) := (bc_ BK340.out 1).trans rfl; have hcz42_2 : w39.cell? ⟨gb340, 2, none⟩ = some (.bool false) := (bc_ BK340.out 2).trans rfl; have hcz42_3 : w39.cell? ⟨gb340, 3, none⟩ = some (.int .i64 0) := (bc_ BK340.out 3).trans rfl; have hcz42_4 : w39.cell? ⟨gb340, 4, none⟩ = some (.string (⟨#[]⟩ : ByteArray)) := (bc_ BK340.out 4).trans rfl; have hcz42_5 : w39.cell? ⟨gb340, 5, none⟩ = some (.bool false) := (bc_ BK340.out 5).trans rfl; have hcz42_6 : w39.cell? ⟨gb340, 6, none⟩ = some (.int .i64 0) := (bc_ BK340.out 6).trans rfl; have hcz42_7 : w39.cell? ⟨gb340, 7, none⟩ = some (.string (⟨#[]⟩ : ByteArray)) := (bc_ BK340.out 7).trans rfl; have hfz42_0 := bf_ BK340.out 0; have hfz42_1 := bf_ BK340.out 1; have hfz42_2 := bf_ BK340.out 2; have hfz42_3 := bf_ BK340.out 3; have hfz42_4 := bf_ BK340.out 4; have hfz42_5 := bf_ BK340.out 5; have hfz42_6 := bf_ BK340.out 6; have hfz42_7 := bf_ BK340.out 7))
       refine bodyPost_ret (results_cell_row rfl _ _ gb340 25 #[.int .i64 t341, .int .i64 t344, .bool x348002_21, .int .i64 x348003_21, .string x348004_21, .bool x348005_21, .int .i64 x348006_21, .string x348007_21] (0, 0) _ rfl (by (with_reducible repeat (first | refine kn_ ?_ _ | refine kd_ ?_ | refine ka_ ?_ _)); refine blk_put (cs := #[.int .i64 t341, .int .i64 t344, .bool x348002_21, .int .i64 x348003_21, .string x348004_21, .bool x348005_21, .int .i64 x348006_21, .string (⟨#[]⟩ : ByteArray)]) ?_ 7 _ rfl; (with_reducible repeat (first | refine kn_ ?_ _ | refine kd_ ?_ | refine ka_ ?_ _)); refine blk_put (cs := #[.int .i64 t341, .int .i64 t344, .bool x348002_21, .int .i64 x348003_21, .string x348004_21, .bool x348005_21, .int .i64 0, .string (⟨#[]⟩ : ByteArray)]) ?_ 6 _ rfl; (with_reducible repeat (first | refine kn_ ?_ _ | refine kd_ ?_ | refine ka_ ?_ _)); refine blk_put (cs := #[.int .i64 t341, .int .i64 t344, .bool x348002_21, .int .i64 x348003_21, .string x348004_21, .bool false, .int .i64 0, .string (⟨#[]⟩ : ByteArray)]) ?_ 5 _ rfl; (with_reducible repeat (first | refine kn_ ?_ _ | refine kd_ ?_ | refine ka_ ?_ _)); refine blk_put (cs := #[.int .i64 t341, .int .i64 t344, .bool x348002_21, .int .i64 x348003_21, .string (⟨#[]⟩ : ByteArray), .bool false, .int .i64 0, .string (⟨#[]⟩ : ByteArray)]) ?_ 4 _ rfl; (with_reducible repeat (first | refine kn_ ?_ _ | refine kd_ ?_ | refine ka_ ?_ _)); refine blk_put (cs := #[.int .i64 t341, .int .i64 t344, .bool x348002_21, .int .i64 0, .string (⟨#[]⟩ : ByteArray), .bool false, .int .i64 0, .string (⟨#[]⟩ : ByteArray)]) ?_ 3 _ rfl; (with_reducible repeat (first | refine kn_ ?_ _ | refine kd_ ?_ | refine ka_ ?_ _)); refine blk_put (cs := #[.int .i64 t341, .int .i64 t344, .bool false, .int .i64 0, .string (⟨#[]⟩ : ByteArray), .bool false, .int .i64 0, .string (⟨#[]⟩ : ByteArray)]) ?_ 2 _ rfl; (with_reducible repeat (first | refine kn_ ?_ _ | refine kd_ ?_ | refine ka_ ?_ _)); refine blk_put (cs := #[.int .i64 t341, .int .i64 0, .bool false, .int .i64 0, .string (⟨#[]⟩ : ByteArray), .bool false, .int .i64 0, .string (⟨#[]⟩ : ByteArray)]) ?_ 1 _ rfl; (with_reducible repeat (first | refine kn_ ?_ _ | refine kd_ ?_ | refine ka_ ?_ _)); refine blk_put (cs := #[.int .i64 0, .int .i64 0, .bool false, .int .i64 0, .string (⟨#[]⟩ : ByteArray), .bool false, .int .i64 0, .string (⟨#[]⟩ : ByteArray)]) ?_ 0 _ rfl; (with_reducible repeat (first | refine kn_ ?_ _ | refine kd_ ?_ | refine ka_ ?_ _)); exact BK340.out) Try.underlying25 rfl (by kernel_rfl)) rfl ?_
       exact ⟨by first | rfl | (simp [errW_none, errW_some] <;> rfl) | (simp [*, errW_none, errW_some] <;> rfl), by repeat (first | (with_reducible first | exact HI0.out | apply IsS93.alloc | apply IsS93.drewN | apply IsS93.drew | apply IsS93.set_0 | apply IsS93.set_1 | apply IsS93.far (p := ⟨gb340, _, none⟩) (hne := NB0_340.out) | apply IsS93.far (p := ⟨gb347, _, none⟩) (hne := NB0_347.out)) | exact HI0.out), by repeat (first | (with_reducible first | exact HB.out | apply ba_ | apply bn_ | apply bd_ | refine bs_ ?_ (IsS93.ge HI0.out) | refine bs_ ?_ GE340.out | refine bs_ ?_ GE347.out) | exact HB.out), by repeat (first | (with_reducible first | exact HK.out | apply KeepBut.set_ | apply keep_drewN | apply keep_drew | apply keep_alloc | refine keep_far ?_ GW340.out _ | refine keep_far ?_ GW347.out _) | exact HK.out)⟩
      ·replace c34 := Bool.eq_false_iff.mpr c34
       subst c34
       have H1 : ((vint_Source_Fail.f t363 t364).bind fun bt366 => (some (0, 0, false, 0, (⟨#[]⟩ : ByteArray), false, 0, (⟨#[]⟩ : ByteArray), bt366.1, bt366.2))) = some (r1, r2, r3, r4, r5, r6, r7, r8, r9, r10) := by rw [if_neg (show ¬ (false = true) by decide)] at H; exact H
       clear H
       have H := H1
       clear H1
       replace H := Option.bind_eq_some_iff.mp H
       obtain ⟨⟨t366, t367⟩, A430, H⟩ := H
       replace H : (some (0, 0, false, 0, (⟨#[]⟩ : ByteArray), false, 0, (⟨#[]⟩ : ByteArray), t366, t367)) = some (r1, r2, r3, r4, r5, r6, r7, r8, r9, r10) := H
       have A43 := A_ A430
       clear A430
       simp only [Option.some.injEq, Prod.mk.injEq] at H
       obtain ⟨rfl, rfl, rfl, rfl, rfl, rfl, rfl, rfl, rfl, rfl⟩ := H
       go_wp2_with (first | ((with_reducible refine gate_callee (f := 41) rfl ?_); refine goesL_ (some 26) rfl rfl Try.func41 (by kernel_rfl) rfl #[.pointer (some ⟨g, 0, none⟩)] rfl (by (try simp only [List.map_toArray, List.map_cons, List.map_nil]); first | done | rfl | (simp only [List.length_drop, List.length_take]; rfl)) ?_; (with_reducible refine (vint_Source_Ok.calls g x1000_21 x1001_21 true t363 t364 w0 _ ?side1 ?side2 A31.out).mono ?_); (case side1 => repeat (first | (with_reducible first | exact HI0.out | apply IsS93.alloc | apply IsS93.drewN | apply IsS93.drew | apply IsS93.set_0 | apply IsS93.set_1 | apply IsS93.far (p := ⟨gb340, _, none⟩) (hne := NB0_340.out) | apply IsS93.far (p := ⟨gb347, _, none⟩) (hne := NB0_347.out)) | exact HI0.out)); (case side2 => repeat (first | (with_reducible first | exact HB.out | apply ba_ | apply bn_ | apply bd_ | refine bs_ ?_ (IsS93.ge HI0.out) | refine bs_ ?_ GE340.out | refine bs_ ?_ GE347.out) | exact HB.out)); rintro e w44 ⟨rfl, hi, hb, hk⟩; refine ⟨_, rfl, ?_⟩; have n0_ := A_ (KeepBut.blk hk (g' := gb340) (o := .cells #[.int .i64 0, .int .i64 0, .bool false, .int .i64 0, .string (⟨#[]⟩ : ByteArray), .bool false, .int .i64 0, .string (⟨#[]⟩ : ByteArray)] 25 (0, 0)) (by (with_reducible repeat (first | refine kn_ ?_ _ | refine kd_ ?_ | refine ka_ ?_ _)); exact BK340.out) NB340_0.out (by simp)); have n1_ := A_ (KeepBut.blk hk (g' := gb347) (o := .cells #[.int .i64 t341, .int .i64 t344, .bool x348002_21, .int .i64 x348003_21, .string x348004_21, .bool x348005_21, .int .i64 x348006_21, .string x348007_21] 25 (0, 0)) (by (with_reducible repeat (first | refine kn_ ?_ _ | refine kd_ ?_ | refine ka_ ?_ _)); exact BK347.out) NB347_0.out (by simp)); have n2_ := A_ (KeepBut.trans (by repeat (first | (with_reducible first | exact HK.out | apply KeepBut.set_ | apply keep_drewN | apply keep_drew | apply keep_alloc | refine keep_far ?_ GW340.out _ | refine keep_far ?_ GW347.out _) | exact HK.out)) hk (.inl rfl)); have n3_ := A_ (hb); have n4_ := A_ (hi); clear BK340; clear BK347; clear HK; clear HB; clear HI0; have BK340 := n0_; have BK347 := n1_; have HK := n2_; have HB := n3_; have HI0 := n4_; clear n0_ n1_ n2_ n3_ n4_; (try clear hb); (try clear hb2); (try clear hk); (try clear hi); have hnb45 := NB347_340.out; have hnc45 := NB340_347.out; have hnb46 := NB347_0.out; have hnc46 := NB0_347.out; have hcz47_0 : w44.cell? ⟨gb347, 0, none⟩ = some (.int .i64 t341) := (bc_ BK347.out 0).trans rfl; have hcz47_1 : w44.cell? ⟨gb347, 1, none⟩ = some (.int .i64 t344) := (bc_ BK347.out 1).trans rfl; have hcz47_2 : w44.cell? ⟨gb347, 2, none⟩ = some (.bool x348002_21) := (bc_ BK347.out 2).trans rfl; have hcz47_3 : w44.cell? ⟨gb347, 3, none⟩ = some (.int .i64 x348003_21) := (bc_ BK347.out 3).trans rfl; have hcz47_4 : w44.cell? ⟨gb347, 4, none⟩ = some (.string x348004_21) := (bc_ BK347.out 4).trans rfl; have hcz47_5 : w44.cell? ⟨gb347, 5, none⟩ = some (.bool x348005_21) := (bc_ BK347.out 5).trans rfl; have hcz47_6 : w44.cell? ⟨gb347, 6, none⟩ = some (.int .i64 x348006_21) := (bc_ BK347.out 6).trans rfl; have hcz47_7 : w44.cell? ⟨gb347, 7, none⟩ = some (.string x348007_21) := (bc_ BK347.out 7).trans rfl; have hfz47_0 := bf_ BK347.out 0; have hfz47_1 := bf_ BK347.out 1; have hfz47_2 := bf_ BK347.out 2; have hfz47_3 := bf_ BK347.out 3; have hfz47_4 := bf_ BK347.out 4; have hfz47_5 := bf_ BK347.out 5; have hfz47_6 := bf_ BK347.out 6; have hfz47_7 := bf_ BK347.out 7) | (go_at_call 16; (with_reducible refine (zone_May.calls kj21 a1 t341 t344 x348002_21 x348003_21 x348004_21 x348005_21 x348006_21 x348007_21 false _ A33.out).mono ?_); rintro e w48 ⟨rfl, hb⟩; have n0_ := A_ (blk_below (g := gb340) (o := .cells #[.int .i64 0, .int .i64 0, .bool false, .int .i64 0, .string (⟨#[]⟩ : ByteArray), .bool false, .int .i64 0, .string (⟨#[]⟩ : ByteArray)] 25 (0, 0)) (by (with_reducible repeat (first | refine kn_ ?_ _ | refine kd_ ?_ | refine ka_ ?_ _)); exact BK340.out) hb); have n1_ := A_ (blk_below (g := gb347) (o := .cells #[.int .i64 t341, .int .i64 t344, .bool x348002_21, .int .i64 x348003_21, .string x348004_21, .bool x348005_21, .int .i64 x348006_21, .string x348007_21] 25 (0, 0)) (by (with_reducible repeat (first | refine kn_ ?_ _ | refine kd_ ?_ | refine ka_ ?_ _)); exact BK347.out) hb); have n2_ := A_ (IsS93.below (by repeat (first | (with_reducible first | exact HI0.out | apply IsS93.alloc | apply IsS93.drewN | apply IsS93.drew | apply IsS93.set_0 | apply IsS93.set_1 | apply IsS93.far (p := ⟨gb340, _, none⟩) (hne := NB0_340.out) | apply IsS93.far (p := ⟨gb347, _, none⟩) (hne := NB0_347.out)) | exact HI0.out)) hb); have n3_ := A_ (KeepBut.trans (by repeat (first | (with_reducible first | exact HK.out | apply KeepBut.set_ | apply keep_drewN | apply keep_drew | apply keep_alloc | refine keep_far ?_ GW340.out _ | refine keep_far ?_ GW347.out _) | exact HK.out)) (KeepBut.of_below hb g none) (.inl rfl)); have n4_ := A_ (bp_ (by repeat (first | (with_reducible first | exact HB.out | apply ba_ | apply bn_ | apply bd_ | refine bs_ ?_ (IsS93.ge HI0.out) | refine bs_ ?_ GE340.out | refine bs_ ?_ GE347.out) | exact HB.out)) hb); clear BK340; clear BK347; clear HI0; clear HK; clear HB; have BK340 := n0_; have BK347 := n1_; have HI0 := n2_; have HK := n3_; have HB := n4_; clear n0_ n1_ n2_ n3_ n4_; (try clear hb); (try clear hb2); (try clear hk); (try clear hi)) | ((with_reducible refine gate_callee (f := 39) rfl ?_); refine goesL_ (some 35) rfl rfl Try.func39 (by kernel_rfl) rfl #[.pointer (some ⟨g, 0, none⟩)] rfl (by (try simp only [List.map_toArray, List.map_cons, List.map_nil]); first | done | rfl | (simp only [List.length_drop, List.length_take]; rfl)) ?_; (with_reducible refine (vint_Source_Fail.calls g t363 t364 t366 t367 w0 _ ?side1 ?side2 A43.out).mono ?_); (case side1 => repeat (first | (with_reducible first | exact HI0.out | apply IsS93.alloc | apply IsS93.drewN | apply IsS93.drew | apply IsS93.set_0 | apply IsS93.set_1 | apply IsS93.far (p := ⟨gb340, _, none⟩) (hne := NB0_340.out) | apply IsS93.far (p := ⟨gb347, _, none⟩) (hne := NB0_347.out)) | exact HI0.out)); (case side2 => repeat (first | (with_reducible first | exact HB.out | apply ba_ | apply bn_ | apply bd_ | refine bs_ ?_ (IsS93.ge HI0.out) | refine bs_ ?_ GE340.out | refine bs_ ?_ GE347.out) | exact HB.out)); rintro e w49 ⟨rfl, hi, hb, hk⟩; refine ⟨_, rfl, ?_⟩; have n0_ := A_ (KeepBut.blk hk (g' := gb340) (o := .cells #[.int .i64 0, .int .i64 0, .bool false, .int .i64 0, .string (⟨#[]⟩ : ByteArray), .bool false, .int .i64 0, .string (⟨#[]⟩ : ByteArray)] 25 (0, 0)) (by (with_reducible repeat (first | refine kn_ ?_ _ | refine kd_ ?_ | refine ka_ ?_ _)); exact BK340.out) NB340_0.out (by simp)); have n1_ := A_ (KeepBut.blk hk (g' := gb347) (o := .cells #[.int .i64 t341, .int .i64 t344, .bool x348002_21, .int .i64 x348003_21, .string x348004_21, .bool x348005_21, .int .i64 x348006_21, .string x348007_21] 25 (0, 0)) (by (with_reducible repeat (first | refine kn_ ?_ _ | refine kd_ ?_ | refine ka_ ?_ _)); exact BK347.out) NB347_0.out (by simp)); have n2_ := A_ (KeepBut.trans (by repeat (first | (with_reducible first | exact HK.out | apply KeepBut.set_ | apply keep_drewN | apply keep_drew | apply keep_alloc | refine keep_far ?_ GW340.out _ | refine keep_far ?_ GW347.out _) | exact HK.out)) hk (.inl rfl)); have n3_ := A_ (hb); have n4_ := A_ (hi); clear BK340; clear BK347; clear HK; clear HB; clear HI0; have BK340 := n0_; have BK347 := n1_; have HK := n2_; have HB := n3_; have HI0 := n4_; clear n0_ n1_ n2_ n3_ n4_; (try clear hb); (try clear hb2); (try clear hk); (try clear hi); have hnb50 := NB340_0.out; have hnc50 := NB0_340.out; have hcz51_0 : w49.cell? ⟨gb340, 0, none⟩ = some (.int .i64 0) := (bc_ BK340.out 0).trans rfl; have hcz51_1 : w49.cell? ⟨gb340, 1, none⟩ = some (.int .i64 0) := (bc_ BK340.out 1).trans rfl; have hcz51_2 : w49.cell? ⟨gb340, 2, none⟩ = some (.bool false) := (bc_ BK340.out 2).trans rfl; have hcz51_3 : w49.cell? ⟨gb340, 3, none⟩ = some (.int .i64 0) := (bc_ BK340.out 3).trans rfl; have hcz51_4 : w49.cell? ⟨gb340, 4, none⟩ = some (.string (⟨#[]⟩ : ByteArray)) := (bc_ BK340.out 4).trans rfl; have hcz51_5 : w49.cell? ⟨gb340, 5, none⟩ = some (.bool false) := (bc_ BK340.out 5).trans rfl; have hcz51_6 : w49.cell? ⟨gb340, 6, none⟩ = some (.int .i64 0) := (bc_ BK340.out 6).trans rfl; have hcz51_7 : w49.cell? ⟨gb340, 7, none⟩ = some (.string (⟨#[]⟩ : ByteArray)) := (bc_ BK340.out 7).trans rfl; have hfz51_0 := bf_ BK340.out 0; have hfz51_1 := bf_ BK340.out 1; have hfz51_2 := bf_ BK340.out 2; have hfz51_3 := bf_ BK340.out 3; have hfz51_4 := bf_ BK340.out 4; have hfz51_5 := bf_ BK340.out 5; have hfz51_6 := bf_ BK340.out 6; have hfz51_7 := bf_ BK340.out 7))
       refine bodyPost_ret (results_cell_row rfl _ _ gb340 25 #[.int .i64 0, .int .i64 0, .bool false, .int .i64 0, .string (⟨#[]⟩ : ByteArray), .bool false, .int .i64 0, .string (⟨#[]⟩ : ByteArray)] (0, 0) _ rfl (by (with_reducible repeat (first | refine kn_ ?_ _ | refine kd_ ?_ | refine ka_ ?_ _)); refine blk_put (cs := #[.int .i64 0, .int .i64 0, .bool false, .int .i64 0, .string (⟨#[]⟩ : ByteArray), .bool false, .int .i64 0, .string (⟨#[]⟩ : ByteArray)]) ?_ 7 _ rfl; (with_reducible repeat (first | refine kn_ ?_ _ | refine kd_ ?_ | refine ka_ ?_ _)); refine blk_put (cs := #[.int .i64 0, .int .i64 0, .bool false, .int .i64 0, .string (⟨#[]⟩ : ByteArray), .bool false, .int .i64 0, .string (⟨#[]⟩ : ByteArray)]) ?_ 6 _ rfl; (with_reducible repeat (first | refine kn_ ?_ _ | refine kd_ ?_ | refine ka_ ?_ _)); refine blk_put (cs := #[.int .i64 0, .int .i64 0, .bool false, .int .i64 0, .string (⟨#[]⟩ : ByteArray), .bool false, .int .i64 0, .string (⟨#[]⟩ : ByteArray)]) ?_ 5 _ rfl; (with_reducible repeat (first | refine kn_ ?_ _ | refine kd_ ?_ | refine ka_ ?_ _)); refine blk_put (cs := #[.int .i64 0, .int .i64 0, .bool false, .int .i64 0, .string (⟨#[]⟩ : ByteArray), .bool false, .int .i64 0, .string (⟨#[]⟩ : ByteArray)]) ?_ 4 _ rfl; (with_reducible repeat (first | refine kn_ ?_ _ | refine kd_ ?_ | refine ka_ ?_ _)); refine blk_put (cs := #[.int .i64 0, .int .i64 0, .bool false, .int .i64 0, .string (⟨#[]⟩ : ByteArray), .bool false, .int .i64 0, .string (⟨#[]⟩ : ByteArray)]) ?_ 3 _ rfl; (with_reducible repeat (first | refine kn_ ?_ _ | refine kd_ ?_ | refine ka_ ?_ _)); refine blk_put (cs := #[.int .i64 0, .int .i64 0, .bool false, .int .i64 0, .string (⟨#[]⟩ : ByteArray), .bool false, .int .i64 0, .string (⟨#[]⟩ : ByteArray)]) ?_ 2 _ rfl; (with_reducible repeat (first | refine kn_ ?_ _ | refine kd_ ?_ | refine ka_ ?_ _)); refine blk_put (cs := #[.int .i64 0, .int .i64 0, .bool false, .int .i64 0, .string (⟨#[]⟩ : ByteArray), .bool false, .int .i64 0, .string (⟨#[]⟩ : ByteArray)]) ?_ 1 _ rfl; (with_reducible repeat (first | refine kn_ ?_ _ | refine kd_ ?_ | refine ka_ ?_ _)); refine blk_put (cs := #[.int .i64 0, .int .i64 0, .bool false, .int .i64 0, .string (⟨#[]⟩ : ByteArray), .bool false, .int .i64 0, .string (⟨#[]⟩ : ByteArray)]) ?_ 0 _ rfl; (with_reducible repeat (first | refine kn_ ?_ _ | refine kd_ ?_ | refine ka_ ?_ _)); exact BK340.out) Try.underlying25 rfl (by kernel_rfl)) rfl ?_
       exact ⟨by first | rfl | (simp [errW_none, errW_some] <;> rfl) | (simp [*, errW_none, errW_some] <;> rfl), by repeat (first | (with_reducible first | exact HI0.out | apply IsS93.alloc | apply IsS93.drewN | apply IsS93.drew | apply IsS93.set_0 | apply IsS93.set_1 | apply IsS93.far (p := ⟨gb340, _, none⟩) (hne := NB0_340.out) | apply IsS93.far (p := ⟨gb347, _, none⟩) (hne := NB0_347.out)) | exact HI0.out), by repeat (first | (with_reducible first | exact HB.out | apply ba_ | apply bn_ | apply bd_ | refine bs_ ?_ (IsS93.ge HI0.out) | refine bs_ ?_ GE340.out | refine bs_ ?_ GE347.out) | exact HB.out), by repeat (first | (with_reducible first | exact HK.out | apply KeepBut.set_ | apply keep_drewN | apply keep_drew | apply keep_alloc | refine keep_far ?_ GW340.out _ | refine keep_far ?_ GW347.out _) | exact HK.out)⟩
     ·replace c32 := Bool.eq_false_iff.mpr c32
      subst c32
      have H1 : ((vint_Source_Fail.f t363 t364).bind fun bt368 => (some (0, 0, false, 0, (⟨#[]⟩ : ByteArray), false, 0, (⟨#[]⟩ : ByteArray), bt368.1, bt368.2))) = some (r1, r2, r3, r4, r5, r6, r7, r8, r9, r10) := by rw [if_neg (show ¬ (false = true) by decide)] at H; exact H
      clear H
      have H := H1
      clear H1
      replace H := Option.bind_eq_some_iff.mp H
      obtain ⟨⟨t368, t369⟩, A520, H⟩ := H
      replace H : (some (0, 0, false, 0, (⟨#[]⟩ : ByteArray), false, 0, (⟨#[]⟩ : ByteArray), t368, t369)) = some (r1, r2, r3, r4, r5, r6, r7, r8, r9, r10) := H
      have A52 := A_ A520
      clear A520
      simp only [Option.some.injEq, Prod.mk.injEq] at H
      obtain ⟨rfl, rfl, rfl, rfl, rfl, rfl, rfl, rfl, rfl, rfl⟩ := H
      go_wp2_with (first | ((with_reducible refine gate_callee (f := 41) rfl ?_); refine goesL_ (some 26) rfl rfl Try.func41 (by kernel_rfl) rfl #[.pointer (some ⟨g, 0, none⟩)] rfl (by (try simp only [List.map_toArray, List.map_cons, List.map_nil]); first | done | rfl | (simp only [List.length_drop, List.length_take]; rfl)) ?_; (with_reducible refine (vint_Source_Ok.calls g x1000_21 x1001_21 false t363 t364 w0 _ ?side1 ?side2 A31.out).mono ?_); (case side1 => repeat (first | (with_reducible first | exact HI0.out | apply IsS93.alloc | apply IsS93.drewN | apply IsS93.drew | apply IsS93.set_0 | apply IsS93.set_1 | apply IsS93.far (p := ⟨gb340, _, none⟩) (hne := NB0_340.out) | apply IsS93.far (p := ⟨gb347, _, none⟩) (hne := NB0_347.out)) | exact HI0.out)); (case side2 => repeat (first | (with_reducible first | exact HB.out | apply ba_ | apply bn_ | apply bd_ | refine bs_ ?_ (IsS93.ge HI0.out) | refine bs_ ?_ GE340.out | refine bs_ ?_ GE347.out) | exact HB.out)); rintro e w53 ⟨rfl, hi, hb, hk⟩; refine ⟨_, rfl, ?_⟩; have n0_ := A_ (KeepBut.blk hk (g' := gb340) (o := .cells #[.int .i64 0, .int .i64 0, .bool false, .int .i64 0, .string (⟨#[]⟩ : ByteArray), .bool false, .int .i64 0, .string (⟨#[]⟩ : ByteArray)] 25 (0, 0)) (by (with_reducible repeat (first | refine kn_ ?_ _ | refine kd_ ?_ | refine ka_ ?_ _)); exact BK340.out) NB340_0.out (by simp)); have n1_ := A_ (KeepBut.blk hk (g' := gb347) (o := .cells #[.int .i64 t341, .int .i64 t344, .bool x348002_21, .int .i64 x348003_21, .string x348004_21, .bool x348005_21, .int .i64 x348006_21, .string x348007_21] 25 (0, 0)) (by (with_reducible repeat (first | refine kn_ ?_ _ | refine kd_ ?_ | refine ka_ ?_ _)); exact BK347.out) NB347_0.out (by simp)); have n2_ := A_ (KeepBut.trans (by repeat (first | (with_reducible first | exact HK.out | apply KeepBut.set_ | apply keep_drewN | apply keep_drew | apply keep_alloc | refine keep_far ?_ GW340.out _ | refine keep_far ?_ GW347.out _) | exact HK.out)) hk (.inl rfl)); have n3_ := A_ (hb); have n4_ := A_ (hi); clear BK340; clear BK347; clear HK; clear HB; clear HI0; have BK340 := n0_; have BK347 := n1_; have HK := n2_; have HB := n3_; have HI0 := n4_; clear n0_ n1_ n2_ n3_ n4_; (try clear hb); (try clear hb2); (try clear hk); (try clear hi)) | ((with_reducible refine gate_callee (f := 39) rfl ?_); refine goesL_ (some 35) rfl rfl Try.func39 (by kernel_rfl) rfl #[.pointer (some ⟨g, 0, none⟩)] rfl (by (try simp only [List.map_toArray, List.map_cons, List.map_nil]); first | done | rfl | (simp only [List.length_drop, List.length_take]; rfl)) ?_; (with_reducible refine (vint_Source_Fail.calls g t363 t364 t368 t369 w0 _ ?side1 ?side2 A52.out).mono ?_); (case side1 => repeat (first | (with_reducible first | exact HI0.out | apply IsS93.alloc | apply IsS93.drewN | apply IsS93.drew | apply IsS93.set_0 | apply IsS93.set_1 | apply IsS93.far (p := ⟨gb340, _, none⟩) (hne := NB0_340.out) | apply IsS93.far (p := ⟨gb347, _, none⟩) (hne := NB0_347.out)) | exact HI0.out)); (case side2 => repeat (first | (with_reducible first | exact HB.out | apply ba_ | apply bn_ | apply bd_ | refine bs_ ?_ (IsS93.ge HI0.out) | refine bs_ ?_ GE340.out | refine bs_ ?_ GE347.out) | exact HB.out)); rintro e w54 ⟨rfl, hi, hb, hk⟩; refine ⟨_, rfl, ?_⟩; have n0_ := A_ (KeepBut.blk hk (g' := gb340) (o := .cells #[.int .i64 0, .int .i64 0, .bool false, .int .i64 0, .string (⟨#[]⟩ : ByteArray), .bool false, .int .i64 0, .string (⟨#[]⟩ : ByteArray)] 25 (0, 0)) (by (with_reducible repeat (first | refine kn_ ?_ _ | refine kd_ ?_ | refine ka_ ?_ _)); exact BK340.out) NB340_0.out (by simp)); have n1_ := A_ (KeepBut.blk hk (g' := gb347) (o := .cells #[.int .i64 t341, .int .i64 t344, .bool x348002_21, .int .i64 x348003_21, .string x348004_21, .bool x348005_21, .int .i64 x348006_21, .string x348007_21] 25 (0, 0)) (by (with_reducible repeat (first | refine kn_ ?_ _ | refine kd_ ?_ | refine ka_ ?_ _)); exact BK347.out) NB347_0.out (by simp)); have n2_ := A_ (KeepBut.trans (by repeat (first | (with_reducible first | exact HK.out | apply KeepBut.set_ | apply keep_drewN | apply keep_drew | apply keep_alloc | refine keep_far ?_ GW340.out _ | refine keep_far ?_ GW347.out _) | exact HK.out)) hk (.inl rfl)); have n3_ := A_ (hb); have n4_ := A_ (hi); clear BK340; clear BK347; clear HK; clear HB; clear HI0; have BK340 := n0_; have BK347 := n1_; have HK := n2_; have HB := n3_; have HI0 := n4_; clear n0_ n1_ n2_ n3_ n4_; (try clear hb); (try clear hb2); (try clear hk); (try clear hi); have hnb55 := NB340_347.out; have hnc55 := NB347_340.out; have hnb56 := NB340_0.out; have hnc56 := NB0_340.out; have hcz57_0 : w54.cell? ⟨gb340, 0, none⟩ = some (.int .i64 0) := (bc_ BK340.out 0).trans rfl; have hcz57_1 : w54.cell? ⟨gb340, 1, none⟩ = some (.int .i64 0) := (bc_ BK340.out 1).trans rfl; have hcz57_2 : w54.cell? ⟨gb340, 2, none⟩ = some (.bool false) := (bc_ BK340.out 2).trans rfl; have hcz57_3 : w54.cell? ⟨gb340, 3, none⟩ = some (.int .i64 0) := (bc_ BK340.out 3).trans rfl; have hcz57_4 : w54.cell? ⟨gb340, 4, none⟩ = some (.string (⟨#[]⟩ : ByteArray)) := (bc_ BK340.out 4).trans rfl; have hcz57_5 : w54.cell? ⟨gb340, 5, none⟩ = some (.bool false) := (bc_ BK340.out 5).trans rfl; have hcz57_6 : w54.cell? ⟨gb340, 6, none⟩ = some (.int .i64 0) := (bc_ BK340.out 6).trans rfl; have hcz57_7 : w54.cell? ⟨gb340, 7, none⟩ = some (.string (⟨#[]⟩ : ByteArray)) := (bc_ BK340.out 7).trans rfl; have hfz57_0 := bf_ BK340.out 0; have hfz57_1 := bf_ BK340.out 1; have hfz57_2 := bf_ BK340.out 2; have hfz57_3 := bf_ BK340.out 3; have hfz57_4 := bf_ BK340.out 4; have hfz57_5 := bf_ BK340.out 5; have hfz57_6 := bf_ BK340.out 6; have hfz57_7 := bf_ BK340.out 7))
      refine bodyPost_ret (results_cell_row rfl _ _ gb340 25 #[.int .i64 0, .int .i64 0, .bool false, .int .i64 0, .string (⟨#[]⟩ : ByteArray), .bool false, .int .i64 0, .string (⟨#[]⟩ : ByteArray)] (0, 0) _ rfl (by (with_reducible repeat (first | refine kn_ ?_ _ | refine kd_ ?_ | refine ka_ ?_ _)); refine blk_put (cs := #[.int .i64 0, .int .i64 0, .bool false, .int .i64 0, .string (⟨#[]⟩ : ByteArray), .bool false, .int .i64 0, .string (⟨#[]⟩ : ByteArray)]) ?_ 7 _ rfl; (with_reducible repeat (first | refine kn_ ?_ _ | refine kd_ ?_ | refine ka_ ?_ _)); refine blk_put (cs := #[.int .i64 0, .int .i64 0, .bool false, .int .i64 0, .string (⟨#[]⟩ : ByteArray), .bool false, .int .i64 0, .string (⟨#[]⟩ : ByteArray)]) ?_ 6 _ rfl; (with_reducible repeat (first | refine kn_ ?_ _ | refine kd_ ?_ | refine ka_ ?_ _)); refine blk_put (cs := #[.int .i64 0, .int .i64 0, .bool false, .int .i64 0, .string (⟨#[]⟩ : ByteArray), .bool false, .int .i64 0, .string (⟨#[]⟩ : ByteArray)]) ?_ 5 _ rfl; (with_reducible repeat (first | refine kn_ ?_ _ | refine kd_ ?_ | refine ka_ ?_ _)); refine blk_put (cs := #[.int .i64 0, .int .i64 0, .bool false, .int .i64 0, .string (⟨#[]⟩ : ByteArray), .bool false, .int .i64 0, .string (⟨#[]⟩ : ByteArray)]) ?_ 4 _ rfl; (with_reducible repeat (first | refine kn_ ?_ _ | refine kd_ ?_ | refine ka_ ?_ _)); refine blk_put (cs := #[.int .i64 0, .int .i64 0, .bool false, .int .i64 0, .string (⟨#[]⟩ : ByteArray), .bool false, .int .i64 0, .string (⟨#[]⟩ : ByteArray)]) ?_ 3 _ rfl; (with_reducible repeat (first | refine kn_ ?_ _ | refine kd_ ?_ | refine ka_ ?_ _)); refine blk_put (cs := #[.int .i64 0, .int .i64 0, .bool false, .int .i64 0, .string (⟨#[]⟩ : ByteArray), .bool false, .int .i64 0, .string (⟨#[]⟩ : ByteArray)]) ?_ 2 _ rfl; (with_reducible repeat (first | refine kn_ ?_ _ | refine kd_ ?_ | refine ka_ ?_ _)); refine blk_put (cs := #[.int .i64 0, .int .i64 0, .bool false, .int .i64 0, .string (⟨#[]⟩ : ByteArray), .bool false, .int .i64 0, .string (⟨#[]⟩ : ByteArray)]) ?_ 1 _ rfl; (with_reducible repeat (first | refine kn_ ?_ _ | refine kd_ ?_ | refine ka_ ?_ _)); refine blk_put (cs := #[.int .i64 0, .int .i64 0, .bool false, .int .i64 0, .string (⟨#[]⟩ : ByteArray), .bool false, .int .i64 0, .string (⟨#[]⟩ : ByteArray)]) ?_ 0 _ rfl; (with_reducible repeat (first | refine kn_ ?_ _ | refine kd_ ?_ | refine ka_ ?_ _)); exact BK340.out) Try.underlying25 rfl (by kernel_rfl)) rfl ?_
      exact ⟨by first | rfl | (simp [errW_none, errW_some] <;> rfl) | (simp [*, errW_none, errW_some] <;> rfl), by repeat (first | (with_reducible first | exact HI0.out | apply IsS93.alloc | apply IsS93.drewN | apply IsS93.drew | apply IsS93.set_0 | apply IsS93.set_1 | apply IsS93.far (p := ⟨gb340, _, none⟩) (hne := NB0_340.out) | apply IsS93.far (p := ⟨gb347, _, none⟩) (hne := NB0_347.out)) | exact HI0.out), by repeat (first | (with_reducible first | exact HB.out | apply ba_ | apply bn_ | apply bd_ | refine bs_ ?_ (IsS93.ge HI0.out) | refine bs_ ?_ GE340.out | refine bs_ ?_ GE347.out) | exact HB.out), by repeat (first | (with_reducible first | exact HK.out | apply KeepBut.set_ | apply keep_drewN | apply keep_drew | apply keep_alloc | refine keep_far ?_ GW340.out _ | refine keep_far ?_ GW347.out _) | exact HK.out)⟩

end Go.Proofs.Ytkdlfejokahohaa.X
/- The contract of (*firkinref01.S).Fail: it failed, and has nothing left. -/
namespace Go.Proofs.Ytkdlfejokahohaa.X
open Go.RowKit Go.Proofs.YtkdlfejokahohaaW.PrintWords Go.Proofs.YtkdlfejokahohaaW.PrintLast Go.Proofs.YtkdlfejokahohaaW.PrintMore
set_option linter.unusedVariables false
set_option linter.unusedSimpArgs false
def firkinref01_S_Fail.f (l : List Int) (bad : Bool) : Option (List Int × Bool) := some ([], true)
set_option maxHeartbeats 8000000 in
set_option maxRecDepth 100000 in
theorem firkinref01_S_Fail.calls (g : Nat) (s0_0 : List Int) (s0_1 : Bool) (r1 : List Int) (r2 : Bool) (w0 w : World) (hI : IsS45 w0 w g s0_0 s0_1) (hB : Below w0.heap.size w0 w) (h : firkinref01_S_Fail.f s0_0 s0_1 = some (r1, r2)) :
  Calls Try.prog 40 #[.pointer (some ⟨g, 0, none⟩)] w fun e w' => e = .returned (.tuple #[]) ∧ IsS45 w0 w' g r1 r2 ∧ Below w0.heap.size w0 w' ∧ KeepBut w w' g none := by
 obtain ⟨rfl, rfl⟩ : [] = r1 ∧ true = r2 := by unfold firkinref01_S_Fail.f at h; injection h with h; injection h with h1 h2; exact ⟨h1, h2⟩
 clear h
 obtain ⟨A0, c0, hb, hg, hr⟩ := hI
 have h0 : w.cell? ⟨g, 0, none⟩ = some (.slice A0 s0_0.length c0) := (blk_cell hb 0).trans rfl
 have h1 : w.cell? ⟨g, 1, none⟩ = some (.bool s0_1) := (blk_cell hb 1).trans rfl
 have f0 := blk_frozen hb 0
 have f1 := blk_frozen hb 1
 have hu := Try.underlying45
 have HB := Aside0.mk hb
 clear hb
 go_enter Try.func40, Try.ntmps40
 go_wp2
 go_end0
 have h2 := blk_set (blk_set HB.out 1 (.bool true)) 0 (.slice none 0 0)
 refine ⟨rfl, ⟨none, 0, by simpa using h2, hg, Kd.C_nil _ _, Nat.le_refl _⟩, below_set (below_set hB hg) hg, ?_⟩
 exact KeepBut.set_ (KeepBut.set_ (KeepBut.refl _ _ _) 1 _) 0 _
end Go.Proofs.Ytkdlfejokahohaa.X
/- The contract of (*firkinref01.S).Num: the number that the bytes begin with, and what is left behind it; or it failed. -/
namespace Go.Proofs.Ytkdlfejokahohaa.X
open Go.RowKit Go.Proofs.YtkdlfejokahohaaW.PrintWords Go.Proofs.YtkdlfejokahohaaW.PrintLast Go.Proofs.YtkdlfejokahohaaW.PrintMore
set_option linter.unusedVariables false
set_option linter.unusedSimpArgs false
open Go.Proofs.Ytkdlfejokahohaa.Dec
def rnumS (l : List Int) (bad : Bool) : Int × List Int × Bool :=
  if szS 0 l = 0 then (0, [], true) else (((valS 0 (l.take (szS 0 l)) : Nat) : Int), l.drop (szS 0 l), bad)
def firkinref01_S_Num.f (l : List Int) (bad : Bool) : Option (Int × List Int × Bool) := if Fit l then some (rnumS l bad) else none
/-- One more byte is put to the number. -/
theorem radd_step {l : List Int} (hb : IsBytes l) {j : Nat} (hj : j < l.length) (hv : valS 0 (l.take (j + 1)) < 18446744073709551616) {c : Int} (hc : l.getD j 0 = c) :
    IntKind.u64.wrap (((valS 0 (l.take j) : Nat) : Int) + IntKind.u64.wrap (c % 128 * 2 ^ (7 * j))) = ((valS 0 (l.take (j + 1)) : Nat) : Int) := by
  have hcb := hb.get j
  rw [valS_take hj] at hv ⊢
  rw [hc] at hcb hv ⊢
  have e : c % 128 = ((c.toNat % 128 : Nat) : Int) := by omega
  rw [e]
  generalize c.toNat % 128 = m at hv ⊢
  generalize valS 0 (l.take j) = v at hv ⊢
  have hcast : (m : Int) * 2 ^ (7 * j) = ((m * 2 ^ (7 * j) : Nat) : Int) := by simp
  rw [hcast, IntKind.wrap_u64, IntKind.wrap_u64]
  generalize m * 2 ^ (7 * j) = x at hv ⊢
  omega
theorem val_small (l : List Int) {j : Nat} (hj : j ≤ 8) : valS 0 (l.take (j + 1)) < 18446744073709551616 := by
  have h := valS_lt (l.take (j + 1)) 0
  have hl : (l.take (j + 1)).length ≤ 9 := by rw [List.length_take]; omega
  have h2 : 2 ^ (7 * (0 + (l.take (j + 1)).length)) ≤ 2 ^ 63 := Nat.pow_le_pow_right (by decide) (by omega)
  exact Nat.lt_of_lt_of_le h (Nat.le_trans h2 (by decide))
set_option maxHeartbeats 8000000 in
set_option maxRecDepth 100000 in
theorem firkinref01_S_Num.calls (g : Nat) (s0_0 : List Int) (s0_1 : Bool) (r1 : Int) (r2 : List Int) (r3 : Bool) (w0 w : World) (hI : IsS45 w0 w g s0_0 s0_1) (hB : Below w0.heap.size w0 w) (h : firkinref01_S_Num.f s0_0 s0_1 = some (r1, r2, r3)) :
    Calls Try.prog 30 #[.pointer (some ⟨g, 0, none⟩)] w fun e w' => e = .returned (.int .u64 r1) ∧ IsS45 w0 w' g r2 r3 ∧ Below w0.heap.size w0 w' ∧ KeepBut w w' g none := by
  unfold firkinref01_S_Num.f at h
  by_cases hf : Fit s0_0
  case neg => rw [if_neg hf] at h; cases h
  rw [if_pos hf] at h
  have h := Option.some.inj h
  unfold rnumS at h
  have hu := Try.underlying45
  have HSTEP := Lib.hid (fun (j : Nat) (c : Int) => radd_step hf.1 (j := j) (c := c))
  have hle := szS_le s0_0 0 (by decide)
  have hlen := hf.2
  have HI := Aside0.mk hI
  have HH := Aside0.mk h
  have HF := Aside0.mk hf.1
  clear h
  obtain ⟨A1, c1, hb1, hg1, hr1, hc1⟩ := hI
  have h0 : w.cell? ⟨g, 0, none⟩ = some (.slice A1 s0_0.length c1) := (blk_cell hb1 0).trans rfl
  have HB1 := Aside0.mk hb1
  clear hb1
  go_enter Try.func30, Try.ntmps30
  go_wp2_with fail
  go_loop [3, 4] (fun n i => ∃ j : Nat, j ≤ 9 ∧ j ≤ s0_0.length ∧ Aside0 (szS 0 s0_0 = szS j (s0_0.drop j)) ∧ i = .int .i64 (j : Int) ∧ n = .int .u64 ((valS 0 (s0_0.take j) : Nat) : Int)) (fun _ i => 10 - (intOf i).toNat)
  case atStart => exact ⟨0, Nat.zero_le _, Nat.zero_le _, ⟨by rw [List.drop_zero]⟩, rfl, rfl⟩
  case round =>
    obtain ⟨j, hj9, hjl, HINV, rfl, rfl⟩ := hrel
    have hb10 : decide ((j : Int) < 10) = true := decide_eq_true (by omega)
    by_cases hlt : j < s0_0.length
    · have hrw := Kd.C_below hr1 hB
      obtain ⟨ad, ead, hcell⟩ := Kd.at_int hrw (j : Int) (by omega) (by omega)
      subst ead
      have hcb := hf.1.get j
      have hinv := HINV.out
      rw [drop_get hlt] at hinv
      have hcell2 : w.cell? (ad.add j) = some (.int .u8 (s0_0.getD j 0)) := hcell
      clear hcell hrw
      obtain ⟨c, hcd⟩ : ∃ c, s0_0.getD j 0 = c := ⟨_, rfl⟩
      rw [hcd] at hcb hinv hcell2
      have HCD := Lib.hid hcd
      clear hcd
      have hcw : IntKind.u64.wrap c = c := by rw [IntKind.wrap_u64]; omega
      have hbl : decide ((j : Int) < (s0_0.length : Int)) = true := decide_eq_true (by omega)
      have hbl2 : decide (j < s0_0.length) = true := decide_eq_true hlt
      rw [szS] at hinv
      obtain ⟨b9, b1, b0, bz, h9, h1, h0', hz, hbrk⟩ : ∃ b9 b1 b0 bz : Bool, ((j : Int) == 9) = b9 ∧ decide (1 < c) = b1 ∧ decide (0 < (j : Int)) = b0 ∧ (c == 0) = bz ∧ (((b9 && b1) || (b0 && bz)) = true ↔ ((j = 9 ∧ 1 < c) ∨ (0 < j ∧ c = 0))) :=
        ⟨_, _, _, _, rfl, rfl, rfl, rfl, by
          simp only [Bool.or_eq_true, Bool.and_eq_true, beq_iff_eq, decide_eq_true_eq]; omega⟩
      have h0n : decide (0 < j) = b0 := by rw [← h0']; simp
      have h9n : (j == 9) = b9 := by rw [← h9]; rw [Bool.eq_iff_iff]; simp only [beq_iff_eq]; omega
      by_cases hA : (j = 9 ∧ 1 < c) ∨ (0 < j ∧ c = 0)
      · rw [if_pos hA] at hinv
        have hbrk := hbrk.mpr hA
        have HV := Lib.hid hinv
        clear hinv hA
        cases b9 <;> cases b1 <;> cases b0 <;> cases bz <;> first
          | (exact absurd hbrk (by decide))
          | (clear hbrk
             go_wp2_with fail
             refine (firkinref01_S_Fail.calls g s0_0 s0_1 [] true w0 _ HI.out hB rfl).mono ?_
             rintro e w2 ⟨rfl, hI2, hB2, hK2⟩
             have h := HH.out
             rw [HV.out, if_pos rfl] at h
             simp only [Prod.mk.injEq] at h
             obtain ⟨rfl, rfl, rfl⟩ := h
             go_wp2_with fail
             go_ret
             exact ⟨rfl, hI2, hB2, hK2⟩)
      · rw [if_neg hA] at hinv
        have hbrk := Bool.eq_false_iff.mpr (fun hh => hA (hbrk.mp hh))
        by_cases hc : c < 128
        · rw [if_pos hc] at hinv
          have hcb2 : decide (c < 128) = true := decide_eq_true hc
          have hst := HSTEP.out j c hlt (by rw [← hinv]; exact val_lt hf.1 (Nat.le_refl _)) HCD.out
          have HST := Lib.hid hst
          have f0 := blk_frozen HB1.out 0
          have HD := Lib.hid (Kd.C_drop (m := j + 1) hr1 (by omega) hc1)
          have HL := Lib.hid (show (s0_0.drop (j + 1)).length = s0_0.length - (j + 1) from List.length_drop)
          have HV := Lib.hid hinv
          clear hst hinv hA
          by_cases hcj : c1 = j + 1
          · subst hcj
            have hl0 : s0_0.length - (j + 1) = 0 := by omega
            have HL0 := Lib.hid hl0
            clear hl0
            cases b9 <;> cases b1 <;> cases b0 <;> cases bz <;> first
              | (exact absurd hbrk (by decide))
              | (clear hbrk
                 go_wp2_with fail
                 go_ret
                 have h := HH.out
                 rw [HV.out, if_neg (by omega)] at h
                 simp only [Prod.mk.injEq] at h
                 obtain ⟨rfl, rfl, rfl⟩ := h
                 refine ⟨by rw [HST.out]; rfl, ⟨some ad, 0, ?_, hg1, ?_, ?_⟩, below_set hB hg1, KeepBut.set_ (KeepBut.refl _ _ _) 0 _⟩
                 · have h2 := blk_set HB1.out 0 (.slice (some ad) 0 0)
                   have e : (s0_0.drop (j + 1)).length = 0 := by rw [HL.out]; exact HL0.out
                   first | rw [e, HL0.out] | rw [e]
                   simpa using h2
                 · have := HD.out
                   simp only [if_true] at this
                   exact this
                 · rw [HL.out]; omega)
          · cases b9 <;> cases b1 <;> cases b0 <;> cases bz <;> first
              | (exact absurd hbrk (by decide))
              | (clear hbrk
                 go_wp2_with fail
                 go_ret
                 have h := HH.out
                 rw [HV.out, if_neg (by omega)] at h
                 simp only [Prod.mk.injEq] at h
                 obtain ⟨rfl, rfl, rfl⟩ := h
                 refine ⟨by rw [HST.out]; rfl, ⟨some (ad.add (j + 1)), c1 - (j + 1), ?_, hg1, ?_, ?_⟩, below_set hB hg1, KeepBut.set_ (KeepBut.refl _ _ _) 0 _⟩
                 · have h2 := blk_set HB1.out 0 (.slice (some (ad.add (j + 1))) (s0_0.length - (j + 1)) (c1 - (j + 1)))
                   rw [← HL.out] at h2
                   rw [← HL.out]
                   simp at h2
                   first | exact h2 | (simp; exact h2)
                 · have := HD.out
                   rw [if_neg hcj] at this
                   have e : (Kd.int .u8).sz = 1 := rfl
                   rw [e, Nat.mul_one] at this
                   exact this
                 · rw [HL.out]; omega)
        · have hj9' : j ≠ 9 := by rintro rfl; omega
          have hcb2 : decide (c < 128) = false := decide_eq_false hc
          rw [if_neg hc, if_neg hj9'] at hinv
          have HV := Lib.hid hinv
          clear hinv hA
          have HST := Lib.hid (HSTEP.out j c hlt (val_small _ (by omega)) HCD.out)
          cases b9 <;> cases b1 <;> cases b0 <;> cases bz <;> first
            | (exact absurd hbrk (by decide))
            | (clear hbrk
               go_wp2_with fail
               go_round
               case rel => exact ⟨j + 1, by omega, by omega, ⟨HV.out⟩, by go_num, by rw [HST.out]⟩
               case measure => simp [intOf]; omega)
    · have hbl : decide ((j : Int) < (s0_0.length : Int)) = false := decide_eq_false (by omega)
      have hbl2 : decide (j < s0_0.length) = false := decide_eq_false hlt
      have hinv := HINV.out
      rw [List.drop_eq_nil_of_le (by omega), szS] at hinv
      have HV := Lib.hid hinv
      clear hinv
      go_wp2_with fail
      refine (firkinref01_S_Fail.calls g s0_0 s0_1 [] true w0 _ HI.out hB rfl).mono ?_
      rintro e w2 ⟨rfl, hI2, hB2, hK2⟩
      have h := HH.out
      rw [HV.out, if_pos rfl] at h
      simp only [Prod.mk.injEq] at h
      obtain ⟨rfl, rfl, rfl⟩ := h
      go_wp2_with fail
      go_ret
      exact ⟨rfl, hI2, hB2, hK2⟩
end Go.Proofs.Ytkdlfejokahohaa.X
