/- ZoneBytes: for every input the call returns true, and each argument reads behind the call as it read before it. No condition. (Part 7 of 10: this session's texts, laid together by wip/merge.py.) -/
import Derived.Test.YtkdlfejokahohaaX0
import Derived.Test.YtkdlfejokahohaaMem
import Derived.Test.YtkdlfejokahohaaMZoneBytes0
import Derived.Test.YtkdlfejokahohaaMZoneBytes2
import Derived.Test.YtkdlfejokahohaaMZoneBytes4
import Derived.Test.YtkdlfejokahohaaMZoneBytes5
set_option maxHeartbeats 8000000
set_option maxRecDepth 100000
namespace Go.Proofs.Ytkdlfejokahohaa.X
open Go.RowKit Go.Proofs.YtkdlfejokahohaaW.PrintWords Go.Proofs.YtkdlfejokahohaaW.PrintLast Go.Proofs.YtkdlfejokahohaaW.PrintMore
attribute [local go_sem] max2_int min2_int max_two min_two max_three min_three max_four min_four   -- for this text's walks alone
set_option linter.unusedVariables false
open List (setIfInBounds_toArray set_cons_zero set_cons_succ)
set_option linter.unusedSimpArgs false

mutual
def firkinref11_Take.j0 : Nat → Int → Bool → List Int → Bool → Int → Int → Bool → Int → ByteArray → Bool → Int → ByteArray → Option (Int × Int × Bool × Int × ByteArray × Bool × Int × ByteArray × List Int × Bool)
 | 0, _, _, _, _, _, _, _, _, _, _, _, _ => none
 | k + 1, x1, x23, x1000, x1001, x415000, x415001, x415002, x415003, x415004, x415005, x415006, x415007 => if x23 = true then ((firkinref09_Take.f k x1000 x1001 x1).bind fun bt418 => ((firkinref09_Take.f k bt418.2.2.2.1 bt418.2.2.2.2 x1).bind fun bt423 => (firkinref11_Take.j1 k x1 bt423.2.2.2.1 bt423.2.2.2.2 x415000 x415001 bt418.1 bt418.2.1 bt418.2.2.1 bt423.1 bt423.2.1 bt423.2.2.1))) else (firkinref11_Take.j1 k x1 x1000 x1001 x415000 x415001 x415002 x415003 x415004 x415005 x415006 x415007)
def firkinref11_Take.j1 : Nat → Int → List Int → Bool → Int → Int → Bool → Int → ByteArray → Bool → Int → ByteArray → Option (Int × Int × Bool × Int × ByteArray × Bool × Int × ByteArray × List Int × Bool)
 | 0, _, _, _, _, _, _, _, _, _, _, _ => none
 | k + 1, x1, x1000, x1001, x415000, x415001, x415002, x415003, x415004, x415005, x415006, x415007 => if x1001 = true then ((firkinref01_S_Fail.f x1000 x1001).bind fun bt428 => (some (0, 0, false, 0, (⟨#[]⟩ : ByteArray), false, 0, (⟨#[]⟩ : ByteArray), bt428.1, bt428.2))) else ((firkinref11_May.f k x1 x415000 x415001 x415002 x415003 x415004 x415005 x415006 x415007).bind fun t430 => (if t430 = true then (some (x415000, x415001, x415002, x415003, x415004, x415005, x415006, x415007, x1000, x1001)) else ((firkinref01_S_Fail.f x1000 x1001).bind fun bt431 => (some (0, 0, false, 0, (⟨#[]⟩ : ByteArray), false, 0, (⟨#[]⟩ : ByteArray), bt431.1, bt431.2)))))
end
def firkinref11_Take.f (k : Nat) (s0_0 : List Int) (s0_1 : Bool) (a1 : Int) : Option (Int × Int × Bool × Int × ByteArray × Bool × Int × ByteArray × List Int × Bool) := (firkinref01_S_Below.f s0_0 s0_1 4097).bind fun bt411 => ((firkinref01_S_Below.f bt411.2.1 bt411.2.2 4097).bind fun bt415 => (if bt415.2.2 = true then (firkinref11_Take.j0 k a1 false bt415.2.1 bt415.2.2 bt411.1 bt415.1 false 0 (⟨#[]⟩ : ByteArray) false 0 (⟨#[]⟩ : ByteArray)) else (firkinref11_Take.j0 k a1 (decide (bt411.1 > bt415.1)) bt415.2.1 bt415.2.2 bt411.1 bt415.1 false 0 (⟨#[]⟩ : ByteArray) false 0 (⟨#[]⟩ : ByteArray))))
theorem firkinref11_Take.mono_l : ∀ k, (∀ y0 y1 y2 y3 y4 y5 y6 y7 y8 y9 y10 y11, LeO (firkinref11_Take.j0 k y0 y1 y2 y3 y4 y5 y6 y7 y8 y9 y10 y11) (firkinref11_Take.j0 (k + 1) y0 y1 y2 y3 y4 y5 y6 y7 y8 y9 y10 y11)) ∧ (∀ y0 y1 y2 y3 y4 y5 y6 y7 y8 y9 y10, LeO (firkinref11_Take.j1 k y0 y1 y2 y3 y4 y5 y6 y7 y8 y9 y10) (firkinref11_Take.j1 (k + 1) y0 y1 y2 y3 y4 y5 y6 y7 y8 y9 y10))
 | 0 => ⟨fun _ _ _ _ _ _ _ _ _ _ _ _ r h => by simp [firkinref11_Take.j0] at h, fun _ _ _ _ _ _ _ _ _ _ _ r h => by simp [firkinref11_Take.j1] at h⟩
 | k + 1 => by
  obtain ⟨ih0, ih1⟩ := firkinref11_Take.mono_l k
  refine ⟨?_, ?_⟩
  ·intro y0 y1 y2 y3 y4 y5 y6 y7 y8 y9 y10 y11
   unfold firkinref11_Take.j0
   repeat' first
   | (with_reducible exact ih0 _ _ _ _ _ _ _ _ _ _ _ _)
   | (with_reducible exact ih1 _ _ _ _ _ _ _ _ _ _ _)
   | (with_reducible exact firkinref09_Take.mono _ _ _ _)
   | (with_reducible exact firkinref11_May.mono _ _ _ _ _ _ _ _ _ _)
   | (with_reducible exact LeO.refl _)
   | (with_reducible exact LeO.none _)
   | (with_reducible refine LeO.ite ?_ ?_)
   | (with_reducible refine LeO.bind ?_ (fun _ => ?_))
   | exact ih0 _ _ _ _ _ _ _ _ _ _ _ _
   | exact ih1 _ _ _ _ _ _ _ _ _ _ _
   | exact firkinref09_Take.mono _ _ _ _
   | exact firkinref11_May.mono _ _ _ _ _ _ _ _ _ _
   | exact LeO.none _
   | refine LeO.ite ?_ ?_
   | refine LeO.bind ?_ (fun _ => ?_)
  ·intro y0 y1 y2 y3 y4 y5 y6 y7 y8 y9 y10
   unfold firkinref11_Take.j1
   repeat' first
   | (with_reducible exact ih0 _ _ _ _ _ _ _ _ _ _ _ _)
   | (with_reducible exact ih1 _ _ _ _ _ _ _ _ _ _ _)
   | (with_reducible exact firkinref09_Take.mono _ _ _ _)
   | (with_reducible exact firkinref11_May.mono _ _ _ _ _ _ _ _ _ _)
   | (with_reducible exact LeO.refl _)
   | (with_reducible exact LeO.none _)
   | (with_reducible refine LeO.ite ?_ ?_)
   | (with_reducible refine LeO.bind ?_ (fun _ => ?_))
   | exact ih0 _ _ _ _ _ _ _ _ _ _ _ _
   | exact ih1 _ _ _ _ _ _ _ _ _ _ _
   | exact firkinref09_Take.mono _ _ _ _
   | exact firkinref11_May.mono _ _ _ _ _ _ _ _ _ _
   | exact LeO.none _
   | refine LeO.ite ?_ ?_
   | refine LeO.bind ?_ (fun _ => ?_)
theorem firkinref11_Take.mono : ∀ a0 a1 a2 k, LeO (firkinref11_Take.f k a0 a1 a2) (firkinref11_Take.f (k + 1) a0 a1 a2) := by
 intro a0 a1 a2 k
 obtain ⟨ih0, ih1⟩ := firkinref11_Take.mono_l k
 unfold firkinref11_Take.f
 repeat' first
   | (with_reducible exact ih0 _ _ _ _ _ _ _ _ _ _ _ _)
   | (with_reducible exact ih1 _ _ _ _ _ _ _ _ _ _ _)
   | (with_reducible exact firkinref09_Take.mono _ _ _ _)
   | (with_reducible exact firkinref11_May.mono _ _ _ _ _ _ _ _ _ _)
   | (with_reducible exact LeO.refl _)
   | (with_reducible exact LeO.none _)
   | (with_reducible refine LeO.ite ?_ ?_)
   | (with_reducible refine LeO.bind ?_ (fun _ => ?_))
   | exact ih0 _ _ _ _ _ _ _ _ _ _ _ _
   | exact ih1 _ _ _ _ _ _ _ _ _ _ _
   | exact firkinref09_Take.mono _ _ _ _
   | exact firkinref11_May.mono _ _ _ _ _ _ _ _ _ _
   | exact LeO.none _
   | refine LeO.ite ?_ ?_
   | refine LeO.bind ?_ (fun _ => ?_)
theorem firkinref11_Take.calls (k : Nat) (g : Nat) (s0_0 : List Int) (s0_1 : Bool) (a1 : Int) (r1 : Int) (r2 : Int) (r3 : Bool) (r4 : Int) (r5 : ByteArray) (r6 : Bool) (r7 : Int) (r8 : ByteArray) (r9 : List Int) (r10 : Bool) (w0 w : World) (hI : IsS45 w0 w g s0_0 s0_1) (hB : Below w0.heap.size w0 w) (h : firkinref11_Take.f k s0_0 s0_1 a1 = some (r1, r2, r3, r4, r5, r6, r7, r8, r9, r10)) :
  Calls Try.prog 71 #[.pointer (some ⟨g, 0, none⟩), .int .i64 a1] w fun e w' => e = .returned (.agg #[.int .i64 r1, .int .i64 r2, .bool r3, .int .i64 r4, .string r5, .bool r6, .int .i64 r7, .string r8]) ∧ IsS45 w0 w' g r9 r10 ∧ Below w0.heap.size w0 w' ∧ KeepBut w w' g none := by
 have hu25 := Try.underlying25
 have hu23 := Try.underlying23
 have HI0 := A_ hI
 have HK := A_ (KeepBut.refl w g none)
 have HL := A_ hB.size
 clear hI
 have HW0 := A_ hB.size
 have HB := A_ hB
 clear hB
 have H : ((firkinref01_S_Below.f s0_0 s0_1 4097).bind fun bt411 => ((firkinref01_S_Below.f bt411.2.1 bt411.2.2 4097).bind fun bt415 => (if bt415.2.2 = true then (firkinref11_Take.j0 k a1 false bt415.2.1 bt415.2.2 bt411.1 bt415.1 false 0 (⟨#[]⟩ : ByteArray) false 0 (⟨#[]⟩ : ByteArray)) else (firkinref11_Take.j0 k a1 (decide (bt411.1 > bt415.1)) bt415.2.1 bt415.2.2 bt411.1 bt415.1 false 0 (⟨#[]⟩ : ByteArray) false 0 (⟨#[]⟩ : ByteArray))))) = some (r1, r2, r3, r4, r5, r6, r7, r8, r9, r10) := h
 clear h
 replace H := Option.bind_eq_some_iff.mp H
 obtain ⟨⟨t411, t412, t413⟩, A30, H⟩ := H
 replace H : ((firkinref01_S_Below.f t412 t413 4097).bind fun bt415 => (if bt415.2.2 = true then (firkinref11_Take.j0 k a1 false bt415.2.1 bt415.2.2 t411 bt415.1 false 0 (⟨#[]⟩ : ByteArray) false 0 (⟨#[]⟩ : ByteArray)) else (firkinref11_Take.j0 k a1 (decide (t411 > bt415.1)) bt415.2.1 bt415.2.2 t411 bt415.1 false 0 (⟨#[]⟩ : ByteArray) false 0 (⟨#[]⟩ : ByteArray)))) = some (r1, r2, r3, r4, r5, r6, r7, r8, r9, r10) := H
 have A3 := A_ A30
 clear A30
 replace H := Option.bind_eq_some_iff.mp H
 obtain ⟨⟨t415, t416, t417⟩, A40, H⟩ := H
 replace H : (if t417 = true then (firkinref11_Take.j0 k a1 false t416 t417 t411 t415 false 0 (⟨#[]⟩ : ByteArray) false 0 (⟨#[]⟩ : ByteArray)) else (firkinref11_Take.j0 k a1 (decide (t411 > t415)) t416 t417 t411 t415 false 0 (⟨#[]⟩ : ByteArray) false 0 (⟨#[]⟩ : ByteArray))) = some (r1, r2, r3, r4, r5, r6, r7, r8, r9, r10) := H
 have A4 := A_ A40
 clear A40
 have HC5 := A_ H
 clear H
 go_enter Try.func71, Try.ntmps71
 go_upto_region 3 with (first | ((with_reducible refine gate_dst (N := 4) rfl ?_); refine box_event ?hg (N := 4) ?hd (cs := #[.int .i64 0, .int .i64 0, .bool false, .int .i64 0, .string (⟨#[]⟩ : ByteArray), .bool false, .int .i64 0, .string (⟨#[]⟩ : ByteArray)]) (t := 25) ?hr ?_; (case hd => rfl); (case hg => rfl); (case hr => first | (go_simp; done) | (go_simp; rfl)); intro gb410 hg w6 hbox hb; have n0_ := A_ (IsS45.below (by repeat (first | (with_reducible first | exact HI0.out | apply IsS45.alloc | apply IsS45.drewN | apply IsS45.drew | apply IsS45.set_0 | apply IsS45.set_1) | exact HI0.out)) hb); have n1_ := A_ (KeepBut.trans (by repeat (first | (with_reducible first | exact HK.out | apply KeepBut.set_ | apply keep_drewN | apply keep_drew | apply keep_alloc) | exact HK.out)) (KeepBut.of_below hb g none) (.inl rfl)); have n2_ := A_ (bp_ (by repeat (first | (with_reducible first | exact HB.out | apply ba_ | apply bn_ | apply bd_ | refine bs_ ?_ (IsS45.ge HI0.out)) | exact HB.out)) hb); have n3_ := A_ (hbox); have n4_ := A_ ((by rw [hg]; exact (keep_size (w := w) (g := g) (row := none) (by repeat (first | (with_reducible first | exact HK.out | apply KeepBut.set_ | apply keep_drewN | apply keep_drew | apply keep_alloc) | exact HK.out))) : w.heap.size ≤ gb410)); have n5_ := A_ ((Nat.le_trans HW0.out (by rw [hg]; exact (keep_size (w := w) (g := g) (row := none) (by repeat (first | (with_reducible first | exact HK.out | apply KeepBut.set_ | apply keep_drewN | apply keep_drew | apply keep_alloc) | exact HK.out))) : w.heap.size ≤ gb410) : w0.heap.size ≤ gb410)); have n6_ := A_ ((by rw [hg]; exact Nat.ne_of_lt (IsS45.lt (show IsS45 w0 _ g s0_0 s0_1 from by repeat (first | (with_reducible first | exact HI0.out | apply IsS45.alloc | apply IsS45.drewN | apply IsS45.drew | apply IsS45.set_0 | apply IsS45.set_1) | exact HI0.out))) : g ≠ gb410)); have n7_ := A_ ((by rw [hg]; exact Nat.ne_of_gt (IsS45.lt (show IsS45 w0 _ g s0_0 s0_1 from by repeat (first | (with_reducible first | exact HI0.out | apply IsS45.alloc | apply IsS45.drewN | apply IsS45.drew | apply IsS45.set_0 | apply IsS45.set_1) | exact HI0.out))) : gb410 ≠ g)); clear HI0; clear HK; clear HB; have HI0 := n0_; have HK := n1_; have HB := n2_; have BK410 := n3_; have GW410 := n4_; have GE410 := n5_; have NB0_410 := n6_; have NB410_0 := n7_; clear n0_ n1_ n2_ n3_ n4_ n5_ n6_ n7_; clear hb hbox hg) | ((with_reducible refine gate_callee (f := 34) rfl ?_); refine goesL_ (some 7) rfl rfl Try.func34 (by kernel_rfl) rfl #[.pointer (some ⟨g, 0, none⟩), .int .i64 4097] rfl (by (try simp only [List.map_toArray, List.map_cons, List.map_nil]); first | done | rfl | (simp only [List.length_drop, List.length_take]; rfl)) ?_; (with_reducible refine (firkinref01_S_Below.calls g s0_0 s0_1 4097 t411 t412 t413 w0 _ ?side1 ?side2 A3.out).mono ?_); (case side1 => repeat (first | (with_reducible first | exact HI0.out | apply IsS45.alloc | apply IsS45.drewN | apply IsS45.drew | apply IsS45.set_0 | apply IsS45.set_1 | apply IsS45.far (p := ⟨gb410, _, none⟩) (hne := NB0_410.out)) | exact HI0.out)); (case side2 => repeat (first | (with_reducible first | exact HB.out | apply ba_ | apply bn_ | apply bd_ | refine bs_ ?_ (IsS45.ge HI0.out) | refine bs_ ?_ GE410.out) | exact HB.out)); rintro e w7 ⟨rfl, hi, hb, hk⟩; refine ⟨_, rfl, ?_⟩; have n0_ := A_ (KeepBut.blk hk (g' := gb410) (o := .cells #[.int .i64 0, .int .i64 0, .bool false, .int .i64 0, .string (⟨#[]⟩ : ByteArray), .bool false, .int .i64 0, .string (⟨#[]⟩ : ByteArray)] 25 (0, 0)) (by (with_reducible repeat (first | refine kn_ ?_ _ | refine kd_ ?_ | refine ka_ ?_ _)); exact BK410.out) NB410_0.out (by simp)); have n1_ := A_ (KeepBut.trans (by repeat (first | (with_reducible first | exact HK.out | apply KeepBut.set_ | apply keep_drewN | apply keep_drew | apply keep_alloc | refine keep_far ?_ GW410.out _) | exact HK.out)) hk (.inl rfl)); have n2_ := A_ (hb); have n3_ := A_ (hi); clear BK410; clear HK; clear HB; clear HI0; have BK410 := n0_; have HK := n1_; have HB := n2_; have HI0 := n3_; clear n0_ n1_ n2_ n3_; (try clear hb); (try clear hb2); (try clear hk); (try clear hi)) | ((with_reducible refine gate_dst (N := 5) rfl ?_); refine box_event ?hg (N := 5) ?hd (cs := #[.int .i64 0, .int .i64 0, .bool false, .int .i64 0, .string (⟨#[]⟩ : ByteArray), .bool false, .int .i64 0, .string (⟨#[]⟩ : ByteArray)]) (t := 25) ?hr ?_; (case hd => rfl); (case hg => rfl); (case hr => first | (go_simp; done) | (go_simp; rfl)); intro gb414 hg w8 hbox hb; have n0_ := A_ (IsS45.below (by repeat (first | (with_reducible first | exact HI0.out | apply IsS45.alloc | apply IsS45.drewN | apply IsS45.drew | apply IsS45.set_0 | apply IsS45.set_1 | apply IsS45.far (p := ⟨gb410, _, none⟩) (hne := NB0_410.out)) | exact HI0.out)) hb); have n1_ := A_ (blk_below (g := gb410) (o := .cells #[.int .i64 0, .int .i64 0, .bool false, .int .i64 0, .string (⟨#[]⟩ : ByteArray), .bool false, .int .i64 0, .string (⟨#[]⟩ : ByteArray)] 25 (0, 0)) (by (with_reducible repeat (first | refine kn_ ?_ _ | refine kd_ ?_ | refine ka_ ?_ _)); exact BK410.out) hb); have n2_ := A_ (KeepBut.trans (by repeat (first | (with_reducible first | exact HK.out | apply KeepBut.set_ | apply keep_drewN | apply keep_drew | apply keep_alloc | refine keep_far ?_ GW410.out _) | exact HK.out)) (KeepBut.of_below hb g none) (.inl rfl)); have n3_ := A_ (bp_ (by repeat (first | (with_reducible first | exact HB.out | apply ba_ | apply bn_ | apply bd_ | refine bs_ ?_ (IsS45.ge HI0.out) | refine bs_ ?_ GE410.out) | exact HB.out)) hb); have n4_ := A_ (hbox); have n5_ := A_ ((by rw [hg]; exact (keep_size (w := w) (g := g) (row := none) (by repeat (first | (with_reducible first | exact HK.out | apply KeepBut.set_ | apply keep_drewN | apply keep_drew | apply keep_alloc | refine keep_far ?_ GW410.out _) | exact HK.out))) : w.heap.size ≤ gb414)); have n6_ := A_ ((Nat.le_trans HW0.out (by rw [hg]; exact (keep_size (w := w) (g := g) (row := none) (by repeat (first | (with_reducible first | exact HK.out | apply KeepBut.set_ | apply keep_drewN | apply keep_drew | apply keep_alloc | refine keep_far ?_ GW410.out _) | exact HK.out))) : w.heap.size ≤ gb414) : w0.heap.size ≤ gb414)); have n7_ := A_ ((by rw [hg]; exact Nat.ne_of_lt (blk_lt (g := gb410) (o := .cells #[.int .i64 0, .int .i64 0, .bool false, .int .i64 0, .string (⟨#[]⟩ : ByteArray), .bool false, .int .i64 0, .string (⟨#[]⟩ : ByteArray)] 25 (0, 0)) (by (with_reducible repeat (first | refine kn_ ?_ _ | refine kd_ ?_ | refine ka_ ?_ _)); exact BK410.out)) : gb410 ≠ gb414)); have n8_ := A_ ((by rw [hg]; exact Nat.ne_of_gt (blk_lt (g := gb410) (o := .cells #[.int .i64 0, .int .i64 0, .bool false, .int .i64 0, .string (⟨#[]⟩ : ByteArray), .bool false, .int .i64 0, .string (⟨#[]⟩ : ByteArray)] 25 (0, 0)) (by (with_reducible repeat (first | refine kn_ ?_ _ | refine kd_ ?_ | refine ka_ ?_ _)); exact BK410.out)) : gb414 ≠ gb410)); have n9_ := A_ ((by rw [hg]; exact Nat.ne_of_lt (IsS45.lt (show IsS45 w0 _ g t412 t413 from by repeat (first | (with_reducible first | exact HI0.out | apply IsS45.alloc | apply IsS45.drewN | apply IsS45.drew | apply IsS45.set_0 | apply IsS45.set_1 | apply IsS45.far (p := ⟨gb410, _, none⟩) (hne := NB0_410.out)) | exact HI0.out))) : g ≠ gb414)); have n10_ := A_ ((by rw [hg]; exact Nat.ne_of_gt (IsS45.lt (show IsS45 w0 _ g t412 t413 from by repeat (first | (with_reducible first | exact HI0.out | apply IsS45.alloc | apply IsS45.drewN | apply IsS45.drew | apply IsS45.set_0 | apply IsS45.set_1 | apply IsS45.far (p := ⟨gb410, _, none⟩) (hne := NB0_410.out)) | exact HI0.out))) : gb414 ≠ g)); clear HI0; clear BK410; clear HK; clear HB; have HI0 := n0_; have BK410 := n1_; have HK := n2_; have HB := n3_; have BK414 := n4_; have GW414 := n5_; have GE414 := n6_; have NB410_414 := n7_; have NB414_410 := n8_; have NB0_414 := n9_; have NB414_0 := n10_; clear n0_ n1_ n2_ n3_ n4_ n5_ n6_ n7_ n8_ n9_ n10_; clear hb hbox hg; have hnb9 := NB414_410.out; have hnc9 := NB410_414.out; have hnb10 := NB414_0.out; have hnc10 := NB0_414.out; have hcz11_0 : w8.cell? ⟨gb414, 0, none⟩ = some (.int .i64 0) := (bc_ BK414.out 0).trans rfl; have hcz11_1 : w8.cell? ⟨gb414, 1, none⟩ = some (.int .i64 0) := (bc_ BK414.out 1).trans rfl; have hcz11_2 : w8.cell? ⟨gb414, 2, none⟩ = some (.bool false) := (bc_ BK414.out 2).trans rfl; have hcz11_3 : w8.cell? ⟨gb414, 3, none⟩ = some (.int .i64 0) := (bc_ BK414.out 3).trans rfl; have hcz11_4 : w8.cell? ⟨gb414, 4, none⟩ = some (.string (⟨#[]⟩ : ByteArray)) := (bc_ BK414.out 4).trans rfl; have hcz11_5 : w8.cell? ⟨gb414, 5, none⟩ = some (.bool false) := (bc_ BK414.out 5).trans rfl; have hcz11_6 : w8.cell? ⟨gb414, 6, none⟩ = some (.int .i64 0) := (bc_ BK414.out 6).trans rfl; have hcz11_7 : w8.cell? ⟨gb414, 7, none⟩ = some (.string (⟨#[]⟩ : ByteArray)) := (bc_ BK414.out 7).trans rfl; have hfz11_0 := bf_ BK414.out 0; have hfz11_1 := bf_ BK414.out 1; have hfz11_2 := bf_ BK414.out 2; have hfz11_3 := bf_ BK414.out 3; have hfz11_4 := bf_ BK414.out 4; have hfz11_5 := bf_ BK414.out 5; have hfz11_6 := bf_ BK414.out 6; have hfz11_7 := bf_ BK414.out 7) | ((with_reducible refine gate_callee (f := 34) rfl ?_); refine goesL_ (some 10) rfl rfl Try.func34 (by kernel_rfl) rfl #[.pointer (some ⟨g, 0, none⟩), .int .i64 4097] rfl (by (try simp only [List.map_toArray, List.map_cons, List.map_nil]); first | done | rfl | (simp only [List.length_drop, List.length_take]; rfl)) ?_; (with_reducible refine (firkinref01_S_Below.calls g t412 t413 4097 t415 t416 t417 w0 _ ?side1 ?side2 A4.out).mono ?_); (case side1 => repeat (first | (with_reducible first | exact HI0.out | apply IsS45.alloc | apply IsS45.drewN | apply IsS45.drew | apply IsS45.set_0 | apply IsS45.set_1 | apply IsS45.far (p := ⟨gb410, _, none⟩) (hne := NB0_410.out) | apply IsS45.far (p := ⟨gb414, _, none⟩) (hne := NB0_414.out)) | exact HI0.out)); (case side2 => repeat (first | (with_reducible first | exact HB.out | apply ba_ | apply bn_ | apply bd_ | refine bs_ ?_ (IsS45.ge HI0.out) | refine bs_ ?_ GE410.out | refine bs_ ?_ GE414.out) | exact HB.out)); rintro e w12 ⟨rfl, hi, hb, hk⟩; refine ⟨_, rfl, ?_⟩; have n0_ := A_ (KeepBut.blk hk (g' := gb410) (o := .cells #[.int .i64 0, .int .i64 0, .bool false, .int .i64 0, .string (⟨#[]⟩ : ByteArray), .bool false, .int .i64 0, .string (⟨#[]⟩ : ByteArray)] 25 (0, 0)) (by (with_reducible repeat (first | refine kn_ ?_ _ | refine kd_ ?_ | refine ka_ ?_ _)); refine blk_far ?_ NB410_414.out _; (with_reducible repeat (first | refine kn_ ?_ _ | refine kd_ ?_ | refine ka_ ?_ _)); refine blk_far ?_ NB410_414.out _; (with_reducible repeat (first | refine kn_ ?_ _ | refine kd_ ?_ | refine ka_ ?_ _)); refine blk_far ?_ NB410_414.out _; (with_reducible repeat (first | refine kn_ ?_ _ | refine kd_ ?_ | refine ka_ ?_ _)); refine blk_far ?_ NB410_414.out _; (with_reducible repeat (first | refine kn_ ?_ _ | refine kd_ ?_ | refine ka_ ?_ _)); refine blk_far ?_ NB410_414.out _; (with_reducible repeat (first | refine kn_ ?_ _ | refine kd_ ?_ | refine ka_ ?_ _)); refine blk_far ?_ NB410_414.out _; (with_reducible repeat (first | refine kn_ ?_ _ | refine kd_ ?_ | refine ka_ ?_ _)); refine blk_far ?_ NB410_414.out _; (with_reducible repeat (first | refine kn_ ?_ _ | refine kd_ ?_ | refine ka_ ?_ _)); refine blk_far ?_ NB410_414.out _; (with_reducible repeat (first | refine kn_ ?_ _ | refine kd_ ?_ | refine ka_ ?_ _)); exact BK410.out) NB410_0.out (by simp)); have n1_ := A_ (KeepBut.blk hk (g' := gb414) (o := .cells #[.int .i64 t411, .int .i64 0, .bool false, .int .i64 0, .string (⟨#[]⟩ : ByteArray), .bool false, .int .i64 0, .string (⟨#[]⟩ : ByteArray)] 25 (0, 0)) (by (with_reducible repeat (first | refine kn_ ?_ _ | refine kd_ ?_ | refine ka_ ?_ _)); refine blk_put (cs := #[.int .i64 t411, .int .i64 0, .bool false, .int .i64 0, .string (⟨#[]⟩ : ByteArray), .bool false, .int .i64 0, .string (⟨#[]⟩ : ByteArray)]) ?_ 7 _ rfl; (with_reducible repeat (first | refine kn_ ?_ _ | refine kd_ ?_ | refine ka_ ?_ _)); refine blk_put (cs := #[.int .i64 t411, .int .i64 0, .bool false, .int .i64 0, .string (⟨#[]⟩ : ByteArray), .bool false, .int .i64 0, .string (⟨#[]⟩ : ByteArray)]) ?_ 6 _ rfl; (with_reducible repeat (first | refine kn_ ?_ _ | refine kd_ ?_ | refine ka_ ?_ _)); refine blk_put (cs := #[.int .i64 t411, .int .i64 0, .bool false, .int .i64 0, .string (⟨#[]⟩ : ByteArray), .bool false, .int .i64 0, .string (⟨#[]⟩ : ByteArray)]) ?_ 5 _ rfl; (with_reducible repeat (first | refine kn_ ?_ _ | refine kd_ ?_ | refine ka_ ?_ _)); refine blk_put (cs := #[.int .i64 t411, .int .i64 0, .bool false, .int .i64 0, .string (⟨#[]⟩ : ByteArray), .bool false, .int .i64 0, .string (⟨#[]⟩ : ByteArray)]) ?_ 4 _ rfl; (with_reducible repeat (first | refine kn_ ?_ _ | refine kd_ ?_ | refine ka_ ?_ _)); refine blk_put (cs := #[.int .i64 t411, .int .i64 0, .bool false, .int .i64 0, .string (⟨#[]⟩ : ByteArray), .bool false, .int .i64 0, .string (⟨#[]⟩ : ByteArray)]) ?_ 3 _ rfl; (with_reducible repeat (first | refine kn_ ?_ _ | refine kd_ ?_ | refine ka_ ?_ _)); refine blk_put (cs := #[.int .i64 t411, .int .i64 0, .bool false, .int .i64 0, .string (⟨#[]⟩ : ByteArray), .bool false, .int .i64 0, .string (⟨#[]⟩ : ByteArray)]) ?_ 2 _ rfl; (with_reducible repeat (first | refine kn_ ?_ _ | refine kd_ ?_ | refine ka_ ?_ _)); refine blk_put (cs := #[.int .i64 t411, .int .i64 0, .bool false, .int .i64 0, .string (⟨#[]⟩ : ByteArray), .bool false, .int .i64 0, .string (⟨#[]⟩ : ByteArray)]) ?_ 1 _ rfl; (with_reducible repeat (first | refine kn_ ?_ _ | refine kd_ ?_ | refine ka_ ?_ _)); refine blk_put (cs := #[.int .i64 0, .int .i64 0, .bool false, .int .i64 0, .string (⟨#[]⟩ : ByteArray), .bool false, .int .i64 0, .string (⟨#[]⟩ : ByteArray)]) ?_ 0 _ rfl; (with_reducible repeat (first | refine kn_ ?_ _ | refine kd_ ?_ | refine ka_ ?_ _)); exact BK414.out) NB414_0.out (by simp)); have n2_ := A_ (KeepBut.trans (by repeat (first | (with_reducible first | exact HK.out | apply KeepBut.set_ | apply keep_drewN | apply keep_drew | apply keep_alloc | refine keep_far ?_ GW410.out _ | refine keep_far ?_ GW414.out _) | exact HK.out)) hk (.inl rfl)); have n3_ := A_ (hb); have n4_ := A_ (hi); clear BK410; clear BK414; clear HK; clear HB; clear HI0; have BK410 := n0_; have BK414 := n1_; have HK := n2_; have HB := n3_; have HI0 := n4_; clear n0_ n1_ n2_ n3_ n4_; (try clear hb); (try clear hb2); (try clear hk); (try clear hi); have hcz13_0 : w12.cell? ⟨gb414, 0, none⟩ = some (.int .i64 t411) := (bc_ BK414.out 0).trans rfl; have hcz13_1 : w12.cell? ⟨gb414, 1, none⟩ = some (.int .i64 0) := (bc_ BK414.out 1).trans rfl; have hcz13_2 : w12.cell? ⟨gb414, 2, none⟩ = some (.bool false) := (bc_ BK414.out 2).trans rfl; have hcz13_3 : w12.cell? ⟨gb414, 3, none⟩ = some (.int .i64 0) := (bc_ BK414.out 3).trans rfl; have hcz13_4 : w12.cell? ⟨gb414, 4, none⟩ = some (.string (⟨#[]⟩ : ByteArray)) := (bc_ BK414.out 4).trans rfl; have hcz13_5 : w12.cell? ⟨gb414, 5, none⟩ = some (.bool false) := (bc_ BK414.out 5).trans rfl; have hcz13_6 : w12.cell? ⟨gb414, 6, none⟩ = some (.int .i64 0) := (bc_ BK414.out 6).trans rfl; have hcz13_7 : w12.cell? ⟨gb414, 7, none⟩ = some (.string (⟨#[]⟩ : ByteArray)) := (bc_ BK414.out 7).trans rfl; have hfz13_0 := bf_ BK414.out 0; have hfz13_1 := bf_ BK414.out 1; have hfz13_2 := bf_ BK414.out 2; have hfz13_3 := bf_ BK414.out 3; have hfz13_4 := bf_ BK414.out 4; have hfz13_5 := bf_ BK414.out 5; have hfz13_6 := bf_ BK414.out 6; have hfz13_7 := bf_ BK414.out 7))
 (try simp only [Act.put, setIfInBounds_toArray, set_cons_zero, set_cons_succ])
 go_cut [23] (fun v23 wc => ∃ (kq : Nat) (x23_4 : Bool), v23 = .bool x23_4 ∧ Aside0 (firkinref11_Take.j0 kq a1 x23_4 t416 t417 t411 t415 false 0 (⟨#[]⟩ : ByteArray) false 0 (⟨#[]⟩ : ByteArray) = some (r1, r2, r3, r4, r5, r6, r7, r8, r9, r10)) ∧ Aside0 (kq ≤ k) ∧ Aside0 (wc.heap[gb410]? = some (.cells #[.int .i64 0, .int .i64 0, .bool false, .int .i64 0, .string (⟨#[]⟩ : ByteArray), .bool false, .int .i64 0, .string (⟨#[]⟩ : ByteArray)] 25 (0, 0))) ∧ Aside0 (wc.heap[gb414]? = some (.cells #[.int .i64 t411, .int .i64 t415, .bool false, .int .i64 0, .string (⟨#[]⟩ : ByteArray), .bool false, .int .i64 0, .string (⟨#[]⟩ : ByteArray)] 25 (0, 0))) ∧ Aside0 (IsS45 w0 wc g t416 t417) ∧ Aside0 (KeepBut w wc g none) ∧ Aside0 (Below w0.heap.size w0 wc))
 case first =>
  have H := HC5.out
  clear HC5
  by_cases c14 : t417 = true
  ·subst c14
   have H1 : (firkinref11_Take.j0 k a1 false t416 true t411 t415 false 0 (⟨#[]⟩ : ByteArray) false 0 (⟨#[]⟩ : ByteArray)) = some (r1, r2, r3, r4, r5, r6, r7, r8, r9, r10) := by rw [if_pos rfl] at H; exact H
   clear H
   have H := H1
   clear H1
   have H' := A_ H
   clear H
   obtain ⟨ASz15_0, cSz15_0, HGz15, hgz15, ⟨HSz15_0, _⟩⟩ := HI0.out
   have hcz15_0 := cellS45_0 HGz15
   have hcz15_1 := cellS45_1 HGz15
   have hfz15_0 := bf_ HGz15 0
   have hfz15_1 := bf_ HGz15 1
   clear HGz15 hgz15
   go_wp2
   go_meet
   case rel => exact ⟨_, (false), (by first | rfl | (simp; done) | (simp [*]; done)), H', ⟨by first | omega | exact Nat.le_refl _⟩, ⟨by (with_reducible repeat (first | refine kn_ ?_ _ | refine kd_ ?_ | refine ka_ ?_ _)); refine blk_far ?_ NB410_414.out _; (with_reducible repeat (first | refine kn_ ?_ _ | refine kd_ ?_ | refine ka_ ?_ _)); exact BK410.out⟩, ⟨by (with_reducible repeat (first | refine kn_ ?_ _ | refine kd_ ?_ | refine ka_ ?_ _)); refine blk_put (cs := #[.int .i64 t411, .int .i64 0, .bool false, .int .i64 0, .string (⟨#[]⟩ : ByteArray), .bool false, .int .i64 0, .string (⟨#[]⟩ : ByteArray)]) ?_ 1 _ rfl; (with_reducible repeat (first | refine kn_ ?_ _ | refine kd_ ?_ | refine ka_ ?_ _)); exact BK414.out⟩, ⟨by repeat (first | (with_reducible first | exact HI0.out | apply IsS45.alloc | apply IsS45.drewN | apply IsS45.drew | apply IsS45.set_0 | apply IsS45.set_1 | apply IsS45.far (p := ⟨gb410, _, none⟩) (hne := NB0_410.out) | apply IsS45.far (p := ⟨gb414, _, none⟩) (hne := NB0_414.out)) | exact HI0.out)⟩, ⟨by repeat (first | (with_reducible first | exact HK.out | apply KeepBut.set_ | apply keep_drewN | apply keep_drew | apply keep_alloc | refine keep_far ?_ GW410.out _ | refine keep_far ?_ GW414.out _) | exact HK.out)⟩, ⟨by repeat (first | (with_reducible first | exact HB.out | apply ba_ | apply bn_ | apply bd_ | refine bs_ ?_ (IsS45.ge HI0.out) | refine bs_ ?_ GE410.out | refine bs_ ?_ GE414.out) | exact HB.out)⟩⟩
  ·replace c14 := Bool.eq_false_iff.mpr c14
   subst c14
   have H1 : (firkinref11_Take.j0 k a1 (decide (t411 > t415)) t416 false t411 t415 false 0 (⟨#[]⟩ : ByteArray) false 0 (⟨#[]⟩ : ByteArray)) = some (r1, r2, r3, r4, r5, r6, r7, r8, r9, r10) := by rw [if_neg (show ¬ (false = true) by decide)] at H; exact H
   clear H
   have H := H1
   clear H1
   have H' := A_ H
   clear H
   obtain ⟨ASz16_0, cSz16_0, HGz16, hgz16, ⟨HSz16_0, _⟩⟩ := HI0.out
   have hcz16_0 := cellS45_0 HGz16
   have hcz16_1 := cellS45_1 HGz16
   have hfz16_0 := bf_ HGz16 0
   have hfz16_1 := bf_ HGz16 1
   clear HGz16 hgz16
   have hnb17 := NB414_410.out
   have hnc17 := NB410_414.out
   have hnb18 := NB414_0.out
   have hnc18 := NB0_414.out
   have hcz19_0 : w12.cell? ⟨gb414, 0, none⟩ = some (.int .i64 t411) := (bc_ BK414.out 0).trans rfl
   have hcz19_1 : w12.cell? ⟨gb414, 1, none⟩ = some (.int .i64 0) := (bc_ BK414.out 1).trans rfl
   have hcz19_2 : w12.cell? ⟨gb414, 2, none⟩ = some (.bool false) := (bc_ BK414.out 2).trans rfl
   have hcz19_3 : w12.cell? ⟨gb414, 3, none⟩ = some (.int .i64 0) := (bc_ BK414.out 3).trans rfl
   have hcz19_4 : w12.cell? ⟨gb414, 4, none⟩ = some (.string (⟨#[]⟩ : ByteArray)) := (bc_ BK414.out 4).trans rfl
   have hcz19_5 : w12.cell? ⟨gb414, 5, none⟩ = some (.bool false) := (bc_ BK414.out 5).trans rfl
   have hcz19_6 : w12.cell? ⟨gb414, 6, none⟩ = some (.int .i64 0) := (bc_ BK414.out 6).trans rfl
   have hcz19_7 : w12.cell? ⟨gb414, 7, none⟩ = some (.string (⟨#[]⟩ : ByteArray)) := (bc_ BK414.out 7).trans rfl
   have hfz19_0 := bf_ BK414.out 0
   have hfz19_1 := bf_ BK414.out 1
   have hfz19_2 := bf_ BK414.out 2
   have hfz19_3 := bf_ BK414.out 3
   have hfz19_4 := bf_ BK414.out 4
   have hfz19_5 := bf_ BK414.out 5
   have hfz19_6 := bf_ BK414.out 6
   have hfz19_7 := bf_ BK414.out 7
   go_wp2
   go_meet
   case rel => exact ⟨_, (decide (t411 > t415)), (by first | rfl | (simp; done) | (simp [*]; done)), H', ⟨by first | omega | exact Nat.le_refl _⟩, ⟨by (with_reducible repeat (first | refine kn_ ?_ _ | refine kd_ ?_ | refine ka_ ?_ _)); refine blk_far ?_ NB410_414.out _; (with_reducible repeat (first | refine kn_ ?_ _ | refine kd_ ?_ | refine ka_ ?_ _)); exact BK410.out⟩, ⟨by (with_reducible repeat (first | refine kn_ ?_ _ | refine kd_ ?_ | refine ka_ ?_ _)); refine blk_put (cs := #[.int .i64 t411, .int .i64 0, .bool false, .int .i64 0, .string (⟨#[]⟩ : ByteArray), .bool false, .int .i64 0, .string (⟨#[]⟩ : ByteArray)]) ?_ 1 _ rfl; (with_reducible repeat (first | refine kn_ ?_ _ | refine kd_ ?_ | refine ka_ ?_ _)); exact BK414.out⟩, ⟨by repeat (first | (with_reducible first | exact HI0.out | apply IsS45.alloc | apply IsS45.drewN | apply IsS45.drew | apply IsS45.set_0 | apply IsS45.set_1 | apply IsS45.far (p := ⟨gb410, _, none⟩) (hne := NB0_410.out) | apply IsS45.far (p := ⟨gb414, _, none⟩) (hne := NB0_414.out)) | exact HI0.out)⟩, ⟨by repeat (first | (with_reducible first | exact HK.out | apply KeepBut.set_ | apply keep_drewN | apply keep_drew | apply keep_alloc | refine keep_far ?_ GW410.out _ | refine keep_far ?_ GW414.out _) | exact HK.out)⟩, ⟨by repeat (first | (with_reducible first | exact HB.out | apply ba_ | apply bn_ | apply bd_ | refine bs_ ?_ (IsS45.ge HI0.out) | refine bs_ ?_ GE410.out | refine bs_ ?_ GE414.out) | exact HB.out)⟩⟩
 case rest =>
  clear HC5
  try clear c1
  try clear p2
  try clear c3
  try clear c7
  try clear c9
  try clear c10
  try clear c14
  try clear c17
  try clear c18
  try clear hcz11_0
  try clear hcz11_1
  try clear hcz11_2
  try clear hcz11_3
  try clear hcz11_4
  try clear hcz11_5
  try clear hcz11_6
  try clear hcz11_7
  try clear hcz13_0
  try clear hcz13_1
  try clear hcz13_2
  try clear hcz13_3
  try clear hcz13_4
  try clear hcz13_5
  try clear hcz13_6
  try clear hcz13_7
  try clear hcz15_0
  try clear hcz15_1
  try clear hcz16_0
  try clear hcz16_1
  try clear hcz19_0
  try clear hcz19_1
  try clear hcz19_2
  try clear hcz19_3
  try clear hcz19_4
  try clear hcz19_5
  try clear hcz19_6
  try clear hcz19_7
  try clear hfz11_0
  try clear hfz11_1
  try clear hfz11_2
  try clear hfz11_3
  try clear hfz11_4
  try clear hfz11_5
  try clear hfz11_6
  try clear hfz11_7
  try clear hfz13_0
  try clear hfz13_1
  try clear hfz13_2
  try clear hfz13_3
  try clear hfz13_4
  try clear hfz13_5
  try clear hfz13_6
  try clear hfz13_7
  try clear hfz15_0
  try clear hfz15_1
  try clear hfz16_0
  try clear hfz16_1
  try clear hfz19_0
  try clear hfz19_1
  try clear hfz19_2
  try clear hfz19_3
  try clear hfz19_4
  try clear hfz19_5
  try clear hfz19_6
  try clear hfz19_7
  obtain ⟨kq, x23_4, rfl, HA, HJ4, BK410, BK414, HI0, HK, HB⟩ := hcut
  cases kq with
  | zero => exact absurd HA.out (by simp [firkinref11_Take.j0])
  | succ kj4 =>
   have H := HA.out
   clear HA
   simp only [firkinref11_Take.j0] at H
   have HC20 := A_ H
   clear H
   go_upto_if 23 with (fail)
   go_cut [] (fun wc => ∃ (kq : Nat) (x1000_19 : List Int) (x1001_19 : Bool) (x415002_19 : Bool) (x415003_19 : Int) (x415004_19 : ByteArray) (x415005_19 : Bool) (x415006_19 : Int) (x415007_19 : ByteArray) (u1000 : Value), Aside0 (firkinref11_Take.j1 kq a1 x1000_19 x1001_19 t411 t415 x415002_19 x415003_19 x415004_19 x415005_19 x415006_19 x415007_19 = some (r1, r2, r3, r4, r5, r6, r7, r8, r9, r10)) ∧ Aside0 (kq ≤ kj4) ∧ Aside0 (wc.heap[gb410]? = some (.cells #[.int .i64 0, .int .i64 0, .bool false, .int .i64 0, .string (⟨#[]⟩ : ByteArray), .bool false, .int .i64 0, .string (⟨#[]⟩ : ByteArray)] 25 (0, 0))) ∧ Aside0 (wc.heap[gb414]? = some (.cells #[.int .i64 t411, .int .i64 t415, .bool x415002_19, .int .i64 x415003_19, .string x415004_19, .bool x415005_19, .int .i64 x415006_19, .string x415007_19] 25 (0, 0))) ∧ Aside0 (IsS45 w0 wc g x1000_19 x1001_19) ∧ Aside0 (KeepBut w wc g none) ∧ Aside0 (Below w0.heap.size w0 wc))
   case first =>
    have H := HC20.out
    clear HC20
    by_cases c21 : x23_4 = true
    ·subst c21
     have H1 : ((firkinref09_Take.f kj4 t416 t417 a1).bind fun bt418 => ((firkinref09_Take.f kj4 bt418.2.2.2.1 bt418.2.2.2.2 a1).bind fun bt423 => (firkinref11_Take.j1 kj4 a1 bt423.2.2.2.1 bt423.2.2.2.2 t411 t415 bt418.1 bt418.2.1 bt418.2.2.1 bt423.1 bt423.2.1 bt423.2.2.1))) = some (r1, r2, r3, r4, r5, r6, r7, r8, r9, r10) := by rw [if_pos rfl] at H; exact H
     clear H
     have H := H1
     clear H1
     replace H := Option.bind_eq_some_iff.mp H
     obtain ⟨⟨t418, t419, t420, t421, t422⟩, A220, H⟩ := H
     replace H : ((firkinref09_Take.f kj4 t421 t422 a1).bind fun bt423 => (firkinref11_Take.j1 kj4 a1 bt423.2.2.2.1 bt423.2.2.2.2 t411 t415 t418 t419 t420 bt423.1 bt423.2.1 bt423.2.2.1)) = some (r1, r2, r3, r4, r5, r6, r7, r8, r9, r10) := H
     have A22 := A_ A220
     clear A220
     replace H := Option.bind_eq_some_iff.mp H
     obtain ⟨⟨t423, t424, t425, t426, t427⟩, A230, H⟩ := H
     replace H : (firkinref11_Take.j1 kj4 a1 t426 t427 t411 t415 t418 t419 t420 t423 t424 t425) = some (r1, r2, r3, r4, r5, r6, r7, r8, r9, r10) := H
     have A23 := A_ A230
     clear A230
     have H' := A_ H
     clear H
     go_wp2_with (first | ((with_reducible refine gate_callee (f := 66) rfl ?_); refine goesL_ (some 26) rfl rfl Try.func66 (by kernel_rfl) rfl #[.pointer (some ⟨g, 0, none⟩), .int .i64 a1] rfl (by (try simp only [List.map_toArray, List.map_cons, List.map_nil]); first | done | rfl | (simp only [List.length_drop, List.length_take]; rfl)) ?_; (with_reducible refine (firkinref09_Take.calls kj4 g t416 t417 a1 t418 t419 t420 t421 t422 w0 _ ?side1 ?side2 A22.out).mono ?_); (case side1 => repeat (first | (with_reducible first | exact HI0.out | apply IsS45.alloc | apply IsS45.drewN | apply IsS45.drew | apply IsS45.set_0 | apply IsS45.set_1 | apply IsS45.far (p := ⟨gb410, _, none⟩) (hne := NB0_410.out) | apply IsS45.far (p := ⟨gb414, _, none⟩) (hne := NB0_414.out)) | exact HI0.out)); (case side2 => repeat (first | (with_reducible first | exact HB.out | apply ba_ | apply bn_ | apply bd_ | refine bs_ ?_ (IsS45.ge HI0.out) | refine bs_ ?_ GE410.out | refine bs_ ?_ GE414.out) | exact HB.out)); rintro e w24 ⟨rfl, hi, hb, hk⟩; refine ⟨_, rfl, ?_⟩; have n0_ := A_ (KeepBut.blk hk (g' := gb410) (o := .cells #[.int .i64 0, .int .i64 0, .bool false, .int .i64 0, .string (⟨#[]⟩ : ByteArray), .bool false, .int .i64 0, .string (⟨#[]⟩ : ByteArray)] 25 (0, 0)) (by (with_reducible repeat (first | refine kn_ ?_ _ | refine kd_ ?_ | refine ka_ ?_ _)); exact BK410.out) NB410_0.out (by simp)); have n1_ := A_ (KeepBut.blk hk (g' := gb414) (o := .cells #[.int .i64 t411, .int .i64 t415, .bool false, .int .i64 0, .string (⟨#[]⟩ : ByteArray), .bool false, .int .i64 0, .string (⟨#[]⟩ : ByteArray)] 25 (0, 0)) (by (with_reducible repeat (first | refine kn_ ?_ _ | refine kd_ ?_ | refine ka_ ?_ _)); exact BK414.out) NB414_0.out (by simp)); have n2_ := A_ (KeepBut.trans (by repeat (first | (with_reducible first | exact HK.out | apply KeepBut.set_ | apply keep_drewN | apply keep_drew | apply keep_alloc | refine keep_far ?_ GW410.out _ | refine keep_far ?_ GW414.out _) | exact HK.out)) hk (.inl rfl)); have n3_ := A_ (hb); have n4_ := A_ (hi); clear BK410; clear BK414; clear HK; clear HB; clear HI0; have BK410 := n0_; have BK414 := n1_; have HK := n2_; have HB := n3_; have HI0 := n4_; clear n0_ n1_ n2_ n3_ n4_; (try clear hb); (try clear hb2); (try clear hk); (try clear hi); have hnb25 := NB414_410.out; have hnc25 := NB410_414.out; have hnb26 := NB414_0.out; have hnc26 := NB0_414.out; have hcz27_0 : w24.cell? ⟨gb414, 0, none⟩ = some (.int .i64 t411) := (bc_ BK414.out 0).trans rfl; have hcz27_1 : w24.cell? ⟨gb414, 1, none⟩ = some (.int .i64 t415) := (bc_ BK414.out 1).trans rfl; have hcz27_2 : w24.cell? ⟨gb414, 2, none⟩ = some (.bool false) := (bc_ BK414.out 2).trans rfl; have hcz27_3 : w24.cell? ⟨gb414, 3, none⟩ = some (.int .i64 0) := (bc_ BK414.out 3).trans rfl; have hcz27_4 : w24.cell? ⟨gb414, 4, none⟩ = some (.string (⟨#[]⟩ : ByteArray)) := (bc_ BK414.out 4).trans rfl; have hcz27_5 : w24.cell? ⟨gb414, 5, none⟩ = some (.bool false) := (bc_ BK414.out 5).trans rfl; have hcz27_6 : w24.cell? ⟨gb414, 6, none⟩ = some (.int .i64 0) := (bc_ BK414.out 6).trans rfl; have hcz27_7 : w24.cell? ⟨gb414, 7, none⟩ = some (.string (⟨#[]⟩ : ByteArray)) := (bc_ BK414.out 7).trans rfl; have hfz27_0 := bf_ BK414.out 0; have hfz27_1 := bf_ BK414.out 1; have hfz27_2 := bf_ BK414.out 2; have hfz27_3 := bf_ BK414.out 3; have hfz27_4 := bf_ BK414.out 4; have hfz27_5 := bf_ BK414.out 5; have hfz27_6 := bf_ BK414.out 6; have hfz27_7 := bf_ BK414.out 7) | ((with_reducible refine gate_callee (f := 66) rfl ?_); refine goesL_ (some 30) rfl rfl Try.func66 (by kernel_rfl) rfl #[.pointer (some ⟨g, 0, none⟩), .int .i64 a1] rfl (by (try simp only [List.map_toArray, List.map_cons, List.map_nil]); first | done | rfl | (simp only [List.length_drop, List.length_take]; rfl)) ?_; (with_reducible refine (firkinref09_Take.calls kj4 g t421 t422 a1 t423 t424 t425 t426 t427 w0 _ ?side1 ?side2 A23.out).mono ?_); (case side1 => repeat (first | (with_reducible first | exact HI0.out | apply IsS45.alloc | apply IsS45.drewN | apply IsS45.drew | apply IsS45.set_0 | apply IsS45.set_1 | apply IsS45.far (p := ⟨gb410, _, none⟩) (hne := NB0_410.out) | apply IsS45.far (p := ⟨gb414, _, none⟩) (hne := NB0_414.out)) | exact HI0.out)); (case side2 => repeat (first | (with_reducible first | exact HB.out | apply ba_ | apply bn_ | apply bd_ | refine bs_ ?_ (IsS45.ge HI0.out) | refine bs_ ?_ GE410.out | refine bs_ ?_ GE414.out) | exact HB.out)); rintro e w28 ⟨rfl, hi, hb, hk⟩; refine ⟨_, rfl, ?_⟩; have n0_ := A_ (KeepBut.blk hk (g' := gb410) (o := .cells #[.int .i64 0, .int .i64 0, .bool false, .int .i64 0, .string (⟨#[]⟩ : ByteArray), .bool false, .int .i64 0, .string (⟨#[]⟩ : ByteArray)] 25 (0, 0)) (by (with_reducible repeat (first | refine kn_ ?_ _ | refine kd_ ?_ | refine ka_ ?_ _)); refine blk_far ?_ NB410_414.out _; (with_reducible repeat (first | refine kn_ ?_ _ | refine kd_ ?_ | refine ka_ ?_ _)); refine blk_far ?_ NB410_414.out _; (with_reducible repeat (first | refine kn_ ?_ _ | refine kd_ ?_ | refine ka_ ?_ _)); refine blk_far ?_ NB410_414.out _; (with_reducible repeat (first | refine kn_ ?_ _ | refine kd_ ?_ | refine ka_ ?_ _)); exact BK410.out) NB410_0.out (by simp)); have n1_ := A_ (KeepBut.blk hk (g' := gb414) (o := .cells #[.int .i64 t411, .int .i64 t415, .bool t418, .int .i64 t419, .string t420, .bool false, .int .i64 0, .string (⟨#[]⟩ : ByteArray)] 25 (0, 0)) (by (with_reducible repeat (first | refine kn_ ?_ _ | refine kd_ ?_ | refine ka_ ?_ _)); refine blk_put (cs := #[.int .i64 t411, .int .i64 t415, .bool t418, .int .i64 t419, .string (⟨#[]⟩ : ByteArray), .bool false, .int .i64 0, .string (⟨#[]⟩ : ByteArray)]) ?_ 4 _ rfl; (with_reducible repeat (first | refine kn_ ?_ _ | refine kd_ ?_ | refine ka_ ?_ _)); refine blk_put (cs := #[.int .i64 t411, .int .i64 t415, .bool t418, .int .i64 0, .string (⟨#[]⟩ : ByteArray), .bool false, .int .i64 0, .string (⟨#[]⟩ : ByteArray)]) ?_ 3 _ rfl; (with_reducible repeat (first | refine kn_ ?_ _ | refine kd_ ?_ | refine ka_ ?_ _)); refine blk_put (cs := #[.int .i64 t411, .int .i64 t415, .bool false, .int .i64 0, .string (⟨#[]⟩ : ByteArray), .bool false, .int .i64 0, .string (⟨#[]⟩ : ByteArray)]) ?_ 2 _ rfl; (with_reducible repeat (first | refine kn_ ?_ _ | refine kd_ ?_ | refine ka_ ?_ _)); exact BK414.out) NB414_0.out (by simp)); have n2_ := A_ (KeepBut.trans (by repeat (first | (with_reducible first | exact HK.out | apply KeepBut.set_ | apply keep_drewN | apply keep_drew | apply keep_alloc | refine keep_far ?_ GW410.out _ | refine keep_far ?_ GW414.out _) | exact HK.out)) hk (.inl rfl)); have n3_ := A_ (hb); have n4_ := A_ (hi); clear BK410; clear BK414; clear HK; clear HB; clear HI0; have BK410 := n0_; have BK414 := n1_; have HK := n2_; have HB := n3_; have HI0 := n4_; clear n0_ n1_ n2_ n3_ n4_; (try clear hb); (try clear hb2); (try clear hk); (try clear hi); have hcz29_0 : w28.cell? ⟨gb414, 0, none⟩ = some (.int .i64 t411) := (bc_ BK414.out 0).trans rfl; have hcz29_1 : w28.cell? ⟨gb414, 1, none⟩ = some (.int .i64 t415) := (bc_ BK414.out 1).trans rfl; have hcz29_2 : w28.cell? ⟨gb414, 2, none⟩ = some (.bool t418) := (bc_ BK414.out 2).trans rfl; have hcz29_3 : w28.cell? ⟨gb414, 3, none⟩ = some (.int .i64 t419) := (bc_ BK414.out 3).trans rfl; have hcz29_4 : w28.cell? ⟨gb414, 4, none⟩ = some (.string t420) := (bc_ BK414.out 4).trans rfl; have hcz29_5 : w28.cell? ⟨gb414, 5, none⟩ = some (.bool false) := (bc_ BK414.out 5).trans rfl; have hcz29_6 : w28.cell? ⟨gb414, 6, none⟩ = some (.int .i64 0) := (bc_ BK414.out 6).trans rfl; have hcz29_7 : w28.cell? ⟨gb414, 7, none⟩ = some (.string (⟨#[]⟩ : ByteArray)) := (bc_ BK414.out 7).trans rfl; have hfz29_0 := bf_ BK414.out 0; have hfz29_1 := bf_ BK414.out 1; have hfz29_2 := bf_ BK414.out 2; have hfz29_3 := bf_ BK414.out 3; have hfz29_4 := bf_ BK414.out 4; have hfz29_5 := bf_ BK414.out 5; have hfz29_6 := bf_ BK414.out 6; have hfz29_7 := bf_ BK414.out 7))
     go_meet
     case rel => exact ⟨_, (t426), (t427), (t418), (t419), (t420), (t423), (t424), (t425), (Value.slice none 0 0), H', ⟨by have := HJ4.out; first | omega | exact Nat.le_refl _⟩, ⟨by (with_reducible repeat (first | refine kn_ ?_ _ | refine kd_ ?_ | refine ka_ ?_ _)); refine blk_far ?_ NB410_414.out _; (with_reducible repeat (first | refine kn_ ?_ _ | refine kd_ ?_ | refine ka_ ?_ _)); refine blk_far ?_ NB410_414.out _; (with_reducible repeat (first | refine kn_ ?_ _ | refine kd_ ?_ | refine ka_ ?_ _)); refine blk_far ?_ NB410_414.out _; (with_reducible repeat (first | refine kn_ ?_ _ | refine kd_ ?_ | refine ka_ ?_ _)); exact BK410.out⟩, ⟨by (with_reducible repeat (first | refine kn_ ?_ _ | refine kd_ ?_ | refine ka_ ?_ _)); refine blk_put (cs := #[.int .i64 t411, .int .i64 t415, .bool t418, .int .i64 t419, .string t420, .bool t423, .int .i64 t424, .string (⟨#[]⟩ : ByteArray)]) ?_ 7 _ rfl; (with_reducible repeat (first | refine kn_ ?_ _ | refine kd_ ?_ | refine ka_ ?_ _)); refine blk_put (cs := #[.int .i64 t411, .int .i64 t415, .bool t418, .int .i64 t419, .string t420, .bool t423, .int .i64 0, .string (⟨#[]⟩ : ByteArray)]) ?_ 6 _ rfl; (with_reducible repeat (first | refine kn_ ?_ _ | refine kd_ ?_ | refine ka_ ?_ _)); refine blk_put (cs := #[.int .i64 t411, .int .i64 t415, .bool t418, .int .i64 t419, .string t420, .bool false, .int .i64 0, .string (⟨#[]⟩ : ByteArray)]) ?_ 5 _ rfl; (with_reducible repeat (first | refine kn_ ?_ _ | refine kd_ ?_ | refine ka_ ?_ _)); exact BK414.out⟩, ⟨by repeat (first | (with_reducible first | exact HI0.out | apply IsS45.alloc | apply IsS45.drewN | apply IsS45.drew | apply IsS45.set_0 | apply IsS45.set_1 | apply IsS45.far (p := ⟨gb410, _, none⟩) (hne := NB0_410.out) | apply IsS45.far (p := ⟨gb414, _, none⟩) (hne := NB0_414.out)) | exact HI0.out)⟩, ⟨by repeat (first | (with_reducible first | exact HK.out | apply KeepBut.set_ | apply keep_drewN | apply keep_drew | apply keep_alloc | refine keep_far ?_ GW410.out _ | refine keep_far ?_ GW414.out _) | exact HK.out)⟩, ⟨by repeat (first | (with_reducible first | exact HB.out | apply ba_ | apply bn_ | apply bd_ | refine bs_ ?_ (IsS45.ge HI0.out) | refine bs_ ?_ GE410.out | refine bs_ ?_ GE414.out) | exact HB.out)⟩⟩
    ·replace c21 := Bool.eq_false_iff.mpr c21
     subst c21
     have H1 : (firkinref11_Take.j1 kj4 a1 t416 t417 t411 t415 false 0 (⟨#[]⟩ : ByteArray) false 0 (⟨#[]⟩ : ByteArray)) = some (r1, r2, r3, r4, r5, r6, r7, r8, r9, r10) := by rw [if_neg (show ¬ (false = true) by decide)] at H; exact H
     clear H
     have H := H1
     clear H1
     have H' := A_ H
     clear H
     go_wp2
     go_meet
     case rel => exact ⟨_, (t416), (t417), (false), (0), ((⟨#[]⟩ : ByteArray)), (false), (0), ((⟨#[]⟩ : ByteArray)), (Value.slice none 0 0), H', ⟨by have := HJ4.out; first | omega | exact Nat.le_refl _⟩, ⟨by (with_reducible repeat (first | refine kn_ ?_ _ | refine kd_ ?_ | refine ka_ ?_ _)); exact BK410.out⟩, ⟨by (with_reducible repeat (first | refine kn_ ?_ _ | refine kd_ ?_ | refine ka_ ?_ _)); exact BK414.out⟩, ⟨by repeat (first | (with_reducible first | exact HI0.out | apply IsS45.alloc | apply IsS45.drewN | apply IsS45.drew | apply IsS45.set_0 | apply IsS45.set_1 | apply IsS45.far (p := ⟨gb410, _, none⟩) (hne := NB0_410.out) | apply IsS45.far (p := ⟨gb414, _, none⟩) (hne := NB0_414.out)) | exact HI0.out)⟩, ⟨by repeat (first | (with_reducible first | exact HK.out | apply KeepBut.set_ | apply keep_drewN | apply keep_drew | apply keep_alloc | refine keep_far ?_ GW410.out _ | refine keep_far ?_ GW414.out _) | exact HK.out)⟩, ⟨by repeat (first | (with_reducible first | exact HB.out | apply ba_ | apply bn_ | apply bd_ | refine bs_ ?_ (IsS45.ge HI0.out) | refine bs_ ?_ GE410.out | refine bs_ ?_ GE414.out) | exact HB.out)⟩⟩
   case rest =>
    clear HC20
    try clear c1
    try clear c2
    try clear p2
    try clear c3
    try clear c6
    try clear c7
    try clear c9
    try clear c10
    try clear c14
    try clear c17
    try clear c18
    try clear c21
    try clear c25
    try clear c26
    try clear hcz11_0
    try clear hcz11_1
    try clear hcz11_2
    try clear hcz11_3
    try clear hcz11_4
    try clear hcz11_5
    try clear hcz11_6
    try clear hcz11_7
    try clear hcz13_0
    try clear hcz13_1
    try clear hcz13_2
    try clear hcz13_3
    try clear hcz13_4
    try clear hcz13_5
    try clear hcz13_6
    try clear hcz13_7
    try clear hcz15_0
    try clear hcz15_1
    try clear hcz16_0
    try clear hcz16_1
    try clear hcz19_0
    try clear hcz19_1
    try clear hcz19_2
    try clear hcz19_3
    try clear hcz19_4
    try clear hcz19_5
    try clear hcz19_6
    try clear hcz19_7
    try clear hcz27_0
    try clear hcz27_1
    try clear hcz27_2
    try clear hcz27_3
    try clear hcz27_4
    try clear hcz27_5
    try clear hcz27_6
    try clear hcz27_7
    try clear hcz29_0
    try clear hcz29_1
    try clear hcz29_2
    try clear hcz29_3
    try clear hcz29_4
    try clear hcz29_5
    try clear hcz29_6
    try clear hcz29_7
    try clear hfz11_0
    try clear hfz11_1
    try clear hfz11_2
    try clear hfz11_3
    try clear hfz11_4
    try clear hfz11_5
    try clear hfz11_6
    try clear hfz11_7
    try clear hfz13_0
    try clear hfz13_1
    try clear hfz13_2
    try clear hfz13_3
    try clear hfz13_4
    try clear hfz13_5
    try clear hfz13_6
    try clear hfz13_7
    try clear hfz15_0
    try clear hfz15_1
    try clear hfz16_0
    try clear hfz16_1
    try clear hfz19_0
    try clear hfz19_1
    try clear hfz19_2
    try clear hfz19_3
    try clear hfz19_4
    try clear hfz19_5
    try clear hfz19_6
    try clear hfz19_7
    try clear hfz27_0
    try clear hfz27_1
    try clear hfz27_2
    try clear hfz27_3
    try clear hfz27_4
    try clear hfz27_5
    try clear hfz27_6
    try clear hfz27_7
    try clear hfz29_0
    try clear hfz29_1
    try clear hfz29_2
    try clear hfz29_3
    try clear hfz29_4
    try clear hfz29_5
    try clear hfz29_6
    try clear hfz29_7
    try clear p2
    obtain ⟨kq, x1000_19, x1001_19, x415002_19, x415003_19, x415004_19, x415005_19, x415006_19, x415007_19, u1000, HA, HJ19, BK410, BK414, HI0, HK, HB⟩ := hcut
    cases kq with
    | zero => exact absurd HA.out (by simp [firkinref11_Take.j1])
    | succ kj19 =>
     have H := HA.out
     clear HA
     simp only [firkinref11_Take.j1] at H
     by_cases c30 : x1001_19 = true
     ·subst c30
      have H1 : ((firkinref01_S_Fail.f x1000_19 true).bind fun bt428 => (some (0, 0, false, 0, (⟨#[]⟩ : ByteArray), false, 0, (⟨#[]⟩ : ByteArray), bt428.1, bt428.2))) = some (r1, r2, r3, r4, r5, r6, r7, r8, r9, r10) := by rw [if_pos rfl] at H; exact H
      clear H
      have H := H1
      clear H1
      replace H := Option.bind_eq_some_iff.mp H
      obtain ⟨⟨t428, t429⟩, A310, H⟩ := H
      replace H : (some (0, 0, false, 0, (⟨#[]⟩ : ByteArray), false, 0, (⟨#[]⟩ : ByteArray), t428, t429)) = some (r1, r2, r3, r4, r5, r6, r7, r8, r9, r10) := H
      have A31 := A_ A310
      clear A310
      simp only [Option.some.injEq, Prod.mk.injEq] at H
      obtain ⟨rfl, rfl, rfl, rfl, rfl, rfl, rfl, rfl, rfl, rfl⟩ := H
      obtain ⟨ASz32_0, cSz32_0, HGz32, hgz32, ⟨HSz32_0, _⟩⟩ := HI0.out
      have hcz32_0 := cellS45_0 HGz32
      have hcz32_1 := cellS45_1 HGz32
      have hfz32_0 := bf_ HGz32 0
      have hfz32_1 := bf_ HGz32 1
      clear HGz32 hgz32
      go_wp2_with (first | ((with_reducible refine gate_callee (f := 40) rfl ?_); refine goesL_ (some 43) rfl rfl Try.func40 (by kernel_rfl) rfl #[.pointer (some ⟨g, 0, none⟩)] rfl (by (try simp only [List.map_toArray, List.map_cons, List.map_nil]); first | done | rfl | (simp only [List.length_drop, List.length_take]; rfl)) ?_; (with_reducible refine (firkinref01_S_Fail.calls g x1000_19 true t428 t429 w0 _ ?side1 ?side2 A31.out).mono ?_); (case side1 => repeat (first | (with_reducible first | exact HI0.out | apply IsS45.alloc | apply IsS45.drewN | apply IsS45.drew | apply IsS45.set_0 | apply IsS45.set_1 | apply IsS45.far (p := ⟨gb410, _, none⟩) (hne := NB0_410.out) | apply IsS45.far (p := ⟨gb414, _, none⟩) (hne := NB0_414.out)) | exact HI0.out)); (case side2 => repeat (first | (with_reducible first | exact HB.out | apply ba_ | apply bn_ | apply bd_ | refine bs_ ?_ (IsS45.ge HI0.out) | refine bs_ ?_ GE410.out | refine bs_ ?_ GE414.out) | exact HB.out)); rintro e w33 ⟨rfl, hi, hb, hk⟩; refine ⟨_, rfl, ?_⟩; have n0_ := A_ (KeepBut.blk hk (g' := gb410) (o := .cells #[.int .i64 0, .int .i64 0, .bool false, .int .i64 0, .string (⟨#[]⟩ : ByteArray), .bool false, .int .i64 0, .string (⟨#[]⟩ : ByteArray)] 25 (0, 0)) (by (with_reducible repeat (first | refine kn_ ?_ _ | refine kd_ ?_ | refine ka_ ?_ _)); exact BK410.out) NB410_0.out (by simp)); have n1_ := A_ (KeepBut.blk hk (g' := gb414) (o := .cells #[.int .i64 t411, .int .i64 t415, .bool x415002_19, .int .i64 x415003_19, .string x415004_19, .bool x415005_19, .int .i64 x415006_19, .string x415007_19] 25 (0, 0)) (by (with_reducible repeat (first | refine kn_ ?_ _ | refine kd_ ?_ | refine ka_ ?_ _)); exact BK414.out) NB414_0.out (by simp)); have n2_ := A_ (KeepBut.trans (by repeat (first | (with_reducible first | exact HK.out | apply KeepBut.set_ | apply keep_drewN | apply keep_drew | apply keep_alloc | refine keep_far ?_ GW410.out _ | refine keep_far ?_ GW414.out _) | exact HK.out)) hk (.inl rfl)); have n3_ := A_ (hb); have n4_ := A_ (hi); clear BK410; clear BK414; clear HK; clear HB; clear HI0; have BK410 := n0_; have BK414 := n1_; have HK := n2_; have HB := n3_; have HI0 := n4_; clear n0_ n1_ n2_ n3_ n4_; (try clear hb); (try clear hb2); (try clear hk); (try clear hi); have hnb34 := NB410_414.out; have hnc34 := NB414_410.out; have hnb35 := NB410_0.out; have hnc35 := NB0_410.out; have hcz36_0 : w33.cell? ⟨gb410, 0, none⟩ = some (.int .i64 0) := (bc_ BK410.out 0).trans rfl; have hcz36_1 : w33.cell? ⟨gb410, 1, none⟩ = some (.int .i64 0) := (bc_ BK410.out 1).trans rfl; have hcz36_2 : w33.cell? ⟨gb410, 2, none⟩ = some (.bool false) := (bc_ BK410.out 2).trans rfl; have hcz36_3 : w33.cell? ⟨gb410, 3, none⟩ = some (.int .i64 0) := (bc_ BK410.out 3).trans rfl; have hcz36_4 : w33.cell? ⟨gb410, 4, none⟩ = some (.string (⟨#[]⟩ : ByteArray)) := (bc_ BK410.out 4).trans rfl; have hcz36_5 : w33.cell? ⟨gb410, 5, none⟩ = some (.bool false) := (bc_ BK410.out 5).trans rfl; have hcz36_6 : w33.cell? ⟨gb410, 6, none⟩ = some (.int .i64 0) := (bc_ BK410.out 6).trans rfl; have hcz36_7 : w33.cell? ⟨gb410, 7, none⟩ = some (.string (⟨#[]⟩ : ByteArray)) := (bc_ BK410.out 7).trans rfl; have hfz36_0 := bf_ BK410.out 0; have hfz36_1 := bf_ BK410.out 1; have hfz36_2 := bf_ BK410.out 2; have hfz36_3 := bf_ BK410.out 3; have hfz36_4 := bf_ BK410.out 4; have hfz36_5 := bf_ BK410.out 5; have hfz36_6 := bf_ BK410.out 6; have hfz36_7 := bf_ BK410.out 7))
      refine bodyPost_ret (results_cell_row rfl _ _ gb410 25 #[.int .i64 0, .int .i64 0, .bool false, .int .i64 0, .string (⟨#[]⟩ : ByteArray), .bool false, .int .i64 0, .string (⟨#[]⟩ : ByteArray)] (0, 0) _ rfl (by (with_reducible repeat (first | refine kn_ ?_ _ | refine kd_ ?_ | refine ka_ ?_ _)); refine blk_put (cs := #[.int .i64 0, .int .i64 0, .bool false, .int .i64 0, .string (⟨#[]⟩ : ByteArray), .bool false, .int .i64 0, .string (⟨#[]⟩ : ByteArray)]) ?_ 7 _ rfl; (with_reducible repeat (first | refine kn_ ?_ _ | refine kd_ ?_ | refine ka_ ?_ _)); refine blk_put (cs := #[.int .i64 0, .int .i64 0, .bool false, .int .i64 0, .string (⟨#[]⟩ : ByteArray), .bool false, .int .i64 0, .string (⟨#[]⟩ : ByteArray)]) ?_ 6 _ rfl; (with_reducible repeat (first | refine kn_ ?_ _ | refine kd_ ?_ | refine ka_ ?_ _)); refine blk_put (cs := #[.int .i64 0, .int .i64 0, .bool false, .int .i64 0, .string (⟨#[]⟩ : ByteArray), .bool false, .int .i64 0, .string (⟨#[]⟩ : ByteArray)]) ?_ 5 _ rfl; (with_reducible repeat (first | refine kn_ ?_ _ | refine kd_ ?_ | refine ka_ ?_ _)); refine blk_put (cs := #[.int .i64 0, .int .i64 0, .bool false, .int .i64 0, .string (⟨#[]⟩ : ByteArray), .bool false, .int .i64 0, .string (⟨#[]⟩ : ByteArray)]) ?_ 4 _ rfl; (with_reducible repeat (first | refine kn_ ?_ _ | refine kd_ ?_ | refine ka_ ?_ _)); refine blk_put (cs := #[.int .i64 0, .int .i64 0, .bool false, .int .i64 0, .string (⟨#[]⟩ : ByteArray), .bool false, .int .i64 0, .string (⟨#[]⟩ : ByteArray)]) ?_ 3 _ rfl; (with_reducible repeat (first | refine kn_ ?_ _ | refine kd_ ?_ | refine ka_ ?_ _)); refine blk_put (cs := #[.int .i64 0, .int .i64 0, .bool false, .int .i64 0, .string (⟨#[]⟩ : ByteArray), .bool false, .int .i64 0, .string (⟨#[]⟩ : ByteArray)]) ?_ 2 _ rfl; (with_reducible repeat (first | refine kn_ ?_ _ | refine kd_ ?_ | refine ka_ ?_ _)); refine blk_put (cs := #[.int .i64 0, .int .i64 0, .bool false, .int .i64 0, .string (⟨#[]⟩ : ByteArray), .bool false, .int .i64 0, .string (⟨#[]⟩ : ByteArray)]) ?_ 1 _ rfl; (with_reducible repeat (first | refine kn_ ?_ _ | refine kd_ ?_ | refine ka_ ?_ _)); refine blk_put (cs := #[.int .i64 0, .int .i64 0, .bool false, .int .i64 0, .string (⟨#[]⟩ : ByteArray), .bool false, .int .i64 0, .string (⟨#[]⟩ : ByteArray)]) ?_ 0 _ rfl; (with_reducible repeat (first | refine kn_ ?_ _ | refine kd_ ?_ | refine ka_ ?_ _)); exact BK410.out) Try.underlying25 rfl (by kernel_rfl)) rfl ?_
      exact ⟨by first | rfl | (simp [errW_none, errW_some] <;> rfl) | (simp [*, errW_none, errW_some] <;> rfl), by repeat (first | (with_reducible first | exact HI0.out | apply IsS45.alloc | apply IsS45.drewN | apply IsS45.drew | apply IsS45.set_0 | apply IsS45.set_1 | apply IsS45.far (p := ⟨gb410, _, none⟩) (hne := NB0_410.out) | apply IsS45.far (p := ⟨gb414, _, none⟩) (hne := NB0_414.out)) | exact HI0.out), by repeat (first | (with_reducible first | exact HB.out | apply ba_ | apply bn_ | apply bd_ | refine bs_ ?_ (IsS45.ge HI0.out) | refine bs_ ?_ GE410.out | refine bs_ ?_ GE414.out) | exact HB.out), by repeat (first | (with_reducible first | exact HK.out | apply KeepBut.set_ | apply keep_drewN | apply keep_drew | apply keep_alloc | refine keep_far ?_ GW410.out _ | refine keep_far ?_ GW414.out _) | exact HK.out)⟩
     ·replace c30 := Bool.eq_false_iff.mpr c30
      subst c30
      have H1 : ((firkinref11_May.f kj19 a1 t411 t415 x415002_19 x415003_19 x415004_19 x415005_19 x415006_19 x415007_19).bind fun t430 => (if t430 = true then (some (t411, t415, x415002_19, x415003_19, x415004_19, x415005_19, x415006_19, x415007_19, x1000_19, false)) else ((firkinref01_S_Fail.f x1000_19 false).bind fun bt431 => (some (0, 0, false, 0, (⟨#[]⟩ : ByteArray), false, 0, (⟨#[]⟩ : ByteArray), bt431.1, bt431.2))))) = some (r1, r2, r3, r4, r5, r6, r7, r8, r9, r10) := by rw [if_neg (show ¬ (false = true) by decide)] at H; exact H
      clear H
      have H := H1
      clear H1
      replace H := Option.bind_eq_some_iff.mp H
      obtain ⟨t430, A370, H⟩ := H
      replace H : (if t430 = true then (some (t411, t415, x415002_19, x415003_19, x415004_19, x415005_19, x415006_19, x415007_19, x1000_19, false)) else ((firkinref01_S_Fail.f x1000_19 false).bind fun bt431 => (some (0, 0, false, 0, (⟨#[]⟩ : ByteArray), false, 0, (⟨#[]⟩ : ByteArray), bt431.1, bt431.2)))) = some (r1, r2, r3, r4, r5, r6, r7, r8, r9, r10) := H
      have A37 := A_ A370
      clear A370
      by_cases c38 : t430 = true
      ·subst c38
       have H1 : (some (t411, t415, x415002_19, x415003_19, x415004_19, x415005_19, x415006_19, x415007_19, x1000_19, false)) = some (r1, r2, r3, r4, r5, r6, r7, r8, r9, r10) := by rw [if_pos rfl] at H; exact H
       clear H
       have H := H1
       clear H1
       simp only [Option.some.injEq, Prod.mk.injEq] at H
       obtain ⟨rfl, rfl, rfl, rfl, rfl, rfl, rfl, rfl, rfl, rfl⟩ := H
       obtain ⟨ASz39_0, cSz39_0, HGz39, hgz39, ⟨HSz39_0, _⟩⟩ := HI0.out
       have hcz39_0 := cellS45_0 HGz39
       have hcz39_1 := cellS45_1 HGz39
       have hfz39_0 := bf_ HGz39 0
       have hfz39_1 := bf_ HGz39 1
       clear HGz39 hgz39
       have hnb40 := NB414_410.out
       have hnc40 := NB410_414.out
       have hnb41 := NB414_0.out
       have hnc41 := NB0_414.out
       have hcz42_0 : wc.cell? ⟨gb414, 0, none⟩ = some (.int .i64 t411) := (bc_ BK414.out 0).trans rfl
       have hcz42_1 : wc.cell? ⟨gb414, 1, none⟩ = some (.int .i64 t415) := (bc_ BK414.out 1).trans rfl
       have hcz42_2 : wc.cell? ⟨gb414, 2, none⟩ = some (.bool x415002_19) := (bc_ BK414.out 2).trans rfl
       have hcz42_3 : wc.cell? ⟨gb414, 3, none⟩ = some (.int .i64 x415003_19) := (bc_ BK414.out 3).trans rfl
       have hcz42_4 : wc.cell? ⟨gb414, 4, none⟩ = some (.string x415004_19) := (bc_ BK414.out 4).trans rfl
       have hcz42_5 : wc.cell? ⟨gb414, 5, none⟩ = some (.bool x415005_19) := (bc_ BK414.out 5).trans rfl
       have hcz42_6 : wc.cell? ⟨gb414, 6, none⟩ = some (.int .i64 x415006_19) := (bc_ BK414.out 6).trans rfl
       have hcz42_7 : wc.cell? ⟨gb414, 7, none⟩ = some (.string x415007_19) := (bc_ BK414.out 7).trans rfl
       have hfz42_0 := bf_ BK414.out 0
       have hfz42_1 := bf_ BK414.out 1
       have hfz42_2 := bf_ BK414.out 2
       have hfz42_3 := bf_ BK414.out 3
       have hfz42_4 := bf_ BK414.out 4
       have hfz42_5 := bf_ BK414.out 5
       have hfz42_6 := bf_ BK414.out 6
       have hfz42_7 := bf_ BK414.out 7
       go_wp2_with (first | (go_at_call 17; (with_reducible refine (firkinref11_May.calls kj19 a1 t411 t415 x415002_19 x415003_19 x415004_19 x415005_19 x415006_19 x415007_19 true _ A37.out).mono ?_); rintro e w43 ⟨rfl, hb⟩; have n0_ := A_ (blk_below (g := gb410) (o := .cells #[.int .i64 0, .int .i64 0, .bool false, .int .i64 0, .string (⟨#[]⟩ : ByteArray), .bool false, .int .i64 0, .string (⟨#[]⟩ : ByteArray)] 25 (0, 0)) (by (with_reducible repeat (first | refine kn_ ?_ _ | refine kd_ ?_ | refine ka_ ?_ _)); exact BK410.out) hb); have n1_ := A_ (blk_below (g := gb414) (o := .cells #[.int .i64 t411, .int .i64 t415, .bool x415002_19, .int .i64 x415003_19, .string x415004_19, .bool x415005_19, .int .i64 x415006_19, .string x415007_19] 25 (0, 0)) (by (with_reducible repeat (first | refine kn_ ?_ _ | refine kd_ ?_ | refine ka_ ?_ _)); exact BK414.out) hb); have n2_ := A_ (IsS45.below (by repeat (first | (with_reducible first | exact HI0.out | apply IsS45.alloc | apply IsS45.drewN | apply IsS45.drew | apply IsS45.set_0 | apply IsS45.set_1 | apply IsS45.far (p := ⟨gb410, _, none⟩) (hne := NB0_410.out) | apply IsS45.far (p := ⟨gb414, _, none⟩) (hne := NB0_414.out)) | exact HI0.out)) hb); have n3_ := A_ (KeepBut.trans (by repeat (first | (with_reducible first | exact HK.out | apply KeepBut.set_ | apply keep_drewN | apply keep_drew | apply keep_alloc | refine keep_far ?_ GW410.out _ | refine keep_far ?_ GW414.out _) | exact HK.out)) (KeepBut.of_below hb g none) (.inl rfl)); have n4_ := A_ (bp_ (by repeat (first | (with_reducible first | exact HB.out | apply ba_ | apply bn_ | apply bd_ | refine bs_ ?_ (IsS45.ge HI0.out) | refine bs_ ?_ GE410.out | refine bs_ ?_ GE414.out) | exact HB.out)) hb); clear BK410; clear BK414; clear HI0; clear HK; clear HB; have BK410 := n0_; have BK414 := n1_; have HI0 := n2_; have HK := n3_; have HB := n4_; clear n0_ n1_ n2_ n3_ n4_; (try clear hb); (try clear hb2); (try clear hk); (try clear hi); have hcz44_0 : w43.cell? ⟨gb414, 0, none⟩ = some (.int .i64 t411) := (bc_ BK414.out 0).trans rfl; have hcz44_1 : w43.cell? ⟨gb414, 1, none⟩ = some (.int .i64 t415) := (bc_ BK414.out 1).trans rfl; have hcz44_2 : w43.cell? ⟨gb414, 2, none⟩ = some (.bool x415002_19) := (bc_ BK414.out 2).trans rfl; have hcz44_3 : w43.cell? ⟨gb414, 3, none⟩ = some (.int .i64 x415003_19) := (bc_ BK414.out 3).trans rfl; have hcz44_4 : w43.cell? ⟨gb414, 4, none⟩ = some (.string x415004_19) := (bc_ BK414.out 4).trans rfl; have hcz44_5 : w43.cell? ⟨gb414, 5, none⟩ = some (.bool x415005_19) := (bc_ BK414.out 5).trans rfl; have hcz44_6 : w43.cell? ⟨gb414, 6, none⟩ = some (.int .i64 x415006_19) := (bc_ BK414.out 6).trans rfl; have hcz44_7 : w43.cell? ⟨gb414, 7, none⟩ = some (.string x415007_19) := (bc_ BK414.out 7).trans rfl; have hfz44_0 := bf_ BK414.out 0; have hfz44_1 := bf_ BK414.out 1; have hfz44_2 := bf_ BK414.out 2; have hfz44_3 := bf_ BK414.out 3; have hfz44_4 := bf_ BK414.out 4; have hfz44_5 := bf_ BK414.out 5; have hfz44_6 := bf_ BK414.out 6; have hfz44_7 := bf_ BK414.out 7; have hnb45 := NB410_0.out; have hnc45 := NB0_410.out; have hcz46_0 : w43.cell? ⟨gb410, 0, none⟩ = some (.int .i64 0) := (bc_ BK410.out 0).trans rfl; have hcz46_1 : w43.cell? ⟨gb410, 1, none⟩ = some (.int .i64 0) := (bc_ BK410.out 1).trans rfl; have hcz46_2 : w43.cell? ⟨gb410, 2, none⟩ = some (.bool false) := (bc_ BK410.out 2).trans rfl; have hcz46_3 : w43.cell? ⟨gb410, 3, none⟩ = some (.int .i64 0) := (bc_ BK410.out 3).trans rfl; have hcz46_4 : w43.cell? ⟨gb410, 4, none⟩ = some (.string (⟨#[]⟩ : ByteArray)) := (bc_ BK410.out 4).trans rfl; have hcz46_5 : w43.cell? ⟨gb410, 5, none⟩ = some (.bool false) := (bc_ BK410.out 5).trans rfl; have hcz46_6 : w43.cell? ⟨gb410, 6, none⟩ = some (.int .i64 0) := (bc_ BK410.out 6).trans rfl; have hcz46_7 : w43.cell? ⟨gb410, 7, none⟩ = some (.string (⟨#[]⟩ : ByteArray)) := (bc_ BK410.out 7).trans rfl; have hfz46_0 := bf_ BK410.out 0; have hfz46_1 := bf_ BK410.out 1; have hfz46_2 := bf_ BK410.out 2; have hfz46_3 := bf_ BK410.out 3; have hfz46_4 := bf_ BK410.out 4; have hfz46_5 := bf_ BK410.out 5; have hfz46_6 := bf_ BK410.out 6; have hfz46_7 := bf_ BK410.out 7))
       refine bodyPost_ret (results_cell_row rfl _ _ gb410 25 #[.int .i64 t411, .int .i64 t415, .bool x415002_19, .int .i64 x415003_19, .string x415004_19, .bool x415005_19, .int .i64 x415006_19, .string x415007_19] (0, 0) _ rfl (by (with_reducible repeat (first | refine kn_ ?_ _ | refine kd_ ?_ | refine ka_ ?_ _)); refine blk_put (cs := #[.int .i64 t411, .int .i64 t415, .bool x415002_19, .int .i64 x415003_19, .string x415004_19, .bool x415005_19, .int .i64 x415006_19, .string (⟨#[]⟩ : ByteArray)]) ?_ 7 _ rfl; (with_reducible repeat (first | refine kn_ ?_ _ | refine kd_ ?_ | refine ka_ ?_ _)); refine blk_put (cs := #[.int .i64 t411, .int .i64 t415, .bool x415002_19, .int .i64 x415003_19, .string x415004_19, .bool x415005_19, .int .i64 0, .string (⟨#[]⟩ : ByteArray)]) ?_ 6 _ rfl; (with_reducible repeat (first | refine kn_ ?_ _ | refine kd_ ?_ | refine ka_ ?_ _)); refine blk_put (cs := #[.int .i64 t411, .int .i64 t415, .bool x415002_19, .int .i64 x415003_19, .string x415004_19, .bool false, .int .i64 0, .string (⟨#[]⟩ : ByteArray)]) ?_ 5 _ rfl; (with_reducible repeat (first | refine kn_ ?_ _ | refine kd_ ?_ | refine ka_ ?_ _)); refine blk_put (cs := #[.int .i64 t411, .int .i64 t415, .bool x415002_19, .int .i64 x415003_19, .string (⟨#[]⟩ : ByteArray), .bool false, .int .i64 0, .string (⟨#[]⟩ : ByteArray)]) ?_ 4 _ rfl; (with_reducible repeat (first | refine kn_ ?_ _ | refine kd_ ?_ | refine ka_ ?_ _)); refine blk_put (cs := #[.int .i64 t411, .int .i64 t415, .bool x415002_19, .int .i64 0, .string (⟨#[]⟩ : ByteArray), .bool false, .int .i64 0, .string (⟨#[]⟩ : ByteArray)]) ?_ 3 _ rfl; (with_reducible repeat (first | refine kn_ ?_ _ | refine kd_ ?_ | refine ka_ ?_ _)); refine blk_put (cs := #[.int .i64 t411, .int .i64 t415, .bool false, .int .i64 0, .string (⟨#[]⟩ : ByteArray), .bool false, .int .i64 0, .string (⟨#[]⟩ : ByteArray)]) ?_ 2 _ rfl; (with_reducible repeat (first | refine kn_ ?_ _ | refine kd_ ?_ | refine ka_ ?_ _)); refine blk_put (cs := #[.int .i64 t411, .int .i64 0, .bool false, .int .i64 0, .string (⟨#[]⟩ : ByteArray), .bool false, .int .i64 0, .string (⟨#[]⟩ : ByteArray)]) ?_ 1 _ rfl; (with_reducible repeat (first | refine kn_ ?_ _ | refine kd_ ?_ | refine ka_ ?_ _)); refine blk_put (cs := #[.int .i64 0, .int .i64 0, .bool false, .int .i64 0, .string (⟨#[]⟩ : ByteArray), .bool false, .int .i64 0, .string (⟨#[]⟩ : ByteArray)]) ?_ 0 _ rfl; (with_reducible repeat (first | refine kn_ ?_ _ | refine kd_ ?_ | refine ka_ ?_ _)); exact BK410.out) Try.underlying25 rfl (by kernel_rfl)) rfl ?_
       exact ⟨by first | rfl | (simp [errW_none, errW_some] <;> rfl) | (simp [*, errW_none, errW_some] <;> rfl), by repeat (first | (with_reducible first | exact HI0.out | apply IsS45.alloc | apply IsS45.drewN | apply IsS45.drew | apply IsS45.set_0 | apply IsS45.set_1 | apply IsS45.far (p := ⟨gb410, _, none⟩) (hne := NB0_410.out) | apply IsS45.far (p := ⟨gb414, _, none⟩) (hne := NB0_414.out)) | exact HI0.out), by repeat (first | (with_reducible first | exact HB.out | apply ba_ | apply bn_ | apply bd_ | refine bs_ ?_ (IsS45.ge HI0.out) | refine bs_ ?_ GE410.out | refine bs_ ?_ GE414.out) | exact HB.out), by repeat (first | (with_reducible first | exact HK.out | apply KeepBut.set_ | apply keep_drewN | apply keep_drew | apply keep_alloc | refine keep_far ?_ GW410.out _ | refine keep_far ?_ GW414.out _) | exact HK.out)⟩
      ·replace c38 := Bool.eq_false_iff.mpr c38
       subst c38
       have H1 : ((firkinref01_S_Fail.f x1000_19 false).bind fun bt431 => (some (0, 0, false, 0, (⟨#[]⟩ : ByteArray), false, 0, (⟨#[]⟩ : ByteArray), bt431.1, bt431.2))) = some (r1, r2, r3, r4, r5, r6, r7, r8, r9, r10) := by rw [if_neg (show ¬ (false = true) by decide)] at H; exact H
       clear H
       have H := H1
       clear H1
       replace H := Option.bind_eq_some_iff.mp H
       obtain ⟨⟨t431, t432⟩, A470, H⟩ := H
       replace H : (some (0, 0, false, 0, (⟨#[]⟩ : ByteArray), false, 0, (⟨#[]⟩ : ByteArray), t431, t432)) = some (r1, r2, r3, r4, r5, r6, r7, r8, r9, r10) := H
       have A47 := A_ A470
       clear A470
       simp only [Option.some.injEq, Prod.mk.injEq] at H
       obtain ⟨rfl, rfl, rfl, rfl, rfl, rfl, rfl, rfl, rfl, rfl⟩ := H
       obtain ⟨ASz48_0, cSz48_0, HGz48, hgz48, ⟨HSz48_0, _⟩⟩ := HI0.out
       have hcz48_0 := cellS45_0 HGz48
       have hcz48_1 := cellS45_1 HGz48
       have hfz48_0 := bf_ HGz48 0
       have hfz48_1 := bf_ HGz48 1
       clear HGz48 hgz48
       have hnb49 := NB414_410.out
       have hnc49 := NB410_414.out
       have hnb50 := NB414_0.out
       have hnc50 := NB0_414.out
       have hcz51_0 : wc.cell? ⟨gb414, 0, none⟩ = some (.int .i64 t411) := (bc_ BK414.out 0).trans rfl
       have hcz51_1 : wc.cell? ⟨gb414, 1, none⟩ = some (.int .i64 t415) := (bc_ BK414.out 1).trans rfl
       have hcz51_2 : wc.cell? ⟨gb414, 2, none⟩ = some (.bool x415002_19) := (bc_ BK414.out 2).trans rfl
       have hcz51_3 : wc.cell? ⟨gb414, 3, none⟩ = some (.int .i64 x415003_19) := (bc_ BK414.out 3).trans rfl
       have hcz51_4 : wc.cell? ⟨gb414, 4, none⟩ = some (.string x415004_19) := (bc_ BK414.out 4).trans rfl
       have hcz51_5 : wc.cell? ⟨gb414, 5, none⟩ = some (.bool x415005_19) := (bc_ BK414.out 5).trans rfl
       have hcz51_6 : wc.cell? ⟨gb414, 6, none⟩ = some (.int .i64 x415006_19) := (bc_ BK414.out 6).trans rfl
       have hcz51_7 : wc.cell? ⟨gb414, 7, none⟩ = some (.string x415007_19) := (bc_ BK414.out 7).trans rfl
       have hfz51_0 := bf_ BK414.out 0
       have hfz51_1 := bf_ BK414.out 1
       have hfz51_2 := bf_ BK414.out 2
       have hfz51_3 := bf_ BK414.out 3
       have hfz51_4 := bf_ BK414.out 4
       have hfz51_5 := bf_ BK414.out 5
       have hfz51_6 := bf_ BK414.out 6
       have hfz51_7 := bf_ BK414.out 7
       go_wp2_with (first | (go_at_call 17; (with_reducible refine (firkinref11_May.calls kj19 a1 t411 t415 x415002_19 x415003_19 x415004_19 x415005_19 x415006_19 x415007_19 false _ A37.out).mono ?_); rintro e w52 ⟨rfl, hb⟩; have n0_ := A_ (blk_below (g := gb410) (o := .cells #[.int .i64 0, .int .i64 0, .bool false, .int .i64 0, .string (⟨#[]⟩ : ByteArray), .bool false, .int .i64 0, .string (⟨#[]⟩ : ByteArray)] 25 (0, 0)) (by (with_reducible repeat (first | refine kn_ ?_ _ | refine kd_ ?_ | refine ka_ ?_ _)); exact BK410.out) hb); have n1_ := A_ (blk_below (g := gb414) (o := .cells #[.int .i64 t411, .int .i64 t415, .bool x415002_19, .int .i64 x415003_19, .string x415004_19, .bool x415005_19, .int .i64 x415006_19, .string x415007_19] 25 (0, 0)) (by (with_reducible repeat (first | refine kn_ ?_ _ | refine kd_ ?_ | refine ka_ ?_ _)); exact BK414.out) hb); have n2_ := A_ (IsS45.below (by repeat (first | (with_reducible first | exact HI0.out | apply IsS45.alloc | apply IsS45.drewN | apply IsS45.drew | apply IsS45.set_0 | apply IsS45.set_1 | apply IsS45.far (p := ⟨gb410, _, none⟩) (hne := NB0_410.out) | apply IsS45.far (p := ⟨gb414, _, none⟩) (hne := NB0_414.out)) | exact HI0.out)) hb); have n3_ := A_ (KeepBut.trans (by repeat (first | (with_reducible first | exact HK.out | apply KeepBut.set_ | apply keep_drewN | apply keep_drew | apply keep_alloc | refine keep_far ?_ GW410.out _ | refine keep_far ?_ GW414.out _) | exact HK.out)) (KeepBut.of_below hb g none) (.inl rfl)); have n4_ := A_ (bp_ (by repeat (first | (with_reducible first | exact HB.out | apply ba_ | apply bn_ | apply bd_ | refine bs_ ?_ (IsS45.ge HI0.out) | refine bs_ ?_ GE410.out | refine bs_ ?_ GE414.out) | exact HB.out)) hb); clear BK410; clear BK414; clear HI0; clear HK; clear HB; have BK410 := n0_; have BK414 := n1_; have HI0 := n2_; have HK := n3_; have HB := n4_; clear n0_ n1_ n2_ n3_ n4_; (try clear hb); (try clear hb2); (try clear hk); (try clear hi)) | ((with_reducible refine gate_callee (f := 40) rfl ?_); refine goesL_ (some 43) rfl rfl Try.func40 (by kernel_rfl) rfl #[.pointer (some ⟨g, 0, none⟩)] rfl (by (try simp only [List.map_toArray, List.map_cons, List.map_nil]); first | done | rfl | (simp only [List.length_drop, List.length_take]; rfl)) ?_; (with_reducible refine (firkinref01_S_Fail.calls g x1000_19 false t431 t432 w0 _ ?side1 ?side2 A47.out).mono ?_); (case side1 => repeat (first | (with_reducible first | exact HI0.out | apply IsS45.alloc | apply IsS45.drewN | apply IsS45.drew | apply IsS45.set_0 | apply IsS45.set_1 | apply IsS45.far (p := ⟨gb410, _, none⟩) (hne := NB0_410.out) | apply IsS45.far (p := ⟨gb414, _, none⟩) (hne := NB0_414.out)) | exact HI0.out)); (case side2 => repeat (first | (with_reducible first | exact HB.out | apply ba_ | apply bn_ | apply bd_ | refine bs_ ?_ (IsS45.ge HI0.out) | refine bs_ ?_ GE410.out | refine bs_ ?_ GE414.out) | exact HB.out)); rintro e w53 ⟨rfl, hi, hb, hk⟩; refine ⟨_, rfl, ?_⟩; have n0_ := A_ (KeepBut.blk hk (g' := gb410) (o := .cells #[.int .i64 0, .int .i64 0, .bool false, .int .i64 0, .string (⟨#[]⟩ : ByteArray), .bool false, .int .i64 0, .string (⟨#[]⟩ : ByteArray)] 25 (0, 0)) (by (with_reducible repeat (first | refine kn_ ?_ _ | refine kd_ ?_ | refine ka_ ?_ _)); exact BK410.out) NB410_0.out (by simp)); have n1_ := A_ (KeepBut.blk hk (g' := gb414) (o := .cells #[.int .i64 t411, .int .i64 t415, .bool x415002_19, .int .i64 x415003_19, .string x415004_19, .bool x415005_19, .int .i64 x415006_19, .string x415007_19] 25 (0, 0)) (by (with_reducible repeat (first | refine kn_ ?_ _ | refine kd_ ?_ | refine ka_ ?_ _)); exact BK414.out) NB414_0.out (by simp)); have n2_ := A_ (KeepBut.trans (by repeat (first | (with_reducible first | exact HK.out | apply KeepBut.set_ | apply keep_drewN | apply keep_drew | apply keep_alloc | refine keep_far ?_ GW410.out _ | refine keep_far ?_ GW414.out _) | exact HK.out)) hk (.inl rfl)); have n3_ := A_ (hb); have n4_ := A_ (hi); clear BK410; clear BK414; clear HK; clear HB; clear HI0; have BK410 := n0_; have BK414 := n1_; have HK := n2_; have HB := n3_; have HI0 := n4_; clear n0_ n1_ n2_ n3_ n4_; (try clear hb); (try clear hb2); (try clear hk); (try clear hi); have hnb54 := NB410_0.out; have hnc54 := NB0_410.out; have hcz55_0 : w53.cell? ⟨gb410, 0, none⟩ = some (.int .i64 0) := (bc_ BK410.out 0).trans rfl; have hcz55_1 : w53.cell? ⟨gb410, 1, none⟩ = some (.int .i64 0) := (bc_ BK410.out 1).trans rfl; have hcz55_2 : w53.cell? ⟨gb410, 2, none⟩ = some (.bool false) := (bc_ BK410.out 2).trans rfl; have hcz55_3 : w53.cell? ⟨gb410, 3, none⟩ = some (.int .i64 0) := (bc_ BK410.out 3).trans rfl; have hcz55_4 : w53.cell? ⟨gb410, 4, none⟩ = some (.string (⟨#[]⟩ : ByteArray)) := (bc_ BK410.out 4).trans rfl; have hcz55_5 : w53.cell? ⟨gb410, 5, none⟩ = some (.bool false) := (bc_ BK410.out 5).trans rfl; have hcz55_6 : w53.cell? ⟨gb410, 6, none⟩ = some (.int .i64 0) := (bc_ BK410.out 6).trans rfl; have hcz55_7 : w53.cell? ⟨gb410, 7, none⟩ = some (.string (⟨#[]⟩ : ByteArray)) := (bc_ BK410.out 7).trans rfl; have hfz55_0 := bf_ BK410.out 0; have hfz55_1 := bf_ BK410.out 1; have hfz55_2 := bf_ BK410.out 2; have hfz55_3 := bf_ BK410.out 3; have hfz55_4 := bf_ BK410.out 4; have hfz55_5 := bf_ BK410.out 5; have hfz55_6 := bf_ BK410.out 6; have hfz55_7 := bf_ BK410.out 7))
       refine bodyPost_ret (results_cell_row rfl _ _ gb410 25 #[.int .i64 0, .int .i64 0, .bool false, .int .i64 0, .string (⟨#[]⟩ : ByteArray), .bool false, .int .i64 0, .string (⟨#[]⟩ : ByteArray)] (0, 0) _ rfl (by (with_reducible repeat (first | refine kn_ ?_ _ | refine kd_ ?_ | refine ka_ ?_ _)); refine blk_put (cs := #[.int .i64 0, .int .i64 0, .bool false, .int .i64 0, .string (⟨#[]⟩ : ByteArray), .bool false, .int .i64 0, .string (⟨#[]⟩ : ByteArray)]) ?_ 7 _ rfl; (with_reducible repeat (first | refine kn_ ?_ _ | refine kd_ ?_ | refine ka_ ?_ _)); refine blk_put (cs := #[.int .i64 0, .int .i64 0, .bool false, .int .i64 0, .string (⟨#[]⟩ : ByteArray), .bool false, .int .i64 0, .string (⟨#[]⟩ : ByteArray)]) ?_ 6 _ rfl; (with_reducible repeat (first | refine kn_ ?_ _ | refine kd_ ?_ | refine ka_ ?_ _)); refine blk_put (cs := #[.int .i64 0, .int .i64 0, .bool false, .int .i64 0, .string (⟨#[]⟩ : ByteArray), .bool false, .int .i64 0, .string (⟨#[]⟩ : ByteArray)]) ?_ 5 _ rfl; (with_reducible repeat (first | refine kn_ ?_ _ | refine kd_ ?_ | refine ka_ ?_ _)); refine blk_put (cs := #[.int .i64 0, .int .i64 0, .bool false, .int .i64 0, .string (⟨#[]⟩ : ByteArray), .bool false, .int .i64 0, .string (⟨#[]⟩ : ByteArray)]) ?_ 4 _ rfl; (with_reducible repeat (first | refine kn_ ?_ _ | refine kd_ ?_ | refine ka_ ?_ _)); refine blk_put (cs := #[.int .i64 0, .int .i64 0, .bool false, .int .i64 0, .string (⟨#[]⟩ : ByteArray), .bool false, .int .i64 0, .string (⟨#[]⟩ : ByteArray)]) ?_ 3 _ rfl; (with_reducible repeat (first | refine kn_ ?_ _ | refine kd_ ?_ | refine ka_ ?_ _)); refine blk_put (cs := #[.int .i64 0, .int .i64 0, .bool false, .int .i64 0, .string (⟨#[]⟩ : ByteArray), .bool false, .int .i64 0, .string (⟨#[]⟩ : ByteArray)]) ?_ 2 _ rfl; (with_reducible repeat (first | refine kn_ ?_ _ | refine kd_ ?_ | refine ka_ ?_ _)); refine blk_put (cs := #[.int .i64 0, .int .i64 0, .bool false, .int .i64 0, .string (⟨#[]⟩ : ByteArray), .bool false, .int .i64 0, .string (⟨#[]⟩ : ByteArray)]) ?_ 1 _ rfl; (with_reducible repeat (first | refine kn_ ?_ _ | refine kd_ ?_ | refine ka_ ?_ _)); refine blk_put (cs := #[.int .i64 0, .int .i64 0, .bool false, .int .i64 0, .string (⟨#[]⟩ : ByteArray), .bool false, .int .i64 0, .string (⟨#[]⟩ : ByteArray)]) ?_ 0 _ rfl; (with_reducible repeat (first | refine kn_ ?_ _ | refine kd_ ?_ | refine ka_ ?_ _)); exact BK410.out) Try.underlying25 rfl (by kernel_rfl)) rfl ?_
       exact ⟨by first | rfl | (simp [errW_none, errW_some] <;> rfl) | (simp [*, errW_none, errW_some] <;> rfl), by repeat (first | (with_reducible first | exact HI0.out | apply IsS45.alloc | apply IsS45.drewN | apply IsS45.drew | apply IsS45.set_0 | apply IsS45.set_1 | apply IsS45.far (p := ⟨gb410, _, none⟩) (hne := NB0_410.out) | apply IsS45.far (p := ⟨gb414, _, none⟩) (hne := NB0_414.out)) | exact HI0.out), by repeat (first | (with_reducible first | exact HB.out | apply ba_ | apply bn_ | apply bd_ | refine bs_ ?_ (IsS45.ge HI0.out) | refine bs_ ?_ GE410.out | refine bs_ ?_ GE414.out) | exact HB.out), by repeat (first | (with_reducible first | exact HK.out | apply KeepBut.set_ | apply keep_drewN | apply keep_drew | apply keep_alloc | refine keep_far ?_ GW410.out _ | refine keep_far ?_ GW414.out _) | exact HK.out)⟩

end Go.Proofs.Ytkdlfejokahohaa.X
/- What a source tells without being read from: the world stays as it is. -/
namespace Go.Proofs.Ytkdlfejokahohaa.X
open Go.RowKit Go.Proofs.YtkdlfejokahohaaW.PrintWords Go.Proofs.YtkdlfejokahohaaW.PrintLast Go.Proofs.YtkdlfejokahohaaW.PrintMore
set_option linter.unusedVariables false
set_option linter.unusedSimpArgs false
set_option maxHeartbeats 4000000 in
set_option maxRecDepth 100000 in
theorem vint_Source_Ok.same (g : Nat) (l : List Int) (bad : Bool) (w0 w : World) (hI : IsS93 w0 w g l bad) : Calls Try.prog 41 #[.pointer (some ⟨g, 0, none⟩)] w fun e w' => e = .returned (.bool !bad) ∧ w' = w := by
  have HI := Aside0.mk hI
  obtain ⟨A1, c1, hb1, hg1, hr1, hc1⟩ := hI
  have h0 : w.cell? ⟨g, 0, none⟩ = some (.slice A1 l.length c1) := (blk_cell hb1 0).trans rfl
  have h1 : w.cell? ⟨g, 1, none⟩ = some (.bool bad) := (blk_cell hb1 1).trans rfl
  have hu := Try.underlying93
  have hne : ∀ w : World, (binOp .neq 41 (.pointer (some ⟨g, 0, none⟩)) (.pointer none)).run Try.prog w = .ok (.bool true) w := fun w => run_neq_pointer_nil w 41 (some ⟨g, 0, none⟩) (by kernel_rfl)
  clear hb1
  cases bad <;>
    (go_enter Try.func41, Try.ntmps41
     go_wp2_with fail
     go_ret
     exact ⟨rfl, rfl⟩)
set_option maxHeartbeats 4000000 in
set_option maxRecDepth 100000 in
theorem vint_Source_Left.same (g : Nat) (l : List Int) (bad : Bool) (w0 w : World) (hI : IsS93 w0 w g l bad) : Calls Try.prog 42 #[.pointer (some ⟨g, 0, none⟩)] w fun e w' => e = .returned (.int .i64 (if bad = true then 0 else (l.length : Int))) ∧ w' = w := by
  have HI := Aside0.mk hI
  obtain ⟨A1, c1, hb1, hg1, hr1, hc1⟩ := hI
  have h0 : w.cell? ⟨g, 0, none⟩ = some (.slice A1 l.length c1) := (blk_cell hb1 0).trans rfl
  have h1 : w.cell? ⟨g, 1, none⟩ = some (.bool bad) := (blk_cell hb1 1).trans rfl
  have hu := Try.underlying93
  clear hb1
  cases bad <;>
    (go_enter Try.func42, Try.ntmps42
     go_wp2_with (refine (vint_Source_Ok.same g l _ w0 _ HI.out).mono ?_; rintro e w1 ⟨rfl, rfl⟩)
     go_ret
     exact ⟨rfl, rfl⟩)
theorem vint_Source_Left.same2 (g : Nat) (l : List Int) (bad : Bool) (w0 w : World) (hI : IsS93 w0 w g l bad) (hg : bad = true → l = []) : Calls Try.prog 42 #[.pointer (some ⟨g, 0, none⟩)] w fun e w' => e = .returned (.int .i64 (l.length : Int)) ∧ w' = w := by
  have h := vint_Source_Left.same g l bad w0 w hI
  have e : (if bad = true then (0 : Int) else (l.length : Int)) = (l.length : Int) := by
    cases bad
    · rfl
    · rw [hg rfl]; rfl
  rwa [e] at h
end Go.Proofs.Ytkdlfejokahohaa.X
/- What a source tells without being read from: the world stays as it is. -/
namespace Go.Proofs.Ytkdlfejokahohaa.X
open Go.RowKit Go.Proofs.YtkdlfejokahohaaW.PrintWords Go.Proofs.YtkdlfejokahohaaW.PrintLast Go.Proofs.YtkdlfejokahohaaW.PrintMore
set_option linter.unusedVariables false
set_option linter.unusedSimpArgs false
set_option maxHeartbeats 4000000 in
set_option maxRecDepth 100000 in
theorem vint_Source_End.same (g : Nat) (l : List Int) (bad : Bool) (w0 w : World) (hI : IsS93 w0 w g l bad) : Calls Try.prog 43 #[.pointer (some ⟨g, 0, none⟩)] w fun e w' => e = .returned (.bool (!bad && ((l.length : Int) == 0))) ∧ w' = w := by
  have HI := Aside0.mk hI
  obtain ⟨A1, c1, hb1, hg1, hr1, hc1⟩ := hI
  have h0 : w.cell? ⟨g, 0, none⟩ = some (.slice A1 l.length c1) := (blk_cell hb1 0).trans rfl
  have h1 : w.cell? ⟨g, 1, none⟩ = some (.bool bad) := (blk_cell hb1 1).trans rfl
  have hu := Try.underlying93
  clear hb1
  cases bad <;>
    (go_enter Try.func43, Try.ntmps43
     go_wp2_with (refine (vint_Source_Ok.same g l _ w0 _ HI.out).mono ?_; rintro e w1 ⟨rfl, rfl⟩)
     go_ret
     exact ⟨rfl, rfl⟩)
set_option maxHeartbeats 4000000 in
set_option maxRecDepth 100000 in
theorem firkinref01_S_End.same (g : Nat) (l : List Int) (bad : Bool) (w0 w : World) (hI : IsS45 w0 w g l bad) : Calls Try.prog 44 #[.pointer (some ⟨g, 0, none⟩)] w fun e w' => e = .returned (.bool (!bad && ((l.length : Int) == 0))) ∧ w' = w := by
  have HI := Aside0.mk hI
  obtain ⟨A1, c1, hb1, hg1, hr1, hc1⟩ := hI
  have h0 : w.cell? ⟨g, 0, none⟩ = some (.slice A1 l.length c1) := (blk_cell hb1 0).trans rfl
  have h1 : w.cell? ⟨g, 1, none⟩ = some (.bool bad) := (blk_cell hb1 1).trans rfl
  have hu := Try.underlying45
  clear hb1
  cases bad <;>
    (go_enter Try.func44, Try.ntmps44
     go_wp2_with fail
     go_ret
     exact ⟨rfl, rfl⟩)
end Go.Proofs.Ytkdlfejokahohaa.X
/- The contract of vint.From: a source that reads the bytes, in a block of its own. -/
namespace Go.Proofs.Ytkdlfejokahohaa.X
open Go.RowKit Go.Proofs.YtkdlfejokahohaaW.PrintWords Go.Proofs.YtkdlfejokahohaaW.PrintLast Go.Proofs.YtkdlfejokahohaaW.PrintMore
set_option linter.unusedVariables false
set_option linter.unusedSimpArgs false
def vint_From.f (l0 : List Int) : Option (List Int × Bool) := some (l0, false)
set_option maxHeartbeats 8000000 in
set_option maxRecDepth 100000 in
theorem vint_From.calls2 (A0 : Option Addr) (c0 : Nat) (l0 : List Int) (w0 w : World) (hB : Below w0.heap.size w0 w) (hr0 : Kd.C (Kd.int .u8) w0 A0 l0.length l0) (hc0 : l0.length ≤ c0) :
  Calls Try.prog 28 #[.slice A0 l0.length c0] w fun e w' => ∃ g_ : Nat, e = .returned (.pointer (some ⟨g_, 0, none⟩)) ∧ IsS93 w0 w' g_ l0 false ∧ Below w0.heap.size w0 w' ∧ Below w.heap.size w w' ∧ w.heap.size ≤ g_ := by
 have hu := Try.underlying93
 go_enter Try.func28, Try.ntmps28
 go_wp2
 go_ret
 refine ⟨w.heap.size, rfl, IsS93.new w0 w A0 c0 l0 false hB ⟨hr0, hc0⟩, hB.alloc hB.size _, below_alloc (Below.refl _ _) _, Nat.le_refl _⟩
theorem vint_From.calls (A0 : Option Addr) (c0 : Nat) (l0 : List Int) (r1 : List Int) (r2 : Bool) (w0 w : World) (hB : Below w0.heap.size w0 w) (hr0 : Kd.C (Kd.int .u8) w0 A0 l0.length l0) (hc0 : l0.length ≤ c0) (h : vint_From.f l0 = some (r1, r2)) :
  Calls Try.prog 28 #[.slice A0 l0.length c0] w fun e w' => ∃ g_ : Nat, e = .returned (.pointer (some ⟨g_, 0, none⟩)) ∧ IsS93 w0 w' g_ r1 r2 ∧ Below w0.heap.size w0 w' ∧ Below w.heap.size w w' := by
 unfold vint_From.f at h
 simp only [Option.some.injEq, Prod.mk.injEq] at h
 obtain ⟨rfl, rfl⟩ := h
 exact (vint_From.calls2 A0 c0 l0 w0 w hB hr0 hc0).mono fun e w' ⟨g, h1, h2, h3, h4, _⟩ => ⟨g, h1, h2, h3, h4⟩
end Go.Proofs.Ytkdlfejokahohaa.X
namespace Go.Proofs.Ytkdlfejokahohaa.X
open Go.RowKit Go.Proofs.YtkdlfejokahohaaW.PrintWords Go.Proofs.YtkdlfejokahohaaW.PrintLast Go.Proofs.YtkdlfejokahohaaW.PrintMore
attribute [local go_sem] max2_int min2_int max_two min_two max_three min_three max_four min_four   -- for this text's walks alone
set_option linter.unusedVariables false
open List (setIfInBounds_toArray set_cons_zero set_cons_succ)
set_option linter.unusedSimpArgs false

def zone_Has.f (k : Nat) (a0_0 : Int) (a0_1 : Int) (a0_2 : Bool) (a0_3 : Int) (a0_4 : ByteArray) (a0_5 : Bool) (a0_6 : Int) (a0_7 : ByteArray) (a1_0 : Bool) (a1_1 : Int) (a1_2 : ByteArray) : Option (Bool) := if a1_0 = true then (some (decide (a0_1 > 0))) else ((zone_some.f a0_0 a0_1 a0_2 a0_3 a0_4 a0_5 a0_6 a0_7).bind fun t125 => (if t125 = true then ((cell_Order.f k a1_0 a1_1 a1_2 a0_2 a0_3 a0_4).bind fun t126 => (if t126 ≥ 0 then ((cell_Order.f k a1_0 a1_1 a1_2 a0_5 a0_6 a0_7).bind fun t127 => (some (decide (t127 ≤ 0)))) else (some false))) else (some false)))
theorem zone_Has.mono : ∀ a0 a1 a2 a3 a4 a5 a6 a7 a8 a9 a10 k, LeO (zone_Has.f k a0 a1 a2 a3 a4 a5 a6 a7 a8 a9 a10) (zone_Has.f (k + 1) a0 a1 a2 a3 a4 a5 a6 a7 a8 a9 a10) := by
 intro a0 a1 a2 a3 a4 a5 a6 a7 a8 a9 a10 k
 unfold zone_Has.f
 repeat' first
   | (with_reducible exact cell_Order.mono _ _ _ _ _ _ _)
   | (with_reducible exact LeO.refl _)
   | (with_reducible exact LeO.none _)
   | (with_reducible refine LeO.ite ?_ ?_)
   | (with_reducible refine LeO.bind ?_ (fun _ => ?_))
   | exact cell_Order.mono _ _ _ _ _ _ _
   | exact LeO.none _
   | refine LeO.ite ?_ ?_
   | refine LeO.bind ?_ (fun _ => ?_)
theorem zone_Has.calls (k : Nat) (a0_0 : Int) (a0_1 : Int) (a0_2 : Bool) (a0_3 : Int) (a0_4 : ByteArray) (a0_5 : Bool) (a0_6 : Int) (a0_7 : ByteArray) (a1_0 : Bool) (a1_1 : Int) (a1_2 : ByteArray) (r : Bool) (w : World) (h : zone_Has.f k a0_0 a0_1 a0_2 a0_3 a0_4 a0_5 a0_6 a0_7 a1_0 a1_1 a1_2 = some r) :
  Calls Try.prog 18 #[.agg #[.int .i64 a0_0, .int .i64 a0_1, .bool a0_2, .int .i64 a0_3, .string a0_4, .bool a0_5, .int .i64 a0_6, .string a0_7], .agg #[.bool a1_0, .int .i64 a1_1, .string a1_2]] w fun e w' => e = .returned (.bool r) ∧ Below w.heap.size w w' := by
 have hu25 := Try.underlying25
 have hu23 := Try.underlying23
 have HB := A_ (Below.refl w.heap.size w)
 have H : (if a1_0 = true then (some (decide (a0_1 > 0))) else ((zone_some.f a0_0 a0_1 a0_2 a0_3 a0_4 a0_5 a0_6 a0_7).bind fun t125 => (if t125 = true then ((cell_Order.f k a1_0 a1_1 a1_2 a0_2 a0_3 a0_4).bind fun t126 => (if t126 ≥ 0 then ((cell_Order.f k a1_0 a1_1 a1_2 a0_5 a0_6 a0_7).bind fun t127 => (some (decide (t127 ≤ 0)))) else (some false))) else (some false)))) = some r := h
 clear h
 by_cases c3 : a1_0 = true
 ·subst c3
  have H1 : (some (decide (a0_1 > 0))) = some r := by rw [if_pos rfl] at H; exact H
  clear H
  have H := H1
  clear H1
  obtain rfl := Option.some.inj H
  go_enter Try.func18, Try.ntmps18
  go_wp2_with (first | ((with_reducible refine gate_dst (N := 2) rfl ?_); refine box_event ?hg (N := 2) ?hd (cs := #[.int .i64 a0_0, .int .i64 a0_1, .bool a0_2, .int .i64 a0_3, .string a0_4, .bool a0_5, .int .i64 a0_6, .string a0_7]) (t := 25) ?hr ?_; (case hd => rfl); (case hg => rfl); (case hr => first | (go_simp; done) | (go_simp; rfl)); intro gb123 hg w4 hbox hb; have n0_ := A_ (bp_ (by repeat (first | (with_reducible first | exact HB.out | apply ba_ | apply bn_ | apply bd_) | exact HB.out)) hb); have n1_ := A_ (hbox); have n2_ := A_ ((by rw [hg]; exact (below_size (by repeat (first | (with_reducible first | exact HB.out | apply ba_ | apply bn_ | apply bd_) | exact HB.out))) : w.heap.size ≤ gb123)); have n3_ := A_ ((by rw [hg]; exact (below_size (by repeat (first | (with_reducible first | exact HB.out | apply ba_ | apply bn_ | apply bd_) | exact HB.out))) : w.heap.size ≤ gb123)); clear HB; have HB := n0_; have BK123 := n1_; have GW123 := n2_; have GE123 := n3_; clear n0_ n1_ n2_ n3_; clear hb hbox hg) | ((with_reducible refine gate_dst (N := 3) rfl ?_); refine box_event ?hg (N := 3) ?hd (cs := #[.bool true, .int .i64 a1_1, .string a1_2]) (t := 23) ?hr ?_; (case hd => rfl); (case hg => rfl); (case hr => first | (go_simp; done) | (go_simp; rfl)); intro gb124 hg w5 hbox hb; have n0_ := A_ (blk_below (g := gb123) (o := .cells #[.int .i64 a0_0, .int .i64 a0_1, .bool a0_2, .int .i64 a0_3, .string a0_4, .bool a0_5, .int .i64 a0_6, .string a0_7] 25 (0, 0)) (by (with_reducible repeat (first | refine kn_ ?_ _ | refine kd_ ?_ | refine ka_ ?_ _)); exact BK123.out) hb); have n1_ := A_ (bp_ (by repeat (first | (with_reducible first | exact HB.out | apply ba_ | apply bn_ | apply bd_ | refine bs_ ?_ GE123.out) | exact HB.out)) hb); have n2_ := A_ (hbox); have n3_ := A_ ((by rw [hg]; exact (below_size (by repeat (first | (with_reducible first | exact HB.out | apply ba_ | apply bn_ | apply bd_ | refine bs_ ?_ GE123.out) | exact HB.out))) : w.heap.size ≤ gb124)); have n4_ := A_ ((by rw [hg]; exact (below_size (by repeat (first | (with_reducible first | exact HB.out | apply ba_ | apply bn_ | apply bd_ | refine bs_ ?_ GE123.out) | exact HB.out))) : w.heap.size ≤ gb124)); have n5_ := A_ ((by rw [hg]; exact Nat.ne_of_lt (blk_lt (g := gb123) (o := .cells #[.int .i64 a0_0, .int .i64 a0_1, .bool a0_2, .int .i64 a0_3, .string a0_4, .bool a0_5, .int .i64 a0_6, .string a0_7] 25 (0, 0)) (by (with_reducible repeat (first | refine kn_ ?_ _ | refine kd_ ?_ | refine ka_ ?_ _)); exact BK123.out)) : gb123 ≠ gb124)); have n6_ := A_ ((by rw [hg]; exact Nat.ne_of_gt (blk_lt (g := gb123) (o := .cells #[.int .i64 a0_0, .int .i64 a0_1, .bool a0_2, .int .i64 a0_3, .string a0_4, .bool a0_5, .int .i64 a0_6, .string a0_7] 25 (0, 0)) (by (with_reducible repeat (first | refine kn_ ?_ _ | refine kd_ ?_ | refine ka_ ?_ _)); exact BK123.out)) : gb124 ≠ gb123)); clear BK123; clear HB; have BK123 := n0_; have HB := n1_; have BK124 := n2_; have GW124 := n3_; have GE124 := n4_; have NB123_124 := n5_; have NB124_123 := n6_; clear n0_ n1_ n2_ n3_ n4_ n5_ n6_; clear hb hbox hg; have hnb6 := NB124_123.out; have hnc6 := NB123_124.out; have hcz7_0 : w5.cell? ⟨gb124, 0, none⟩ = some (.bool true) := (bc_ BK124.out 0).trans rfl; have hcz7_1 : w5.cell? ⟨gb124, 1, none⟩ = some (.int .i64 a1_1) := (bc_ BK124.out 1).trans rfl; have hcz7_2 : w5.cell? ⟨gb124, 2, none⟩ = some (.string a1_2) := (bc_ BK124.out 2).trans rfl; have hfz7_0 := bf_ BK124.out 0; have hfz7_1 := bf_ BK124.out 1; have hfz7_2 := bf_ BK124.out 2; have hcz8_0 : w5.cell? ⟨gb123, 0, none⟩ = some (.int .i64 a0_0) := (bc_ BK123.out 0).trans rfl; have hcz8_1 : w5.cell? ⟨gb123, 1, none⟩ = some (.int .i64 a0_1) := (bc_ BK123.out 1).trans rfl; have hcz8_2 : w5.cell? ⟨gb123, 2, none⟩ = some (.bool a0_2) := (bc_ BK123.out 2).trans rfl; have hcz8_3 : w5.cell? ⟨gb123, 3, none⟩ = some (.int .i64 a0_3) := (bc_ BK123.out 3).trans rfl; have hcz8_4 : w5.cell? ⟨gb123, 4, none⟩ = some (.string a0_4) := (bc_ BK123.out 4).trans rfl; have hcz8_5 : w5.cell? ⟨gb123, 5, none⟩ = some (.bool a0_5) := (bc_ BK123.out 5).trans rfl; have hcz8_6 : w5.cell? ⟨gb123, 6, none⟩ = some (.int .i64 a0_6) := (bc_ BK123.out 6).trans rfl; have hcz8_7 : w5.cell? ⟨gb123, 7, none⟩ = some (.string a0_7) := (bc_ BK123.out 7).trans rfl; have hfz8_0 := bf_ BK123.out 0; have hfz8_1 := bf_ BK123.out 1; have hfz8_2 := bf_ BK123.out 2; have hfz8_3 := bf_ BK123.out 3; have hfz8_4 := bf_ BK123.out 4; have hfz8_5 := bf_ BK123.out 5; have hfz8_6 := bf_ BK123.out 6; have hfz8_7 := bf_ BK123.out 7))
  go_ret
  exact ⟨by first | rfl | (simp [errW_none, errW_some] <;> rfl) | (simp [*, errW_none, errW_some] <;> rfl), by repeat (first | (with_reducible first | exact HB.out | apply ba_ | apply bn_ | apply bd_ | refine bs_ ?_ GE123.out | refine bs_ ?_ GE124.out) | exact HB.out)⟩
 ·replace c3 := Bool.eq_false_iff.mpr c3
  subst c3
  have H1 : ((zone_some.f a0_0 a0_1 a0_2 a0_3 a0_4 a0_5 a0_6 a0_7).bind fun t125 => (if t125 = true then ((cell_Order.f k false a1_1 a1_2 a0_2 a0_3 a0_4).bind fun t126 => (if t126 ≥ 0 then ((cell_Order.f k false a1_1 a1_2 a0_5 a0_6 a0_7).bind fun t127 => (some (decide (t127 ≤ 0)))) else (some false))) else (some false))) = some r := by rw [if_neg (show ¬ (false = true) by decide)] at H; exact H
  clear H
  have H := H1
  clear H1
  replace H := Option.bind_eq_some_iff.mp H
  obtain ⟨t125, A90, H⟩ := H
  replace H : (if t125 = true then ((cell_Order.f k false a1_1 a1_2 a0_2 a0_3 a0_4).bind fun t126 => (if t126 ≥ 0 then ((cell_Order.f k false a1_1 a1_2 a0_5 a0_6 a0_7).bind fun t127 => (some (decide (t127 ≤ 0)))) else (some false))) else (some false)) = some r := H
  have A9 := A_ A90
  clear A90
  by_cases c10 : t125 = true
  ·subst c10
   have H1 : ((cell_Order.f k false a1_1 a1_2 a0_2 a0_3 a0_4).bind fun t126 => (if t126 ≥ 0 then ((cell_Order.f k false a1_1 a1_2 a0_5 a0_6 a0_7).bind fun t127 => (some (decide (t127 ≤ 0)))) else (some false))) = some r := by rw [if_pos rfl] at H; exact H
   clear H
   have H := H1
   clear H1
   replace H := Option.bind_eq_some_iff.mp H
   obtain ⟨t126, A110, H⟩ := H
   replace H : (if t126 ≥ 0 then ((cell_Order.f k false a1_1 a1_2 a0_5 a0_6 a0_7).bind fun t127 => (some (decide (t127 ≤ 0)))) else (some false)) = some r := H
   have A11 := A_ A110
   clear A110
   by_cases c12 : t126 ≥ 0
   ·rw [if_pos c12] at H
    have c12b0 : decide (0 ≤ t126) = true := decide_eq_true c12
    clear c12
    replace H := Option.bind_eq_some_iff.mp H
    obtain ⟨t127, A130, H⟩ := H
    replace H : (some (decide (t127 ≤ 0))) = some r := H
    have A13 := A_ A130
    clear A130
    obtain rfl := Option.some.inj H
    go_enter Try.func18, Try.ntmps18
    go_wp2_with (first | ((with_reducible refine gate_dst (N := 2) rfl ?_); refine box_event ?hg (N := 2) ?hd (cs := #[.int .i64 a0_0, .int .i64 a0_1, .bool a0_2, .int .i64 a0_3, .string a0_4, .bool a0_5, .int .i64 a0_6, .string a0_7]) (t := 25) ?hr ?_; (case hd => rfl); (case hg => rfl); (case hr => first | (go_simp; done) | (go_simp; rfl)); intro gb123 hg w14 hbox hb; have n0_ := A_ (bp_ (by repeat (first | (with_reducible first | exact HB.out | apply ba_ | apply bn_ | apply bd_) | exact HB.out)) hb); have n1_ := A_ (hbox); have n2_ := A_ ((by rw [hg]; exact (below_size (by repeat (first | (with_reducible first | exact HB.out | apply ba_ | apply bn_ | apply bd_) | exact HB.out))) : w.heap.size ≤ gb123)); have n3_ := A_ ((by rw [hg]; exact (below_size (by repeat (first | (with_reducible first | exact HB.out | apply ba_ | apply bn_ | apply bd_) | exact HB.out))) : w.heap.size ≤ gb123)); clear HB; have HB := n0_; have BK123 := n1_; have GW123 := n2_; have GE123 := n3_; clear n0_ n1_ n2_ n3_; clear hb hbox hg) | ((with_reducible refine gate_dst (N := 3) rfl ?_); refine box_event ?hg (N := 3) ?hd (cs := #[.bool false, .int .i64 a1_1, .string a1_2]) (t := 23) ?hr ?_; (case hd => rfl); (case hg => rfl); (case hr => first | (go_simp; done) | (go_simp; rfl)); intro gb124 hg w15 hbox hb; have n0_ := A_ (blk_below (g := gb123) (o := .cells #[.int .i64 a0_0, .int .i64 a0_1, .bool a0_2, .int .i64 a0_3, .string a0_4, .bool a0_5, .int .i64 a0_6, .string a0_7] 25 (0, 0)) (by (with_reducible repeat (first | refine kn_ ?_ _ | refine kd_ ?_ | refine ka_ ?_ _)); exact BK123.out) hb); have n1_ := A_ (bp_ (by repeat (first | (with_reducible first | exact HB.out | apply ba_ | apply bn_ | apply bd_ | refine bs_ ?_ GE123.out) | exact HB.out)) hb); have n2_ := A_ (hbox); have n3_ := A_ ((by rw [hg]; exact (below_size (by repeat (first | (with_reducible first | exact HB.out | apply ba_ | apply bn_ | apply bd_ | refine bs_ ?_ GE123.out) | exact HB.out))) : w.heap.size ≤ gb124)); have n4_ := A_ ((by rw [hg]; exact (below_size (by repeat (first | (with_reducible first | exact HB.out | apply ba_ | apply bn_ | apply bd_ | refine bs_ ?_ GE123.out) | exact HB.out))) : w.heap.size ≤ gb124)); have n5_ := A_ ((by rw [hg]; exact Nat.ne_of_lt (blk_lt (g := gb123) (o := .cells #[.int .i64 a0_0, .int .i64 a0_1, .bool a0_2, .int .i64 a0_3, .string a0_4, .bool a0_5, .int .i64 a0_6, .string a0_7] 25 (0, 0)) (by (with_reducible repeat (first | refine kn_ ?_ _ | refine kd_ ?_ | refine ka_ ?_ _)); exact BK123.out)) : gb123 ≠ gb124)); have n6_ := A_ ((by rw [hg]; exact Nat.ne_of_gt (blk_lt (g := gb123) (o := .cells #[.int .i64 a0_0, .int .i64 a0_1, .bool a0_2, .int .i64 a0_3, .string a0_4, .bool a0_5, .int .i64 a0_6, .string a0_7] 25 (0, 0)) (by (with_reducible repeat (first | refine kn_ ?_ _ | refine kd_ ?_ | refine ka_ ?_ _)); exact BK123.out)) : gb124 ≠ gb123)); clear BK123; clear HB; have BK123 := n0_; have HB := n1_; have BK124 := n2_; have GW124 := n3_; have GE124 := n4_; have NB123_124 := n5_; have NB124_123 := n6_; clear n0_ n1_ n2_ n3_ n4_ n5_ n6_; clear hb hbox hg; have hnb16 := NB124_123.out; have hnc16 := NB123_124.out; have hcz17_0 : w15.cell? ⟨gb124, 0, none⟩ = some (.bool false) := (bc_ BK124.out 0).trans rfl; have hcz17_1 : w15.cell? ⟨gb124, 1, none⟩ = some (.int .i64 a1_1) := (bc_ BK124.out 1).trans rfl; have hcz17_2 : w15.cell? ⟨gb124, 2, none⟩ = some (.string a1_2) := (bc_ BK124.out 2).trans rfl; have hfz17_0 := bf_ BK124.out 0; have hfz17_1 := bf_ BK124.out 1; have hfz17_2 := bf_ BK124.out 2; have hcz18_0 : w15.cell? ⟨gb123, 0, none⟩ = some (.int .i64 a0_0) := (bc_ BK123.out 0).trans rfl; have hcz18_1 : w15.cell? ⟨gb123, 1, none⟩ = some (.int .i64 a0_1) := (bc_ BK123.out 1).trans rfl; have hcz18_2 : w15.cell? ⟨gb123, 2, none⟩ = some (.bool a0_2) := (bc_ BK123.out 2).trans rfl; have hcz18_3 : w15.cell? ⟨gb123, 3, none⟩ = some (.int .i64 a0_3) := (bc_ BK123.out 3).trans rfl; have hcz18_4 : w15.cell? ⟨gb123, 4, none⟩ = some (.string a0_4) := (bc_ BK123.out 4).trans rfl; have hcz18_5 : w15.cell? ⟨gb123, 5, none⟩ = some (.bool a0_5) := (bc_ BK123.out 5).trans rfl; have hcz18_6 : w15.cell? ⟨gb123, 6, none⟩ = some (.int .i64 a0_6) := (bc_ BK123.out 6).trans rfl; have hcz18_7 : w15.cell? ⟨gb123, 7, none⟩ = some (.string a0_7) := (bc_ BK123.out 7).trans rfl; have hfz18_0 := bf_ BK123.out 0; have hfz18_1 := bf_ BK123.out 1; have hfz18_2 := bf_ BK123.out 2; have hfz18_3 := bf_ BK123.out 3; have hfz18_4 := bf_ BK123.out 4; have hfz18_5 := bf_ BK123.out 5; have hfz18_6 := bf_ BK123.out 6; have hfz18_7 := bf_ BK123.out 7) | ((with_reducible refine gate_callee (f := 72) rfl ?_); refine goesL_ (some 11) rfl rfl Try.func72 (by kernel_rfl) rfl #[.agg #[.int .i64 a0_0, .int .i64 a0_1, .bool a0_2, .int .i64 a0_3, .string a0_4, .bool a0_5, .int .i64 a0_6, .string a0_7]] rfl (by (try simp only [List.map_toArray, List.map_cons, List.map_nil]); first | done | rfl | (simp only [List.length_drop, List.length_take]; rfl)) ?_; (with_reducible refine (zone_some.calls a0_0 a0_1 a0_2 a0_3 a0_4 a0_5 a0_6 a0_7 true _ A9.out).mono ?_); rintro e w19 ⟨rfl, hb⟩; refine ⟨_, rfl, ?_⟩; have n0_ := A_ (blk_below (g := gb123) (o := .cells #[.int .i64 a0_0, .int .i64 a0_1, .bool a0_2, .int .i64 a0_3, .string a0_4, .bool a0_5, .int .i64 a0_6, .string a0_7] 25 (0, 0)) (by (with_reducible repeat (first | refine kn_ ?_ _ | refine kd_ ?_ | refine ka_ ?_ _)); exact BK123.out) hb); have n1_ := A_ (blk_below (g := gb124) (o := .cells #[.bool false, .int .i64 a1_1, .string a1_2] 23 (0, 0)) (by (with_reducible repeat (first | refine kn_ ?_ _ | refine kd_ ?_ | refine ka_ ?_ _)); exact BK124.out) hb); have n2_ := A_ (bp_ (by repeat (first | (with_reducible first | exact HB.out | apply ba_ | apply bn_ | apply bd_ | refine bs_ ?_ GE123.out | refine bs_ ?_ GE124.out) | exact HB.out)) hb); clear BK123; clear BK124; clear HB; have BK123 := n0_; have BK124 := n1_; have HB := n2_; clear n0_ n1_ n2_; (try clear hb); (try clear hb2); (try clear hk); (try clear hi); have hcz20_0 : w19.cell? ⟨gb124, 0, none⟩ = some (.bool false) := (bc_ BK124.out 0).trans rfl; have hcz20_1 : w19.cell? ⟨gb124, 1, none⟩ = some (.int .i64 a1_1) := (bc_ BK124.out 1).trans rfl; have hcz20_2 : w19.cell? ⟨gb124, 2, none⟩ = some (.string a1_2) := (bc_ BK124.out 2).trans rfl; have hfz20_0 := bf_ BK124.out 0; have hfz20_1 := bf_ BK124.out 1; have hfz20_2 := bf_ BK124.out 2; have hcz21_0 : w19.cell? ⟨gb123, 0, none⟩ = some (.int .i64 a0_0) := (bc_ BK123.out 0).trans rfl; have hcz21_1 : w19.cell? ⟨gb123, 1, none⟩ = some (.int .i64 a0_1) := (bc_ BK123.out 1).trans rfl; have hcz21_2 : w19.cell? ⟨gb123, 2, none⟩ = some (.bool a0_2) := (bc_ BK123.out 2).trans rfl; have hcz21_3 : w19.cell? ⟨gb123, 3, none⟩ = some (.int .i64 a0_3) := (bc_ BK123.out 3).trans rfl; have hcz21_4 : w19.cell? ⟨gb123, 4, none⟩ = some (.string a0_4) := (bc_ BK123.out 4).trans rfl; have hcz21_5 : w19.cell? ⟨gb123, 5, none⟩ = some (.bool a0_5) := (bc_ BK123.out 5).trans rfl; have hcz21_6 : w19.cell? ⟨gb123, 6, none⟩ = some (.int .i64 a0_6) := (bc_ BK123.out 6).trans rfl; have hcz21_7 : w19.cell? ⟨gb123, 7, none⟩ = some (.string a0_7) := (bc_ BK123.out 7).trans rfl; have hfz21_0 := bf_ BK123.out 0; have hfz21_1 := bf_ BK123.out 1; have hfz21_2 := bf_ BK123.out 2; have hfz21_3 := bf_ BK123.out 3; have hfz21_4 := bf_ BK123.out 4; have hfz21_5 := bf_ BK123.out 5; have hfz21_6 := bf_ BK123.out 6; have hfz21_7 := bf_ BK123.out 7) | (go_at_call 74; (with_reducible refine (cell_Order.calls k false a1_1 a1_2 a0_2 a0_3 a0_4 t126 _ A11.out).mono ?_); rintro e w22 ⟨rfl, hb⟩; have n0_ := A_ (blk_below (g := gb123) (o := .cells #[.int .i64 a0_0, .int .i64 a0_1, .bool a0_2, .int .i64 a0_3, .string a0_4, .bool a0_5, .int .i64 a0_6, .string a0_7] 25 (0, 0)) (by (with_reducible repeat (first | refine kn_ ?_ _ | refine kd_ ?_ | refine ka_ ?_ _)); exact BK123.out) hb); have n1_ := A_ (blk_below (g := gb124) (o := .cells #[.bool false, .int .i64 a1_1, .string a1_2] 23 (0, 0)) (by (with_reducible repeat (first | refine kn_ ?_ _ | refine kd_ ?_ | refine ka_ ?_ _)); exact BK124.out) hb); have n2_ := A_ (bp_ (by repeat (first | (with_reducible first | exact HB.out | apply ba_ | apply bn_ | apply bd_ | refine bs_ ?_ GE123.out | refine bs_ ?_ GE124.out) | exact HB.out)) hb); clear BK123; clear BK124; clear HB; have BK123 := n0_; have BK124 := n1_; have HB := n2_; clear n0_ n1_ n2_; (try clear hb); (try clear hb2); (try clear hk); (try clear hi); (try clear A11); have hcz23_0 : w22.cell? ⟨gb124, 0, none⟩ = some (.bool false) := (bc_ BK124.out 0).trans rfl; have hcz23_1 : w22.cell? ⟨gb124, 1, none⟩ = some (.int .i64 a1_1) := (bc_ BK124.out 1).trans rfl; have hcz23_2 : w22.cell? ⟨gb124, 2, none⟩ = some (.string a1_2) := (bc_ BK124.out 2).trans rfl; have hfz23_0 := bf_ BK124.out 0; have hfz23_1 := bf_ BK124.out 1; have hfz23_2 := bf_ BK124.out 2; have hcz24_0 : w22.cell? ⟨gb123, 0, none⟩ = some (.int .i64 a0_0) := (bc_ BK123.out 0).trans rfl; have hcz24_1 : w22.cell? ⟨gb123, 1, none⟩ = some (.int .i64 a0_1) := (bc_ BK123.out 1).trans rfl; have hcz24_2 : w22.cell? ⟨gb123, 2, none⟩ = some (.bool a0_2) := (bc_ BK123.out 2).trans rfl; have hcz24_3 : w22.cell? ⟨gb123, 3, none⟩ = some (.int .i64 a0_3) := (bc_ BK123.out 3).trans rfl; have hcz24_4 : w22.cell? ⟨gb123, 4, none⟩ = some (.string a0_4) := (bc_ BK123.out 4).trans rfl; have hcz24_5 : w22.cell? ⟨gb123, 5, none⟩ = some (.bool a0_5) := (bc_ BK123.out 5).trans rfl; have hcz24_6 : w22.cell? ⟨gb123, 6, none⟩ = some (.int .i64 a0_6) := (bc_ BK123.out 6).trans rfl; have hcz24_7 : w22.cell? ⟨gb123, 7, none⟩ = some (.string a0_7) := (bc_ BK123.out 7).trans rfl; have hfz24_0 := bf_ BK123.out 0; have hfz24_1 := bf_ BK123.out 1; have hfz24_2 := bf_ BK123.out 2; have hfz24_3 := bf_ BK123.out 3; have hfz24_4 := bf_ BK123.out 4; have hfz24_5 := bf_ BK123.out 5; have hfz24_6 := bf_ BK123.out 6; have hfz24_7 := bf_ BK123.out 7) | (go_at_call 74; (with_reducible refine (cell_Order.calls k false a1_1 a1_2 a0_5 a0_6 a0_7 t127 _ A13.out).mono ?_); rintro e w25 ⟨rfl, hb⟩; have n0_ := A_ (blk_below (g := gb123) (o := .cells #[.int .i64 a0_0, .int .i64 a0_1, .bool a0_2, .int .i64 a0_3, .string a0_4, .bool a0_5, .int .i64 a0_6, .string a0_7] 25 (0, 0)) (by (with_reducible repeat (first | refine kn_ ?_ _ | refine kd_ ?_ | refine ka_ ?_ _)); exact BK123.out) hb); have n1_ := A_ (blk_below (g := gb124) (o := .cells #[.bool false, .int .i64 a1_1, .string a1_2] 23 (0, 0)) (by (with_reducible repeat (first | refine kn_ ?_ _ | refine kd_ ?_ | refine ka_ ?_ _)); exact BK124.out) hb); have n2_ := A_ (bp_ (by repeat (first | (with_reducible first | exact HB.out | apply ba_ | apply bn_ | apply bd_ | refine bs_ ?_ GE123.out | refine bs_ ?_ GE124.out) | exact HB.out)) hb); clear BK123; clear BK124; clear HB; have BK123 := n0_; have BK124 := n1_; have HB := n2_; clear n0_ n1_ n2_; (try clear hb); (try clear hb2); (try clear hk); (try clear hi); (try clear A13)))
    go_ret
    exact ⟨by first | rfl | (simp [errW_none, errW_some] <;> rfl) | (simp [*, errW_none, errW_some] <;> rfl), by repeat (first | (with_reducible first | exact HB.out | apply ba_ | apply bn_ | apply bd_ | refine bs_ ?_ GE123.out | refine bs_ ?_ GE124.out) | exact HB.out)⟩
   ·rw [if_neg c12] at H
    have c12b0 : decide (0 ≤ t126) = false := decide_eq_false c12
    clear c12
    obtain rfl := Option.some.inj H
    go_enter Try.func18, Try.ntmps18
    go_wp2_with (first | ((with_reducible refine gate_dst (N := 2) rfl ?_); refine box_event ?hg (N := 2) ?hd (cs := #[.int .i64 a0_0, .int .i64 a0_1, .bool a0_2, .int .i64 a0_3, .string a0_4, .bool a0_5, .int .i64 a0_6, .string a0_7]) (t := 25) ?hr ?_; (case hd => rfl); (case hg => rfl); (case hr => first | (go_simp; done) | (go_simp; rfl)); intro gb123 hg w26 hbox hb; have n0_ := A_ (bp_ (by repeat (first | (with_reducible first | exact HB.out | apply ba_ | apply bn_ | apply bd_) | exact HB.out)) hb); have n1_ := A_ (hbox); have n2_ := A_ ((by rw [hg]; exact (below_size (by repeat (first | (with_reducible first | exact HB.out | apply ba_ | apply bn_ | apply bd_) | exact HB.out))) : w.heap.size ≤ gb123)); have n3_ := A_ ((by rw [hg]; exact (below_size (by repeat (first | (with_reducible first | exact HB.out | apply ba_ | apply bn_ | apply bd_) | exact HB.out))) : w.heap.size ≤ gb123)); clear HB; have HB := n0_; have BK123 := n1_; have GW123 := n2_; have GE123 := n3_; clear n0_ n1_ n2_ n3_; clear hb hbox hg) | ((with_reducible refine gate_dst (N := 3) rfl ?_); refine box_event ?hg (N := 3) ?hd (cs := #[.bool false, .int .i64 a1_1, .string a1_2]) (t := 23) ?hr ?_; (case hd => rfl); (case hg => rfl); (case hr => first | (go_simp; done) | (go_simp; rfl)); intro gb124 hg w27 hbox hb; have n0_ := A_ (blk_below (g := gb123) (o := .cells #[.int .i64 a0_0, .int .i64 a0_1, .bool a0_2, .int .i64 a0_3, .string a0_4, .bool a0_5, .int .i64 a0_6, .string a0_7] 25 (0, 0)) (by (with_reducible repeat (first | refine kn_ ?_ _ | refine kd_ ?_ | refine ka_ ?_ _)); exact BK123.out) hb); have n1_ := A_ (bp_ (by repeat (first | (with_reducible first | exact HB.out | apply ba_ | apply bn_ | apply bd_ | refine bs_ ?_ GE123.out) | exact HB.out)) hb); have n2_ := A_ (hbox); have n3_ := A_ ((by rw [hg]; exact (below_size (by repeat (first | (with_reducible first | exact HB.out | apply ba_ | apply bn_ | apply bd_ | refine bs_ ?_ GE123.out) | exact HB.out))) : w.heap.size ≤ gb124)); have n4_ := A_ ((by rw [hg]; exact (below_size (by repeat (first | (with_reducible first | exact HB.out | apply ba_ | apply bn_ | apply bd_ | refine bs_ ?_ GE123.out) | exact HB.out))) : w.heap.size ≤ gb124)); have n5_ := A_ ((by rw [hg]; exact Nat.ne_of_lt (blk_lt (g := gb123) (o := .cells #[.int .i64 a0_0, .int .i64 a0_1, .bool a0_2, .int .i64 a0_3, .string a0_4, .bool a0_5, .int .i64 a0_6, .string a0_7] 25 (0, 0)) (by (with_reducible repeat (first | refine kn_ ?_ _ | refine kd_ ?_ | refine ka_ ?_ _)); exact BK123.out)) : gb123 ≠ gb124)); have n6_ := A_ ((by rw [hg]; exact Nat.ne_of_gt (blk_lt (g := gb123) (o := .cells #[.int .i64 a0_0, .int .i64 a0_1, .bool a0_2, .int .i64 a0_3, .string a0_4, .bool a0_5, .int .i64 a0_6, .string a0_7] 25 (0, 0)) (by (with_reducible repeat (first | refine kn_ ?_ _ | refine kd_ ?_ | refine ka_ ?_ _)); exact BK123.out)) : gb124 ≠ gb123)); clear BK123; clear HB; have BK123 := n0_; have HB := n1_; have BK124 := n2_; have GW124 := n3_; have GE124 := n4_; have NB123_124 := n5_; have NB124_123 := n6_; clear n0_ n1_ n2_ n3_ n4_ n5_ n6_; clear hb hbox hg; have hnb28 := NB124_123.out; have hnc28 := NB123_124.out; have hcz29_0 : w27.cell? ⟨gb124, 0, none⟩ = some (.bool false) := (bc_ BK124.out 0).trans rfl; have hcz29_1 : w27.cell? ⟨gb124, 1, none⟩ = some (.int .i64 a1_1) := (bc_ BK124.out 1).trans rfl; have hcz29_2 : w27.cell? ⟨gb124, 2, none⟩ = some (.string a1_2) := (bc_ BK124.out 2).trans rfl; have hfz29_0 := bf_ BK124.out 0; have hfz29_1 := bf_ BK124.out 1; have hfz29_2 := bf_ BK124.out 2; have hcz30_0 : w27.cell? ⟨gb123, 0, none⟩ = some (.int .i64 a0_0) := (bc_ BK123.out 0).trans rfl; have hcz30_1 : w27.cell? ⟨gb123, 1, none⟩ = some (.int .i64 a0_1) := (bc_ BK123.out 1).trans rfl; have hcz30_2 : w27.cell? ⟨gb123, 2, none⟩ = some (.bool a0_2) := (bc_ BK123.out 2).trans rfl; have hcz30_3 : w27.cell? ⟨gb123, 3, none⟩ = some (.int .i64 a0_3) := (bc_ BK123.out 3).trans rfl; have hcz30_4 : w27.cell? ⟨gb123, 4, none⟩ = some (.string a0_4) := (bc_ BK123.out 4).trans rfl; have hcz30_5 : w27.cell? ⟨gb123, 5, none⟩ = some (.bool a0_5) := (bc_ BK123.out 5).trans rfl; have hcz30_6 : w27.cell? ⟨gb123, 6, none⟩ = some (.int .i64 a0_6) := (bc_ BK123.out 6).trans rfl; have hcz30_7 : w27.cell? ⟨gb123, 7, none⟩ = some (.string a0_7) := (bc_ BK123.out 7).trans rfl; have hfz30_0 := bf_ BK123.out 0; have hfz30_1 := bf_ BK123.out 1; have hfz30_2 := bf_ BK123.out 2; have hfz30_3 := bf_ BK123.out 3; have hfz30_4 := bf_ BK123.out 4; have hfz30_5 := bf_ BK123.out 5; have hfz30_6 := bf_ BK123.out 6; have hfz30_7 := bf_ BK123.out 7) | ((with_reducible refine gate_callee (f := 72) rfl ?_); refine goesL_ (some 11) rfl rfl Try.func72 (by kernel_rfl) rfl #[.agg #[.int .i64 a0_0, .int .i64 a0_1, .bool a0_2, .int .i64 a0_3, .string a0_4, .bool a0_5, .int .i64 a0_6, .string a0_7]] rfl (by (try simp only [List.map_toArray, List.map_cons, List.map_nil]); first | done | rfl | (simp only [List.length_drop, List.length_take]; rfl)) ?_; (with_reducible refine (zone_some.calls a0_0 a0_1 a0_2 a0_3 a0_4 a0_5 a0_6 a0_7 true _ A9.out).mono ?_); rintro e w31 ⟨rfl, hb⟩; refine ⟨_, rfl, ?_⟩; have n0_ := A_ (blk_below (g := gb123) (o := .cells #[.int .i64 a0_0, .int .i64 a0_1, .bool a0_2, .int .i64 a0_3, .string a0_4, .bool a0_5, .int .i64 a0_6, .string a0_7] 25 (0, 0)) (by (with_reducible repeat (first | refine kn_ ?_ _ | refine kd_ ?_ | refine ka_ ?_ _)); exact BK123.out) hb); have n1_ := A_ (blk_below (g := gb124) (o := .cells #[.bool false, .int .i64 a1_1, .string a1_2] 23 (0, 0)) (by (with_reducible repeat (first | refine kn_ ?_ _ | refine kd_ ?_ | refine ka_ ?_ _)); exact BK124.out) hb); have n2_ := A_ (bp_ (by repeat (first | (with_reducible first | exact HB.out | apply ba_ | apply bn_ | apply bd_ | refine bs_ ?_ GE123.out | refine bs_ ?_ GE124.out) | exact HB.out)) hb); clear BK123; clear BK124; clear HB; have BK123 := n0_; have BK124 := n1_; have HB := n2_; clear n0_ n1_ n2_; (try clear hb); (try clear hb2); (try clear hk); (try clear hi); have hcz32_0 : w31.cell? ⟨gb124, 0, none⟩ = some (.bool false) := (bc_ BK124.out 0).trans rfl; have hcz32_1 : w31.cell? ⟨gb124, 1, none⟩ = some (.int .i64 a1_1) := (bc_ BK124.out 1).trans rfl; have hcz32_2 : w31.cell? ⟨gb124, 2, none⟩ = some (.string a1_2) := (bc_ BK124.out 2).trans rfl; have hfz32_0 := bf_ BK124.out 0; have hfz32_1 := bf_ BK124.out 1; have hfz32_2 := bf_ BK124.out 2; have hcz33_0 : w31.cell? ⟨gb123, 0, none⟩ = some (.int .i64 a0_0) := (bc_ BK123.out 0).trans rfl; have hcz33_1 : w31.cell? ⟨gb123, 1, none⟩ = some (.int .i64 a0_1) := (bc_ BK123.out 1).trans rfl; have hcz33_2 : w31.cell? ⟨gb123, 2, none⟩ = some (.bool a0_2) := (bc_ BK123.out 2).trans rfl; have hcz33_3 : w31.cell? ⟨gb123, 3, none⟩ = some (.int .i64 a0_3) := (bc_ BK123.out 3).trans rfl; have hcz33_4 : w31.cell? ⟨gb123, 4, none⟩ = some (.string a0_4) := (bc_ BK123.out 4).trans rfl; have hcz33_5 : w31.cell? ⟨gb123, 5, none⟩ = some (.bool a0_5) := (bc_ BK123.out 5).trans rfl; have hcz33_6 : w31.cell? ⟨gb123, 6, none⟩ = some (.int .i64 a0_6) := (bc_ BK123.out 6).trans rfl; have hcz33_7 : w31.cell? ⟨gb123, 7, none⟩ = some (.string a0_7) := (bc_ BK123.out 7).trans rfl; have hfz33_0 := bf_ BK123.out 0; have hfz33_1 := bf_ BK123.out 1; have hfz33_2 := bf_ BK123.out 2; have hfz33_3 := bf_ BK123.out 3; have hfz33_4 := bf_ BK123.out 4; have hfz33_5 := bf_ BK123.out 5; have hfz33_6 := bf_ BK123.out 6; have hfz33_7 := bf_ BK123.out 7) | (go_at_call 74; (with_reducible refine (cell_Order.calls k false a1_1 a1_2 a0_2 a0_3 a0_4 t126 _ A11.out).mono ?_); rintro e w34 ⟨rfl, hb⟩; have n0_ := A_ (blk_below (g := gb123) (o := .cells #[.int .i64 a0_0, .int .i64 a0_1, .bool a0_2, .int .i64 a0_3, .string a0_4, .bool a0_5, .int .i64 a0_6, .string a0_7] 25 (0, 0)) (by (with_reducible repeat (first | refine kn_ ?_ _ | refine kd_ ?_ | refine ka_ ?_ _)); exact BK123.out) hb); have n1_ := A_ (blk_below (g := gb124) (o := .cells #[.bool false, .int .i64 a1_1, .string a1_2] 23 (0, 0)) (by (with_reducible repeat (first | refine kn_ ?_ _ | refine kd_ ?_ | refine ka_ ?_ _)); exact BK124.out) hb); have n2_ := A_ (bp_ (by repeat (first | (with_reducible first | exact HB.out | apply ba_ | apply bn_ | apply bd_ | refine bs_ ?_ GE123.out | refine bs_ ?_ GE124.out) | exact HB.out)) hb); clear BK123; clear BK124; clear HB; have BK123 := n0_; have BK124 := n1_; have HB := n2_; clear n0_ n1_ n2_; (try clear hb); (try clear hb2); (try clear hk); (try clear hi); (try clear A11)))
    go_ret
    exact ⟨by first | rfl | (simp [errW_none, errW_some] <;> rfl) | (simp [*, errW_none, errW_some] <;> rfl), by repeat (first | (with_reducible first | exact HB.out | apply ba_ | apply bn_ | apply bd_ | refine bs_ ?_ GE123.out | refine bs_ ?_ GE124.out) | exact HB.out)⟩
  ·replace c10 := Bool.eq_false_iff.mpr c10
   subst c10
   have H1 : (some false) = some r := by rw [if_neg (show ¬ (false = true) by decide)] at H; exact H
   clear H
   have H := H1
   clear H1
   obtain rfl := Option.some.inj H
   go_enter Try.func18, Try.ntmps18
   go_wp2_with (first | ((with_reducible refine gate_dst (N := 2) rfl ?_); refine box_event ?hg (N := 2) ?hd (cs := #[.int .i64 a0_0, .int .i64 a0_1, .bool a0_2, .int .i64 a0_3, .string a0_4, .bool a0_5, .int .i64 a0_6, .string a0_7]) (t := 25) ?hr ?_; (case hd => rfl); (case hg => rfl); (case hr => first | (go_simp; done) | (go_simp; rfl)); intro gb123 hg w35 hbox hb; have n0_ := A_ (bp_ (by repeat (first | (with_reducible first | exact HB.out | apply ba_ | apply bn_ | apply bd_) | exact HB.out)) hb); have n1_ := A_ (hbox); have n2_ := A_ ((by rw [hg]; exact (below_size (by repeat (first | (with_reducible first | exact HB.out | apply ba_ | apply bn_ | apply bd_) | exact HB.out))) : w.heap.size ≤ gb123)); have n3_ := A_ ((by rw [hg]; exact (below_size (by repeat (first | (with_reducible first | exact HB.out | apply ba_ | apply bn_ | apply bd_) | exact HB.out))) : w.heap.size ≤ gb123)); clear HB; have HB := n0_; have BK123 := n1_; have GW123 := n2_; have GE123 := n3_; clear n0_ n1_ n2_ n3_; clear hb hbox hg) | ((with_reducible refine gate_dst (N := 3) rfl ?_); refine box_event ?hg (N := 3) ?hd (cs := #[.bool false, .int .i64 a1_1, .string a1_2]) (t := 23) ?hr ?_; (case hd => rfl); (case hg => rfl); (case hr => first | (go_simp; done) | (go_simp; rfl)); intro gb124 hg w36 hbox hb; have n0_ := A_ (blk_below (g := gb123) (o := .cells #[.int .i64 a0_0, .int .i64 a0_1, .bool a0_2, .int .i64 a0_3, .string a0_4, .bool a0_5, .int .i64 a0_6, .string a0_7] 25 (0, 0)) (by (with_reducible repeat (first | refine kn_ ?_ _ | refine kd_ ?_ | refine ka_ ?_ _)); exact BK123.out) hb); have n1_ := A_ (bp_ (by repeat (first | (with_reducible first | exact HB.out | apply ba_ | apply bn_ | apply bd_ | refine bs_ ?_ GE123.out) | exact HB.out)) hb); have n2_ := A_ (hbox); have n3_ := A_ ((by rw [hg]; exact (below_size (by repeat (first | (with_reducible first | exact HB.out | apply ba_ | apply bn_ | apply bd_ | refine bs_ ?_ GE123.out) | exact HB.out))) : w.heap.size ≤ gb124)); have n4_ := A_ ((by rw [hg]; exact (below_size (by repeat (first | (with_reducible first | exact HB.out | apply ba_ | apply bn_ | apply bd_ | refine bs_ ?_ GE123.out) | exact HB.out))) : w.heap.size ≤ gb124)); have n5_ := A_ ((by rw [hg]; exact Nat.ne_of_lt (blk_lt (g := gb123) (o := .cells #[.int .i64 a0_0, .int .i64 a0_1, .bool a0_2, .int .i64 a0_3, .string a0_4, .bool a0_5, .int .i64 a0_6, .string a0_7] 25 (0, 0)) (by (with_reducible repeat (first | refine kn_ ?_ _ | refine kd_ ?_ | refine ka_ ?_ _)); exact BK123.out)) : gb123 ≠ gb124)); have n6_ := A_ ((by rw [hg]; exact Nat.ne_of_gt (blk_lt (g := gb123) (o := .cells #[.int .i64 a0_0, .int .i64 a0_1, .bool a0_2, .int .i64 a0_3, .string a0_4, .bool a0_5, .int .i64 a0_6, .string a0_7] 25 (0, 0)) (by (with_reducible repeat (first | refine kn_ ?_ _ | refine kd_ ?_ | refine ka_ ?_ _)); exact BK123.out)) : gb124 ≠ gb123)); clear BK123; clear HB; have BK123 := n0_; have HB := n1_; have BK124 := n2_; have GW124 := n3_; have GE124 := n4_; have NB123_124 := n5_; have NB124_123 := n6_; clear n0_ n1_ n2_ n3_ n4_ n5_ n6_; clear hb hbox hg; have hnb37 := NB124_123.out; have hnc37 := NB123_124.out; have hcz38_0 : w36.cell? ⟨gb124, 0, none⟩ = some (.bool false) := (bc_ BK124.out 0).trans rfl; have hcz38_1 : w36.cell? ⟨gb124, 1, none⟩ = some (.int .i64 a1_1) := (bc_ BK124.out 1).trans rfl; have hcz38_2 : w36.cell? ⟨gb124, 2, none⟩ = some (.string a1_2) := (bc_ BK124.out 2).trans rfl; have hfz38_0 := bf_ BK124.out 0; have hfz38_1 := bf_ BK124.out 1; have hfz38_2 := bf_ BK124.out 2; have hcz39_0 : w36.cell? ⟨gb123, 0, none⟩ = some (.int .i64 a0_0) := (bc_ BK123.out 0).trans rfl; have hcz39_1 : w36.cell? ⟨gb123, 1, none⟩ = some (.int .i64 a0_1) := (bc_ BK123.out 1).trans rfl; have hcz39_2 : w36.cell? ⟨gb123, 2, none⟩ = some (.bool a0_2) := (bc_ BK123.out 2).trans rfl; have hcz39_3 : w36.cell? ⟨gb123, 3, none⟩ = some (.int .i64 a0_3) := (bc_ BK123.out 3).trans rfl; have hcz39_4 : w36.cell? ⟨gb123, 4, none⟩ = some (.string a0_4) := (bc_ BK123.out 4).trans rfl; have hcz39_5 : w36.cell? ⟨gb123, 5, none⟩ = some (.bool a0_5) := (bc_ BK123.out 5).trans rfl; have hcz39_6 : w36.cell? ⟨gb123, 6, none⟩ = some (.int .i64 a0_6) := (bc_ BK123.out 6).trans rfl; have hcz39_7 : w36.cell? ⟨gb123, 7, none⟩ = some (.string a0_7) := (bc_ BK123.out 7).trans rfl; have hfz39_0 := bf_ BK123.out 0; have hfz39_1 := bf_ BK123.out 1; have hfz39_2 := bf_ BK123.out 2; have hfz39_3 := bf_ BK123.out 3; have hfz39_4 := bf_ BK123.out 4; have hfz39_5 := bf_ BK123.out 5; have hfz39_6 := bf_ BK123.out 6; have hfz39_7 := bf_ BK123.out 7) | ((with_reducible refine gate_callee (f := 72) rfl ?_); refine goesL_ (some 11) rfl rfl Try.func72 (by kernel_rfl) rfl #[.agg #[.int .i64 a0_0, .int .i64 a0_1, .bool a0_2, .int .i64 a0_3, .string a0_4, .bool a0_5, .int .i64 a0_6, .string a0_7]] rfl (by (try simp only [List.map_toArray, List.map_cons, List.map_nil]); first | done | rfl | (simp only [List.length_drop, List.length_take]; rfl)) ?_; (with_reducible refine (zone_some.calls a0_0 a0_1 a0_2 a0_3 a0_4 a0_5 a0_6 a0_7 false _ A9.out).mono ?_); rintro e w40 ⟨rfl, hb⟩; refine ⟨_, rfl, ?_⟩; have n0_ := A_ (blk_below (g := gb123) (o := .cells #[.int .i64 a0_0, .int .i64 a0_1, .bool a0_2, .int .i64 a0_3, .string a0_4, .bool a0_5, .int .i64 a0_6, .string a0_7] 25 (0, 0)) (by (with_reducible repeat (first | refine kn_ ?_ _ | refine kd_ ?_ | refine ka_ ?_ _)); exact BK123.out) hb); have n1_ := A_ (blk_below (g := gb124) (o := .cells #[.bool false, .int .i64 a1_1, .string a1_2] 23 (0, 0)) (by (with_reducible repeat (first | refine kn_ ?_ _ | refine kd_ ?_ | refine ka_ ?_ _)); exact BK124.out) hb); have n2_ := A_ (bp_ (by repeat (first | (with_reducible first | exact HB.out | apply ba_ | apply bn_ | apply bd_ | refine bs_ ?_ GE123.out | refine bs_ ?_ GE124.out) | exact HB.out)) hb); clear BK123; clear BK124; clear HB; have BK123 := n0_; have BK124 := n1_; have HB := n2_; clear n0_ n1_ n2_; (try clear hb); (try clear hb2); (try clear hk); (try clear hi)))
   go_ret
   exact ⟨by first | rfl | (simp [errW_none, errW_some] <;> rfl) | (simp [*, errW_none, errW_some] <;> rfl), by repeat (first | (with_reducible first | exact HB.out | apply ba_ | apply bn_ | apply bd_ | refine bs_ ?_ GE123.out | refine bs_ ?_ GE124.out) | exact HB.out)⟩

def firkinref11_Has.f (k : Nat) (a0_0 : Int) (a0_1 : Int) (a0_2 : Bool) (a0_3 : Int) (a0_4 : ByteArray) (a0_5 : Bool) (a0_6 : Int) (a0_7 : ByteArray) (a1_0 : Bool) (a1_1 : Int) (a1_2 : ByteArray) : Option (Bool) := if a1_0 = true then (some (decide (a0_1 > 0))) else (if a0_0 > a0_1 then ((firkinref09_Order.f k a1_0 a1_1 a1_2 a0_2 a0_3 a0_4).bind fun t130 => (if t130 ≥ 0 then ((firkinref09_Order.f k a1_0 a1_1 a1_2 a0_5 a0_6 a0_7).bind fun t131 => (some (decide (t131 ≤ 0)))) else (some false))) else (some false))
theorem firkinref11_Has.mono : ∀ a0 a1 a2 a3 a4 a5 a6 a7 a8 a9 a10 k, LeO (firkinref11_Has.f k a0 a1 a2 a3 a4 a5 a6 a7 a8 a9 a10) (firkinref11_Has.f (k + 1) a0 a1 a2 a3 a4 a5 a6 a7 a8 a9 a10) := by
 intro a0 a1 a2 a3 a4 a5 a6 a7 a8 a9 a10 k
 unfold firkinref11_Has.f
 repeat' first
   | (with_reducible exact firkinref09_Order.mono _ _ _ _ _ _ _)
   | (with_reducible exact LeO.refl _)
   | (with_reducible exact LeO.none _)
   | (with_reducible refine LeO.ite ?_ ?_)
   | (with_reducible refine LeO.bind ?_ (fun _ => ?_))
   | exact firkinref09_Order.mono _ _ _ _ _ _ _
   | exact LeO.none _
   | refine LeO.ite ?_ ?_
   | refine LeO.bind ?_ (fun _ => ?_)
theorem firkinref11_Has.calls (k : Nat) (a0_0 : Int) (a0_1 : Int) (a0_2 : Bool) (a0_3 : Int) (a0_4 : ByteArray) (a0_5 : Bool) (a0_6 : Int) (a0_7 : ByteArray) (a1_0 : Bool) (a1_1 : Int) (a1_2 : ByteArray) (r : Bool) (w : World) (h : firkinref11_Has.f k a0_0 a0_1 a0_2 a0_3 a0_4 a0_5 a0_6 a0_7 a1_0 a1_1 a1_2 = some r) :
  Calls Try.prog 19 #[.agg #[.int .i64 a0_0, .int .i64 a0_1, .bool a0_2, .int .i64 a0_3, .string a0_4, .bool a0_5, .int .i64 a0_6, .string a0_7], .agg #[.bool a1_0, .int .i64 a1_1, .string a1_2]] w fun e w' => e = .returned (.bool r) ∧ Below w.heap.size w w' := by
 have hu25 := Try.underlying25
 have hu23 := Try.underlying23
 have HB := A_ (Below.refl w.heap.size w)
 have H : (if a1_0 = true then (some (decide (a0_1 > 0))) else (if a0_0 > a0_1 then ((firkinref09_Order.f k a1_0 a1_1 a1_2 a0_2 a0_3 a0_4).bind fun t130 => (if t130 ≥ 0 then ((firkinref09_Order.f k a1_0 a1_1 a1_2 a0_5 a0_6 a0_7).bind fun t131 => (some (decide (t131 ≤ 0)))) else (some false))) else (some false))) = some r := h
 clear h
 by_cases c3 : a1_0 = true
 ·subst c3
  have H1 : (some (decide (a0_1 > 0))) = some r := by rw [if_pos rfl] at H; exact H
  clear H
  have H := H1
  clear H1
  obtain rfl := Option.some.inj H
  go_enter Try.func19, Try.ntmps19
  go_wp2_with (first | ((with_reducible refine gate_dst (N := 2) rfl ?_); refine box_event ?hg (N := 2) ?hd (cs := #[.int .i64 a0_0, .int .i64 a0_1, .bool a0_2, .int .i64 a0_3, .string a0_4, .bool a0_5, .int .i64 a0_6, .string a0_7]) (t := 25) ?hr ?_; (case hd => rfl); (case hg => rfl); (case hr => first | (go_simp; done) | (go_simp; rfl)); intro gb128 hg w4 hbox hb; have n0_ := A_ (bp_ (by repeat (first | (with_reducible first | exact HB.out | apply ba_ | apply bn_ | apply bd_) | exact HB.out)) hb); have n1_ := A_ (hbox); have n2_ := A_ ((by rw [hg]; exact (below_size (by repeat (first | (with_reducible first | exact HB.out | apply ba_ | apply bn_ | apply bd_) | exact HB.out))) : w.heap.size ≤ gb128)); have n3_ := A_ ((by rw [hg]; exact (below_size (by repeat (first | (with_reducible first | exact HB.out | apply ba_ | apply bn_ | apply bd_) | exact HB.out))) : w.heap.size ≤ gb128)); clear HB; have HB := n0_; have BK128 := n1_; have GW128 := n2_; have GE128 := n3_; clear n0_ n1_ n2_ n3_; clear hb hbox hg) | ((with_reducible refine gate_dst (N := 3) rfl ?_); refine box_event ?hg (N := 3) ?hd (cs := #[.bool true, .int .i64 a1_1, .string a1_2]) (t := 23) ?hr ?_; (case hd => rfl); (case hg => rfl); (case hr => first | (go_simp; done) | (go_simp; rfl)); intro gb129 hg w5 hbox hb; have n0_ := A_ (blk_below (g := gb128) (o := .cells #[.int .i64 a0_0, .int .i64 a0_1, .bool a0_2, .int .i64 a0_3, .string a0_4, .bool a0_5, .int .i64 a0_6, .string a0_7] 25 (0, 0)) (by (with_reducible repeat (first | refine kn_ ?_ _ | refine kd_ ?_ | refine ka_ ?_ _)); exact BK128.out) hb); have n1_ := A_ (bp_ (by repeat (first | (with_reducible first | exact HB.out | apply ba_ | apply bn_ | apply bd_ | refine bs_ ?_ GE128.out) | exact HB.out)) hb); have n2_ := A_ (hbox); have n3_ := A_ ((by rw [hg]; exact (below_size (by repeat (first | (with_reducible first | exact HB.out | apply ba_ | apply bn_ | apply bd_ | refine bs_ ?_ GE128.out) | exact HB.out))) : w.heap.size ≤ gb129)); have n4_ := A_ ((by rw [hg]; exact (below_size (by repeat (first | (with_reducible first | exact HB.out | apply ba_ | apply bn_ | apply bd_ | refine bs_ ?_ GE128.out) | exact HB.out))) : w.heap.size ≤ gb129)); have n5_ := A_ ((by rw [hg]; exact Nat.ne_of_lt (blk_lt (g := gb128) (o := .cells #[.int .i64 a0_0, .int .i64 a0_1, .bool a0_2, .int .i64 a0_3, .string a0_4, .bool a0_5, .int .i64 a0_6, .string a0_7] 25 (0, 0)) (by (with_reducible repeat (first | refine kn_ ?_ _ | refine kd_ ?_ | refine ka_ ?_ _)); exact BK128.out)) : gb128 ≠ gb129)); have n6_ := A_ ((by rw [hg]; exact Nat.ne_of_gt (blk_lt (g := gb128) (o := .cells #[.int .i64 a0_0, .int .i64 a0_1, .bool a0_2, .int .i64 a0_3, .string a0_4, .bool a0_5, .int .i64 a0_6, .string a0_7] 25 (0, 0)) (by (with_reducible repeat (first | refine kn_ ?_ _ | refine kd_ ?_ | refine ka_ ?_ _)); exact BK128.out)) : gb129 ≠ gb128)); clear BK128; clear HB; have BK128 := n0_; have HB := n1_; have BK129 := n2_; have GW129 := n3_; have GE129 := n4_; have NB128_129 := n5_; have NB129_128 := n6_; clear n0_ n1_ n2_ n3_ n4_ n5_ n6_; clear hb hbox hg; have hnb6 := NB129_128.out; have hnc6 := NB128_129.out; have hcz7_0 : w5.cell? ⟨gb129, 0, none⟩ = some (.bool true) := (bc_ BK129.out 0).trans rfl; have hcz7_1 : w5.cell? ⟨gb129, 1, none⟩ = some (.int .i64 a1_1) := (bc_ BK129.out 1).trans rfl; have hcz7_2 : w5.cell? ⟨gb129, 2, none⟩ = some (.string a1_2) := (bc_ BK129.out 2).trans rfl; have hfz7_0 := bf_ BK129.out 0; have hfz7_1 := bf_ BK129.out 1; have hfz7_2 := bf_ BK129.out 2; have hcz8_0 : w5.cell? ⟨gb128, 0, none⟩ = some (.int .i64 a0_0) := (bc_ BK128.out 0).trans rfl; have hcz8_1 : w5.cell? ⟨gb128, 1, none⟩ = some (.int .i64 a0_1) := (bc_ BK128.out 1).trans rfl; have hcz8_2 : w5.cell? ⟨gb128, 2, none⟩ = some (.bool a0_2) := (bc_ BK128.out 2).trans rfl; have hcz8_3 : w5.cell? ⟨gb128, 3, none⟩ = some (.int .i64 a0_3) := (bc_ BK128.out 3).trans rfl; have hcz8_4 : w5.cell? ⟨gb128, 4, none⟩ = some (.string a0_4) := (bc_ BK128.out 4).trans rfl; have hcz8_5 : w5.cell? ⟨gb128, 5, none⟩ = some (.bool a0_5) := (bc_ BK128.out 5).trans rfl; have hcz8_6 : w5.cell? ⟨gb128, 6, none⟩ = some (.int .i64 a0_6) := (bc_ BK128.out 6).trans rfl; have hcz8_7 : w5.cell? ⟨gb128, 7, none⟩ = some (.string a0_7) := (bc_ BK128.out 7).trans rfl; have hfz8_0 := bf_ BK128.out 0; have hfz8_1 := bf_ BK128.out 1; have hfz8_2 := bf_ BK128.out 2; have hfz8_3 := bf_ BK128.out 3; have hfz8_4 := bf_ BK128.out 4; have hfz8_5 := bf_ BK128.out 5; have hfz8_6 := bf_ BK128.out 6; have hfz8_7 := bf_ BK128.out 7))
  go_ret
  exact ⟨by first | rfl | (simp [errW_none, errW_some] <;> rfl) | (simp [*, errW_none, errW_some] <;> rfl), by repeat (first | (with_reducible first | exact HB.out | apply ba_ | apply bn_ | apply bd_ | refine bs_ ?_ GE128.out | refine bs_ ?_ GE129.out) | exact HB.out)⟩
 ·replace c3 := Bool.eq_false_iff.mpr c3
  subst c3
  have H1 : (if a0_0 > a0_1 then ((firkinref09_Order.f k false a1_1 a1_2 a0_2 a0_3 a0_4).bind fun t130 => (if t130 ≥ 0 then ((firkinref09_Order.f k false a1_1 a1_2 a0_5 a0_6 a0_7).bind fun t131 => (some (decide (t131 ≤ 0)))) else (some false))) else (some false)) = some r := by rw [if_neg (show ¬ (false = true) by decide)] at H; exact H
  clear H
  have H := H1
  clear H1
  by_cases c9 : a0_0 > a0_1
  ·rw [if_pos c9] at H
   have c9b0 : decide (a0_1 < a0_0) = true := decide_eq_true c9
   clear c9
   replace H := Option.bind_eq_some_iff.mp H
   obtain ⟨t130, A100, H⟩ := H
   replace H : (if t130 ≥ 0 then ((firkinref09_Order.f k false a1_1 a1_2 a0_5 a0_6 a0_7).bind fun t131 => (some (decide (t131 ≤ 0)))) else (some false)) = some r := H
   have A10 := A_ A100
   clear A100
   by_cases c11 : t130 ≥ 0
   ·rw [if_pos c11] at H
    have c11b0 : decide (0 ≤ t130) = true := decide_eq_true c11
    clear c11
    replace H := Option.bind_eq_some_iff.mp H
    obtain ⟨t131, A120, H⟩ := H
    replace H : (some (decide (t131 ≤ 0))) = some r := H
    have A12 := A_ A120
    clear A120
    obtain rfl := Option.some.inj H
    go_enter Try.func19, Try.ntmps19
    go_wp2_with (first | ((with_reducible refine gate_dst (N := 2) rfl ?_); refine box_event ?hg (N := 2) ?hd (cs := #[.int .i64 a0_0, .int .i64 a0_1, .bool a0_2, .int .i64 a0_3, .string a0_4, .bool a0_5, .int .i64 a0_6, .string a0_7]) (t := 25) ?hr ?_; (case hd => rfl); (case hg => rfl); (case hr => first | (go_simp; done) | (go_simp; rfl)); intro gb128 hg w13 hbox hb; have n0_ := A_ (bp_ (by repeat (first | (with_reducible first | exact HB.out | apply ba_ | apply bn_ | apply bd_) | exact HB.out)) hb); have n1_ := A_ (hbox); have n2_ := A_ ((by rw [hg]; exact (below_size (by repeat (first | (with_reducible first | exact HB.out | apply ba_ | apply bn_ | apply bd_) | exact HB.out))) : w.heap.size ≤ gb128)); have n3_ := A_ ((by rw [hg]; exact (below_size (by repeat (first | (with_reducible first | exact HB.out | apply ba_ | apply bn_ | apply bd_) | exact HB.out))) : w.heap.size ≤ gb128)); clear HB; have HB := n0_; have BK128 := n1_; have GW128 := n2_; have GE128 := n3_; clear n0_ n1_ n2_ n3_; clear hb hbox hg) | ((with_reducible refine gate_dst (N := 3) rfl ?_); refine box_event ?hg (N := 3) ?hd (cs := #[.bool false, .int .i64 a1_1, .string a1_2]) (t := 23) ?hr ?_; (case hd => rfl); (case hg => rfl); (case hr => first | (go_simp; done) | (go_simp; rfl)); intro gb129 hg w14 hbox hb; have n0_ := A_ (blk_below (g := gb128) (o := .cells #[.int .i64 a0_0, .int .i64 a0_1, .bool a0_2, .int .i64 a0_3, .string a0_4, .bool a0_5, .int .i64 a0_6, .string a0_7] 25 (0, 0)) (by (with_reducible repeat (first | refine kn_ ?_ _ | refine kd_ ?_ | refine ka_ ?_ _)); exact BK128.out) hb); have n1_ := A_ (bp_ (by repeat (first | (with_reducible first | exact HB.out | apply ba_ | apply bn_ | apply bd_ | refine bs_ ?_ GE128.out) | exact HB.out)) hb); have n2_ := A_ (hbox); have n3_ := A_ ((by rw [hg]; exact (below_size (by repeat (first | (with_reducible first | exact HB.out | apply ba_ | apply bn_ | apply bd_ | refine bs_ ?_ GE128.out) | exact HB.out))) : w.heap.size ≤ gb129)); have n4_ := A_ ((by rw [hg]; exact (below_size (by repeat (first | (with_reducible first | exact HB.out | apply ba_ | apply bn_ | apply bd_ | refine bs_ ?_ GE128.out) | exact HB.out))) : w.heap.size ≤ gb129)); have n5_ := A_ ((by rw [hg]; exact Nat.ne_of_lt (blk_lt (g := gb128) (o := .cells #[.int .i64 a0_0, .int .i64 a0_1, .bool a0_2, .int .i64 a0_3, .string a0_4, .bool a0_5, .int .i64 a0_6, .string a0_7] 25 (0, 0)) (by (with_reducible repeat (first | refine kn_ ?_ _ | refine kd_ ?_ | refine ka_ ?_ _)); exact BK128.out)) : gb128 ≠ gb129)); have n6_ := A_ ((by rw [hg]; exact Nat.ne_of_gt (blk_lt (g := gb128) (o := .cells #[.int .i64 a0_0, .int .i64 a0_1, .bool a0_2, .int .i64 a0_3, .string a0_4, .bool a0_5, .int .i64 a0_6, .string a0_7] 25 (0, 0)) (by (with_reducible repeat (first | refine kn_ ?_ _ | refine kd_ ?_ | refine ka_ ?_ _)); exact BK128.out)) : gb129 ≠ gb128)); clear BK128; clear HB; have BK128 := n0_; have HB := n1_; have BK129 := n2_; have GW129 := n3_; have GE129 := n4_; have NB128_129 := n5_; have NB129_128 := n6_; clear n0_ n1_ n2_ n3_ n4_ n5_ n6_; clear hb hbox hg; have hnb15 := NB129_128.out; have hnc15 := NB128_129.out; have hcz16_0 : w14.cell? ⟨gb129, 0, none⟩ = some (.bool false) := (bc_ BK129.out 0).trans rfl; have hcz16_1 : w14.cell? ⟨gb129, 1, none⟩ = some (.int .i64 a1_1) := (bc_ BK129.out 1).trans rfl; have hcz16_2 : w14.cell? ⟨gb129, 2, none⟩ = some (.string a1_2) := (bc_ BK129.out 2).trans rfl; have hfz16_0 := bf_ BK129.out 0; have hfz16_1 := bf_ BK129.out 1; have hfz16_2 := bf_ BK129.out 2; have hcz17_0 : w14.cell? ⟨gb128, 0, none⟩ = some (.int .i64 a0_0) := (bc_ BK128.out 0).trans rfl; have hcz17_1 : w14.cell? ⟨gb128, 1, none⟩ = some (.int .i64 a0_1) := (bc_ BK128.out 1).trans rfl; have hcz17_2 : w14.cell? ⟨gb128, 2, none⟩ = some (.bool a0_2) := (bc_ BK128.out 2).trans rfl; have hcz17_3 : w14.cell? ⟨gb128, 3, none⟩ = some (.int .i64 a0_3) := (bc_ BK128.out 3).trans rfl; have hcz17_4 : w14.cell? ⟨gb128, 4, none⟩ = some (.string a0_4) := (bc_ BK128.out 4).trans rfl; have hcz17_5 : w14.cell? ⟨gb128, 5, none⟩ = some (.bool a0_5) := (bc_ BK128.out 5).trans rfl; have hcz17_6 : w14.cell? ⟨gb128, 6, none⟩ = some (.int .i64 a0_6) := (bc_ BK128.out 6).trans rfl; have hcz17_7 : w14.cell? ⟨gb128, 7, none⟩ = some (.string a0_7) := (bc_ BK128.out 7).trans rfl; have hfz17_0 := bf_ BK128.out 0; have hfz17_1 := bf_ BK128.out 1; have hfz17_2 := bf_ BK128.out 2; have hfz17_3 := bf_ BK128.out 3; have hfz17_4 := bf_ BK128.out 4; have hfz17_5 := bf_ BK128.out 5; have hfz17_6 := bf_ BK128.out 6; have hfz17_7 := bf_ BK128.out 7) | (go_at_call 75; (with_reducible refine (firkinref09_Order.calls k false a1_1 a1_2 a0_2 a0_3 a0_4 t130 _ A10.out).mono ?_); rintro e w18 ⟨rfl, hb⟩; have n0_ := A_ (blk_below (g := gb128) (o := .cells #[.int .i64 a0_0, .int .i64 a0_1, .bool a0_2, .int .i64 a0_3, .string a0_4, .bool a0_5, .int .i64 a0_6, .string a0_7] 25 (0, 0)) (by (with_reducible repeat (first | refine kn_ ?_ _ | refine kd_ ?_ | refine ka_ ?_ _)); exact BK128.out) hb); have n1_ := A_ (blk_below (g := gb129) (o := .cells #[.bool false, .int .i64 a1_1, .string a1_2] 23 (0, 0)) (by (with_reducible repeat (first | refine kn_ ?_ _ | refine kd_ ?_ | refine ka_ ?_ _)); exact BK129.out) hb); have n2_ := A_ (bp_ (by repeat (first | (with_reducible first | exact HB.out | apply ba_ | apply bn_ | apply bd_ | refine bs_ ?_ GE128.out | refine bs_ ?_ GE129.out) | exact HB.out)) hb); clear BK128; clear BK129; clear HB; have BK128 := n0_; have BK129 := n1_; have HB := n2_; clear n0_ n1_ n2_; (try clear hb); (try clear hb2); (try clear hk); (try clear hi); (try clear A10); have hcz19_0 : w18.cell? ⟨gb129, 0, none⟩ = some (.bool false) := (bc_ BK129.out 0).trans rfl; have hcz19_1 : w18.cell? ⟨gb129, 1, none⟩ = some (.int .i64 a1_1) := (bc_ BK129.out 1).trans rfl; have hcz19_2 : w18.cell? ⟨gb129, 2, none⟩ = some (.string a1_2) := (bc_ BK129.out 2).trans rfl; have hfz19_0 := bf_ BK129.out 0; have hfz19_1 := bf_ BK129.out 1; have hfz19_2 := bf_ BK129.out 2; have hcz20_0 : w18.cell? ⟨gb128, 0, none⟩ = some (.int .i64 a0_0) := (bc_ BK128.out 0).trans rfl; have hcz20_1 : w18.cell? ⟨gb128, 1, none⟩ = some (.int .i64 a0_1) := (bc_ BK128.out 1).trans rfl; have hcz20_2 : w18.cell? ⟨gb128, 2, none⟩ = some (.bool a0_2) := (bc_ BK128.out 2).trans rfl; have hcz20_3 : w18.cell? ⟨gb128, 3, none⟩ = some (.int .i64 a0_3) := (bc_ BK128.out 3).trans rfl; have hcz20_4 : w18.cell? ⟨gb128, 4, none⟩ = some (.string a0_4) := (bc_ BK128.out 4).trans rfl; have hcz20_5 : w18.cell? ⟨gb128, 5, none⟩ = some (.bool a0_5) := (bc_ BK128.out 5).trans rfl; have hcz20_6 : w18.cell? ⟨gb128, 6, none⟩ = some (.int .i64 a0_6) := (bc_ BK128.out 6).trans rfl; have hcz20_7 : w18.cell? ⟨gb128, 7, none⟩ = some (.string a0_7) := (bc_ BK128.out 7).trans rfl; have hfz20_0 := bf_ BK128.out 0; have hfz20_1 := bf_ BK128.out 1; have hfz20_2 := bf_ BK128.out 2; have hfz20_3 := bf_ BK128.out 3; have hfz20_4 := bf_ BK128.out 4; have hfz20_5 := bf_ BK128.out 5; have hfz20_6 := bf_ BK128.out 6; have hfz20_7 := bf_ BK128.out 7) | (go_at_call 75; (with_reducible refine (firkinref09_Order.calls k false a1_1 a1_2 a0_5 a0_6 a0_7 t131 _ A12.out).mono ?_); rintro e w21 ⟨rfl, hb⟩; have n0_ := A_ (blk_below (g := gb128) (o := .cells #[.int .i64 a0_0, .int .i64 a0_1, .bool a0_2, .int .i64 a0_3, .string a0_4, .bool a0_5, .int .i64 a0_6, .string a0_7] 25 (0, 0)) (by (with_reducible repeat (first | refine kn_ ?_ _ | refine kd_ ?_ | refine ka_ ?_ _)); exact BK128.out) hb); have n1_ := A_ (blk_below (g := gb129) (o := .cells #[.bool false, .int .i64 a1_1, .string a1_2] 23 (0, 0)) (by (with_reducible repeat (first | refine kn_ ?_ _ | refine kd_ ?_ | refine ka_ ?_ _)); exact BK129.out) hb); have n2_ := A_ (bp_ (by repeat (first | (with_reducible first | exact HB.out | apply ba_ | apply bn_ | apply bd_ | refine bs_ ?_ GE128.out | refine bs_ ?_ GE129.out) | exact HB.out)) hb); clear BK128; clear BK129; clear HB; have BK128 := n0_; have BK129 := n1_; have HB := n2_; clear n0_ n1_ n2_; (try clear hb); (try clear hb2); (try clear hk); (try clear hi); (try clear A12)))
    go_ret
    exact ⟨by first | rfl | (simp [errW_none, errW_some] <;> rfl) | (simp [*, errW_none, errW_some] <;> rfl), by repeat (first | (with_reducible first | exact HB.out | apply ba_ | apply bn_ | apply bd_ | refine bs_ ?_ GE128.out | refine bs_ ?_ GE129.out) | exact HB.out)⟩
   ·rw [if_neg c11] at H
    have c11b0 : decide (0 ≤ t130) = false := decide_eq_false c11
    clear c11
    obtain rfl := Option.some.inj H
    go_enter Try.func19, Try.ntmps19
    go_wp2_with (first | ((with_reducible refine gate_dst (N := 2) rfl ?_); refine box_event ?hg (N := 2) ?hd (cs := #[.int .i64 a0_0, .int .i64 a0_1, .bool a0_2, .int .i64 a0_3, .string a0_4, .bool a0_5, .int .i64 a0_6, .string a0_7]) (t := 25) ?hr ?_; (case hd => rfl); (case hg => rfl); (case hr => first | (go_simp; done) | (go_simp; rfl)); intro gb128 hg w22 hbox hb; have n0_ := A_ (bp_ (by repeat (first | (with_reducible first | exact HB.out | apply ba_ | apply bn_ | apply bd_) | exact HB.out)) hb); have n1_ := A_ (hbox); have n2_ := A_ ((by rw [hg]; exact (below_size (by repeat (first | (with_reducible first | exact HB.out | apply ba_ | apply bn_ | apply bd_) | exact HB.out))) : w.heap.size ≤ gb128)); have n3_ := A_ ((by rw [hg]; exact (below_size (by repeat (first | (with_reducible first | exact HB.out | apply ba_ | apply bn_ | apply bd_) | exact HB.out))) : w.heap.size ≤ gb128)); clear HB; have HB := n0_; have BK128 := n1_; have GW128 := n2_; have GE128 := n3_; clear n0_ n1_ n2_ n3_; clear hb hbox hg) | ((with_reducible refine gate_dst (N := 3) rfl ?_); refine box_event ?hg (N := 3) ?hd (cs := #[.bool false, .int .i64 a1_1, .string a1_2]) (t := 23) ?hr ?_; (case hd => rfl); (case hg => rfl); (case hr => first | (go_simp; done) | (go_simp; rfl)); intro gb129 hg w23 hbox hb; have n0_ := A_ (blk_below (g := gb128) (o := .cells #[.int .i64 a0_0, .int .i64 a0_1, .bool a0_2, .int .i64 a0_3, .string a0_4, .bool a0_5, .int .i64 a0_6, .string a0_7] 25 (0, 0)) (by (with_reducible repeat (first | refine kn_ ?_ _ | refine kd_ ?_ | refine ka_ ?_ _)); exact BK128.out) hb); have n1_ := A_ (bp_ (by repeat (first | (with_reducible first | exact HB.out | apply ba_ | apply bn_ | apply bd_ | refine bs_ ?_ GE128.out) | exact HB.out)) hb); have n2_ := A_ (hbox); have n3_ := A_ ((by rw [hg]; exact (below_size (by repeat (first | (with_reducible first | exact HB.out | apply ba_ | apply bn_ | apply bd_ | refine bs_ ?_ GE128.out) | exact HB.out))) : w.heap.size ≤ gb129)); have n4_ := A_ ((by rw [hg]; exact (below_size (by repeat (first | (with_reducible first | exact HB.out | apply ba_ | apply bn_ | apply bd_ | refine bs_ ?_ GE128.out) | exact HB.out))) : w.heap.size ≤ gb129)); have n5_ := A_ ((by rw [hg]; exact Nat.ne_of_lt (blk_lt (g := gb128) (o := .cells #[.int .i64 a0_0, .int .i64 a0_1, .bool a0_2, .int .i64 a0_3, .string a0_4, .bool a0_5, .int .i64 a0_6, .string a0_7] 25 (0, 0)) (by (with_reducible repeat (first | refine kn_ ?_ _ | refine kd_ ?_ | refine ka_ ?_ _)); exact BK128.out)) : gb128 ≠ gb129)); have n6_ := A_ ((by rw [hg]; exact Nat.ne_of_gt (blk_lt (g := gb128) (o := .cells #[.int .i64 a0_0, .int .i64 a0_1, .bool a0_2, .int .i64 a0_3, .string a0_4, .bool a0_5, .int .i64 a0_6, .string a0_7] 25 (0, 0)) (by (with_reducible repeat (first | refine kn_ ?_ _ | refine kd_ ?_ | refine ka_ ?_ _)); exact BK128.out)) : gb129 ≠ gb128)); clear BK128; clear HB; have BK128 := n0_; have HB := n1_; have BK129 := n2_; have GW129 := n3_; have GE129 := n4_; have NB128_129 := n5_; have NB129_128 := n6_; clear n0_ n1_ n2_ n3_ n4_ n5_ n6_; clear hb hbox hg; have hnb24 := NB129_128.out; have hnc24 := NB128_129.out; have hcz25_0 : w23.cell? ⟨gb129, 0, none⟩ = some (.bool false) := (bc_ BK129.out 0).trans rfl; have hcz25_1 : w23.cell? ⟨gb129, 1, none⟩ = some (.int .i64 a1_1) := (bc_ BK129.out 1).trans rfl; have hcz25_2 : w23.cell? ⟨gb129, 2, none⟩ = some (.string a1_2) := (bc_ BK129.out 2).trans rfl; have hfz25_0 := bf_ BK129.out 0; have hfz25_1 := bf_ BK129.out 1; have hfz25_2 := bf_ BK129.out 2; have hcz26_0 : w23.cell? ⟨gb128, 0, none⟩ = some (.int .i64 a0_0) := (bc_ BK128.out 0).trans rfl; have hcz26_1 : w23.cell? ⟨gb128, 1, none⟩ = some (.int .i64 a0_1) := (bc_ BK128.out 1).trans rfl; have hcz26_2 : w23.cell? ⟨gb128, 2, none⟩ = some (.bool a0_2) := (bc_ BK128.out 2).trans rfl; have hcz26_3 : w23.cell? ⟨gb128, 3, none⟩ = some (.int .i64 a0_3) := (bc_ BK128.out 3).trans rfl; have hcz26_4 : w23.cell? ⟨gb128, 4, none⟩ = some (.string a0_4) := (bc_ BK128.out 4).trans rfl; have hcz26_5 : w23.cell? ⟨gb128, 5, none⟩ = some (.bool a0_5) := (bc_ BK128.out 5).trans rfl; have hcz26_6 : w23.cell? ⟨gb128, 6, none⟩ = some (.int .i64 a0_6) := (bc_ BK128.out 6).trans rfl; have hcz26_7 : w23.cell? ⟨gb128, 7, none⟩ = some (.string a0_7) := (bc_ BK128.out 7).trans rfl; have hfz26_0 := bf_ BK128.out 0; have hfz26_1 := bf_ BK128.out 1; have hfz26_2 := bf_ BK128.out 2; have hfz26_3 := bf_ BK128.out 3; have hfz26_4 := bf_ BK128.out 4; have hfz26_5 := bf_ BK128.out 5; have hfz26_6 := bf_ BK128.out 6; have hfz26_7 := bf_ BK128.out 7) | (go_at_call 75; (with_reducible refine (firkinref09_Order.calls k false a1_1 a1_2 a0_2 a0_3 a0_4 t130 _ A10.out).mono ?_); rintro e w27 ⟨rfl, hb⟩; have n0_ := A_ (blk_below (g := gb128) (o := .cells #[.int .i64 a0_0, .int .i64 a0_1, .bool a0_2, .int .i64 a0_3, .string a0_4, .bool a0_5, .int .i64 a0_6, .string a0_7] 25 (0, 0)) (by (with_reducible repeat (first | refine kn_ ?_ _ | refine kd_ ?_ | refine ka_ ?_ _)); exact BK128.out) hb); have n1_ := A_ (blk_below (g := gb129) (o := .cells #[.bool false, .int .i64 a1_1, .string a1_2] 23 (0, 0)) (by (with_reducible repeat (first | refine kn_ ?_ _ | refine kd_ ?_ | refine ka_ ?_ _)); exact BK129.out) hb); have n2_ := A_ (bp_ (by repeat (first | (with_reducible first | exact HB.out | apply ba_ | apply bn_ | apply bd_ | refine bs_ ?_ GE128.out | refine bs_ ?_ GE129.out) | exact HB.out)) hb); clear BK128; clear BK129; clear HB; have BK128 := n0_; have BK129 := n1_; have HB := n2_; clear n0_ n1_ n2_; (try clear hb); (try clear hb2); (try clear hk); (try clear hi); (try clear A10)))
    go_ret
    exact ⟨by first | rfl | (simp [errW_none, errW_some] <;> rfl) | (simp [*, errW_none, errW_some] <;> rfl), by repeat (first | (with_reducible first | exact HB.out | apply ba_ | apply bn_ | apply bd_ | refine bs_ ?_ GE128.out | refine bs_ ?_ GE129.out) | exact HB.out)⟩
  ·rw [if_neg c9] at H
   have c9b0 : decide (a0_1 < a0_0) = false := decide_eq_false c9
   clear c9
   obtain rfl := Option.some.inj H
   go_enter Try.func19, Try.ntmps19
   go_wp2_with (first | ((with_reducible refine gate_dst (N := 2) rfl ?_); refine box_event ?hg (N := 2) ?hd (cs := #[.int .i64 a0_0, .int .i64 a0_1, .bool a0_2, .int .i64 a0_3, .string a0_4, .bool a0_5, .int .i64 a0_6, .string a0_7]) (t := 25) ?hr ?_; (case hd => rfl); (case hg => rfl); (case hr => first | (go_simp; done) | (go_simp; rfl)); intro gb128 hg w28 hbox hb; have n0_ := A_ (bp_ (by repeat (first | (with_reducible first | exact HB.out | apply ba_ | apply bn_ | apply bd_) | exact HB.out)) hb); have n1_ := A_ (hbox); have n2_ := A_ ((by rw [hg]; exact (below_size (by repeat (first | (with_reducible first | exact HB.out | apply ba_ | apply bn_ | apply bd_) | exact HB.out))) : w.heap.size ≤ gb128)); have n3_ := A_ ((by rw [hg]; exact (below_size (by repeat (first | (with_reducible first | exact HB.out | apply ba_ | apply bn_ | apply bd_) | exact HB.out))) : w.heap.size ≤ gb128)); clear HB; have HB := n0_; have BK128 := n1_; have GW128 := n2_; have GE128 := n3_; clear n0_ n1_ n2_ n3_; clear hb hbox hg) | ((with_reducible refine gate_dst (N := 3) rfl ?_); refine box_event ?hg (N := 3) ?hd (cs := #[.bool false, .int .i64 a1_1, .string a1_2]) (t := 23) ?hr ?_; (case hd => rfl); (case hg => rfl); (case hr => first | (go_simp; done) | (go_simp; rfl)); intro gb129 hg w29 hbox hb; have n0_ := A_ (blk_below (g := gb128) (o := .cells #[.int .i64 a0_0, .int .i64 a0_1, .bool a0_2, .int .i64 a0_3, .string a0_4, .bool a0_5, .int .i64 a0_6, .string a0_7] 25 (0, 0)) (by (with_reducible repeat (first | refine kn_ ?_ _ | refine kd_ ?_ | refine ka_ ?_ _)); exact BK128.out) hb); have n1_ := A_ (bp_ (by repeat (first | (with_reducible first | exact HB.out | apply ba_ | apply bn_ | apply bd_ | refine bs_ ?_ GE128.out) | exact HB.out)) hb); have n2_ := A_ (hbox); have n3_ := A_ ((by rw [hg]; exact (below_size (by repeat (first | (with_reducible first | exact HB.out | apply ba_ | apply bn_ | apply bd_ | refine bs_ ?_ GE128.out) | exact HB.out))) : w.heap.size ≤ gb129)); have n4_ := A_ ((by rw [hg]; exact (below_size (by repeat (first | (with_reducible first | exact HB.out | apply ba_ | apply bn_ | apply bd_ | refine bs_ ?_ GE128.out) | exact HB.out))) : w.heap.size ≤ gb129)); have n5_ := A_ ((by rw [hg]; exact Nat.ne_of_lt (blk_lt (g := gb128) (o := .cells #[.int .i64 a0_0, .int .i64 a0_1, .bool a0_2, .int .i64 a0_3, .string a0_4, .bool a0_5, .int .i64 a0_6, .string a0_7] 25 (0, 0)) (by (with_reducible repeat (first | refine kn_ ?_ _ | refine kd_ ?_ | refine ka_ ?_ _)); exact BK128.out)) : gb128 ≠ gb129)); have n6_ := A_ ((by rw [hg]; exact Nat.ne_of_gt (blk_lt (g := gb128) (o := .cells #[.int .i64 a0_0, .int .i64 a0_1, .bool a0_2, .int .i64 a0_3, .string a0_4, .bool a0_5, .int .i64 a0_6, .string a0_7] 25 (0, 0)) (by (with_reducible repeat (first | refine kn_ ?_ _ | refine kd_ ?_ | refine ka_ ?_ _)); exact BK128.out)) : gb129 ≠ gb128)); clear BK128; clear HB; have BK128 := n0_; have HB := n1_; have BK129 := n2_; have GW129 := n3_; have GE129 := n4_; have NB128_129 := n5_; have NB129_128 := n6_; clear n0_ n1_ n2_ n3_ n4_ n5_ n6_; clear hb hbox hg; have hnb30 := NB129_128.out; have hnc30 := NB128_129.out; have hcz31_0 : w29.cell? ⟨gb129, 0, none⟩ = some (.bool false) := (bc_ BK129.out 0).trans rfl; have hcz31_1 : w29.cell? ⟨gb129, 1, none⟩ = some (.int .i64 a1_1) := (bc_ BK129.out 1).trans rfl; have hcz31_2 : w29.cell? ⟨gb129, 2, none⟩ = some (.string a1_2) := (bc_ BK129.out 2).trans rfl; have hfz31_0 := bf_ BK129.out 0; have hfz31_1 := bf_ BK129.out 1; have hfz31_2 := bf_ BK129.out 2; have hcz32_0 : w29.cell? ⟨gb128, 0, none⟩ = some (.int .i64 a0_0) := (bc_ BK128.out 0).trans rfl; have hcz32_1 : w29.cell? ⟨gb128, 1, none⟩ = some (.int .i64 a0_1) := (bc_ BK128.out 1).trans rfl; have hcz32_2 : w29.cell? ⟨gb128, 2, none⟩ = some (.bool a0_2) := (bc_ BK128.out 2).trans rfl; have hcz32_3 : w29.cell? ⟨gb128, 3, none⟩ = some (.int .i64 a0_3) := (bc_ BK128.out 3).trans rfl; have hcz32_4 : w29.cell? ⟨gb128, 4, none⟩ = some (.string a0_4) := (bc_ BK128.out 4).trans rfl; have hcz32_5 : w29.cell? ⟨gb128, 5, none⟩ = some (.bool a0_5) := (bc_ BK128.out 5).trans rfl; have hcz32_6 : w29.cell? ⟨gb128, 6, none⟩ = some (.int .i64 a0_6) := (bc_ BK128.out 6).trans rfl; have hcz32_7 : w29.cell? ⟨gb128, 7, none⟩ = some (.string a0_7) := (bc_ BK128.out 7).trans rfl; have hfz32_0 := bf_ BK128.out 0; have hfz32_1 := bf_ BK128.out 1; have hfz32_2 := bf_ BK128.out 2; have hfz32_3 := bf_ BK128.out 3; have hfz32_4 := bf_ BK128.out 4; have hfz32_5 := bf_ BK128.out 5; have hfz32_6 := bf_ BK128.out 6; have hfz32_7 := bf_ BK128.out 7))
   go_ret
   exact ⟨by first | rfl | (simp [errW_none, errW_some] <;> rfl) | (simp [*, errW_none, errW_some] <;> rfl), by repeat (first | (with_reducible first | exact HB.out | apply ba_ | apply bn_ | apply bd_ | refine bs_ ?_ GE128.out | refine bs_ ?_ GE129.out) | exact HB.out)⟩


end Go.Proofs.Ytkdlfejokahohaa.X
