/- ZoneBytes: for every input the call returns true, and each argument reads behind the call as it read before it. No condition. (Part 9 of 10: this session's texts, laid together by wip/merge.py.) -/
import Derived.Test.YtkdlfejokahohaaMem2
import Derived.Deep.RegionWith
import Derived.Deep.RegionHeld3
import Derived.Lib.Hide
import Derived.Test.YtkdlfejokahohaaMZoneBytes2
import Derived.Test.YtkdlfejokahohaaMZoneBytes3
import Derived.Test.YtkdlfejokahohaaMZoneBytes4
import Derived.Test.YtkdlfejokahohaaMZoneBytes6
set_option maxHeartbeats 8000000
set_option maxRecDepth 100000
/- The law ZoneBytes, walked: every zone's bytes, that they are taken, and which zone whatever bytes begin with. -/
namespace Go.Proofs.Ytkdlfejokahohaa.X
open Go.RowKit Go.Proofs.YtkdlfejokahohaaW.PrintWords Go.Proofs.YtkdlfejokahohaaW.PrintLast Go.Proofs.YtkdlfejokahohaaW.PrintMore
set_option linter.unusedVariables false
set_option linter.unusedSimpArgs false
set_option synthInstance.maxSize 4000
set_option synthInstance.maxHeartbeats 400000
/-- What the law's calls answer, one behind the other. -/
def firkinlaw11_ZoneBytes.f (k : Nat) (ty : Int) (z0 : Int) (z1 : Int) (l0 : Bool) (l1 : Int) (l2 : ByteArray) (h0 : Bool) (h1 : Int) (h2 : ByteArray) (b : List Int) : Option Bool :=
  (firkinlaw11_live.f).bind fun lv => if lv = false then none else
  if 100 < l2.size ∨ 100 < h2.size ∨ 300 < b.length then some true else
  (zone_Put.f k ty z0 z1 l0 l1 l2 h0 h1 h2).bind fun x => (firkinref11_Put.f k ty z0 z1 l0 l1 l2 h0 h1 h2).bind fun y => if x ≠ y then none else
  (zone_Take.f k b false ty).bind fun s => (firkinref11_Take.f k b false ty).bind fun t => if s ≠ t ∨ (s.2.2.2.2.2.2.2.2.2 = true ∧ s.2.2.2.2.2.2.2.2.1 ≠ []) then none else
  (firkinref11_May.f k ty z0 z1 l0 l1 l2 h0 h1 h2).bind fun m => if m = false then (if x = [] then some true else none) else
  (zone_Take.f k x false ty).bind fun u => if u = (z0, z1, l0, l1, l2, h0, h1, h2, [], false) then some true else none
theorem firkinlaw11_ZoneBytes.mono : ∀ a0 a1 a2 a3 a4 a5 a6 a7 a8 a9 k, LeO (firkinlaw11_ZoneBytes.f k a0 a1 a2 a3 a4 a5 a6 a7 a8 a9) (firkinlaw11_ZoneBytes.f (k + 1) a0 a1 a2 a3 a4 a5 a6 a7 a8 a9) := by
  intro a0 a1 a2 a3 a4 a5 a6 a7 a8 a9 k
  unfold firkinlaw11_ZoneBytes.f
  repeat' first
      | (with_reducible exact zone_Put.mono _ _ _ _ _ _ _ _ _ _)
      | (with_reducible exact firkinref11_Put.mono _ _ _ _ _ _ _ _ _ _)
      | (with_reducible exact zone_Take.mono _ _ _ _)
      | (with_reducible exact firkinref11_Take.mono _ _ _ _)
      | (with_reducible exact firkinref11_May.mono _ _ _ _ _ _ _ _ _ _)
      | (with_reducible exact LeO.refl _)
      | (with_reducible exact LeO.none _)
      | (with_reducible refine LeO.ite ?_ ?_)
      | (with_reducible refine LeO.bind ?_ (fun _ => ?_))
set_option maxHeartbeats 8000000 in
set_option maxRecDepth 100000 in
theorem firkinlaw11_ZoneBytes.calls (k : Nat) (a0 : Int) (z0 : Int) (z1 : Int) (l0 : Bool) (l1 : Int) (l2 : ByteArray) (h0 : Bool) (h1 : Int) (h2 : ByteArray) (A2 : Option Addr) (cc2 : Nat) (b : List Int) (r : Bool) (w : World) (hr2 : Kd.C (Kd.int .u8) w A2 b.length b) (hc2 : b.length ≤ cc2) (h : firkinlaw11_ZoneBytes.f k a0 z0 z1 l0 l1 l2 h0 h1 h2 b = some r) :
    Calls Try.prog 14 #[.int .i64 a0, .agg #[.int .i64 z0, .int .i64 z1, .bool l0, .int .i64 l1, .string l2, .bool h0, .int .i64 h1, .string h2], .slice A2 b.length cc2] w fun e w' => e = .returned (.bool r) ∧ Below w.heap.size w w' := by
  unfold firkinlaw11_ZoneBytes.f at h
  have hm2 := Kd.C_max hr2
  have HR2 := Aside0.mk hr2
  clear hr2
  have hu := Try.underlying25
  have hu1 := Try.underlying23
  have hu2 := Try.underlying45
  obtain ⟨lv, elv, h⟩ := Option.bind_eq_some_iff.mp h
  cases lv with
  | false => rw [if_pos rfl] at h; cases h
  | true =>
  rw [if_neg (by decide)] at h
  have LV := Aside0.mk elv
  clear elv
  by_cases hl : 100 < l2.size ∨ 100 < h2.size ∨ 300 < b.length
  · rw [if_pos hl] at h
    obtain rfl := Option.some.inj h
    clear h
    obtain ⟨b1, hb1⟩ : ∃ b_ : Bool, decide ((100 : Int) < (l2.size : Int)) = b_ := ⟨_, rfl⟩
    obtain ⟨b2, hb2⟩ : ∃ b_ : Bool, decide ((100 : Int) < (h2.size : Int)) = b_ := ⟨_, rfl⟩
    obtain ⟨b3, hb3⟩ : ∃ b_ : Bool, decide ((300 : Int) < (b.length : Int)) = b_ := ⟨_, rfl⟩
    have hx : (b1 || b2 || b3) = true := by rw [← hb1, ← hb2, ← hb3]; simp only [Bool.or_eq_true, decide_eq_true_eq]; omega
    clear hl
    cases b1 <;> cases b2 <;> cases b3 <;> first
      | (exact absurd hx (by decide))
      | (clear hx
         go_enter Try.func14, Try.ntmps14
         go_wp2_with fail
         refine (firkinlaw11_live.calls true _ LV.out).mono ?_
         rintro e w2 ⟨rfl, b2⟩
         go_wp2_with fail
         go_ret
         exact ⟨rfl, below_step (below_alloc (Below.refl _ _) _) b2⟩)
  rw [if_neg hl] at h
  have hb1 : decide ((100 : Int) < (l2.size : Int)) = false := decide_eq_false (by omega)
  have hb2 : decide ((100 : Int) < (h2.size : Int)) = false := decide_eq_false (by omega)
  have hb3 : decide ((300 : Int) < (b.length : Int)) = false := decide_eq_false (by omega)
  obtain ⟨x, e1, h1_⟩ := Option.bind_eq_some_iff.mp h
  clear h
  obtain ⟨y, e2, h2_⟩ := Option.bind_eq_some_iff.mp h1_
  clear h1_
  by_cases hxy : x ≠ y
  · rw [if_pos hxy] at h2_; cases h2_
  rw [if_neg hxy] at h2_
  have hxy' : x = y := by simpa using hxy
  obtain ⟨⟨s0, s1, s2, s3, s4, s5, s6, s7, s8, s9⟩, e3, h3_⟩ := Option.bind_eq_some_iff.mp h2_
  clear h2_
  obtain ⟨t, e4, h4_⟩ := Option.bind_eq_some_iff.mp h3_
  clear h3_
  by_cases hst : (s0, s1, s2, s3, s4, s5, s6, s7, s8, s9) ≠ t ∨ (s9 = true ∧ s8 ≠ [])
  · rw [if_pos hst] at h4_; cases h4_
  rw [if_neg hst] at h4_
  have hst1 : (s0, s1, s2, s3, s4, s5, s6, s7, s8, s9) = t := Classical.byContradiction fun h => hst (.inl h)
  have hgood : s9 = true → s8 = [] := fun h4 => Classical.byContradiction fun h => hst (.inr ⟨h4, h⟩)
  obtain ⟨m, e5, h5_⟩ := Option.bind_eq_some_iff.mp h4_
  clear h4_ hst hl hxy
  have E1 := Aside0.mk e1
  have E2 : Aside0 (firkinref11_Put.f k a0 z0 z1 l0 l1 l2 h0 h1 h2 = some x) := ⟨hxy' ▸ e2⟩
  have E3 := Aside0.mk e3
  have E4 : Aside0 (firkinref11_Take.f k b false a0 = some (s0, s1, s2, s3, s4, s5, s6, s7, s8, s9)) := ⟨hst1 ▸ e4⟩
  have E5 := Aside0.mk e5
  have HH := Aside0.mk h5_
  have HG := Aside0.mk hgood
  clear h5_ e1 e2 e3 e4 e5 hgood hst1 hxy'
  go_enter Try.func14, Try.ntmps14
  have bk0 := Mem.alloc_new w (.cells #[.int .i64 z0, .int .i64 z1, .bool l0, .int .i64 l1, .string l2, .bool h0, .int .i64 h1, .string h2] 25)
  have B0 := below_alloc (Below.refl w.heap.size w) (.cells #[.int .i64 z0, .int .i64 z1, .bool l0, .int .i64 l1, .string l2, .bool h0, .int .i64 h1, .string h2] 25)
  go_upto_region 3 with (fail)
  generalize w.alloc (.cells #[.int .i64 z0, .int .i64 z1, .bool l0, .int .i64 l1, .string l2, .bool h0, .int .i64 h1, .string h2] 25) = w1 at bk0 B0 ⊢
  have d0 : w1.cell? ⟨w.heap.size, 0, none⟩ = some (.int .i64 z0) := (blk_cell bk0 0).trans rfl
  have d1 : w1.cell? ⟨w.heap.size, 1, none⟩ = some (.int .i64 z1) := (blk_cell bk0 1).trans rfl
  have d2 : w1.cell? ⟨w.heap.size, 2, none⟩ = some (.bool l0) := (blk_cell bk0 2).trans rfl
  have d3 : w1.cell? ⟨w.heap.size, 3, none⟩ = some (.int .i64 l1) := (blk_cell bk0 3).trans rfl
  have d4 : w1.cell? ⟨w.heap.size, 4, none⟩ = some (.string l2) := (blk_cell bk0 4).trans rfl
  have d5 : w1.cell? ⟨w.heap.size, 5, none⟩ = some (.bool h0) := (blk_cell bk0 5).trans rfl
  have d6 : w1.cell? ⟨w.heap.size, 6, none⟩ = some (.int .i64 h1) := (blk_cell bk0 6).trans rfl
  have d7 : w1.cell? ⟨w.heap.size, 7, none⟩ = some (.string h2) := (blk_cell bk0 7).trans rfl
  have BK := Aside0.mk bk0
  go_wp2_with fail
  refine (zone_Put.calls k a0 z0 z1 l0 l1 l2 h0 h1 h2 x _ E1.out).mono ?_
  rintro e w2 ⟨v2, rfl, R2, b2⟩
  have B2 := below_step B0 b2
  have BK2 := Aside0.mk (blk_below BK.out b2)
  have HR2' := Aside0.mk R2
  clear d0 d1 d2 d3 d4 d5 d6 d7 B0 b2 BK R2 bk0
  go_wp2_with fail
  refine (vint_From.calls2 A2 cc2 b w w2 B2 HR2.out hc2).mono ?_
  rintro e w3 ⟨g, rfl, p3, B3, b3, hg3⟩
  have HR3 := Aside0.mk (Kd.R_below (Kd.R_mono (ok' := fun k_ => k_ ≠ g ∧ k_ ≠ w3.heap.size) (Kd.R_bound HR2'.out) (fun k hk => by have := hk.2.2.1; have := b3.size; constructor <;> omega)) b3)
  have BK3 := Aside0.mk (blk_below BK2.out b3)
  have t4 := IsS45.new w w3 A2 cc2 b false B3 ⟨HR2.out, hc2⟩
  have p4 := IsS93.below p3 (below_alloc (Below.refl _ _) (.cells #[.slice A2 b.length cc2, .bool false] 45))
  have B4 := below_alloc B3 (.cells #[.slice A2 b.length cc2, .bool false] 45)
  have BK4 := Aside0.mk (blk_alloc BK3.out (.cells #[.slice A2 b.length cc2, .bool false] 45))
  have HR4 := Aside0.mk (Kd.R_alloc HR3.out (.cells #[.slice A2 b.length cc2, .bool false] 45))
  have hne : w3.heap.size ≠ g := by have := IsS93.lt p3; omega
  have hnb : w.heap.size ≠ g := IsS93.ne_blk p3 BK3.out (by decide) |>.symm
  have hnb2 : w.heap.size ≠ w3.heap.size := by have := blk_lt BK3.out; omega
  obtain ⟨A4, c4, rfl, hc4, C4⟩ := Kd.R_reads HR4.out
  clear BK2 HR2' p3 B3 b3 HR3 BK3 B2 hg3 C4
  go_upto_region 5 with (fail)
  generalize w3.alloc (.cells #[.slice A2 b.length cc2, .bool false] 45) = W4 at t4 p4 B4 BK4 HR4 ⊢
  have d0 : W4.drew.cell? ⟨w.heap.size, 0, none⟩ = some (.int .i64 z0) := (blk_cell BK4.out 0).trans rfl
  have d1 : W4.drew.cell? ⟨w.heap.size, 1, none⟩ = some (.int .i64 z1) := (blk_cell BK4.out 1).trans rfl
  have d2 : W4.drew.cell? ⟨w.heap.size, 2, none⟩ = some (.bool l0) := (blk_cell BK4.out 2).trans rfl
  have d3 : W4.drew.cell? ⟨w.heap.size, 3, none⟩ = some (.int .i64 l1) := (blk_cell BK4.out 3).trans rfl
  have d4 : W4.drew.cell? ⟨w.heap.size, 4, none⟩ = some (.string l2) := (blk_cell BK4.out 4).trans rfl
  have d5 : W4.drew.cell? ⟨w.heap.size, 5, none⟩ = some (.bool h0) := (blk_cell BK4.out 5).trans rfl
  have d6 : W4.drew.cell? ⟨w.heap.size, 6, none⟩ = some (.int .i64 h1) := (blk_cell BK4.out 6).trans rfl
  have d7 : W4.drew.cell? ⟨w.heap.size, 7, none⟩ = some (.string h2) := (blk_cell BK4.out 7).trans rfl
  go_cut [70] (fun v70 wx => v70 = .bool false ∧ Aside0 (Below w.heap.size w wx) ∧ Aside0 (wx.heap[w.heap.size]? = some (.cells #[.int .i64 z0, .int .i64 z1, .bool l0, .int .i64 l1, .string l2, .bool h0, .int .i64 h1, .string h2] 25 (0, 0))) ∧ Aside0 (Kd.R (Kd.int .u8) 5 wx w1.heap.size (fun k_ => k_ ≠ g ∧ k_ ≠ w3.heap.size) (.slice A4 x.length c4) x))
  case first =>
    go_region_with (first
      | (go_at_call 69; refine (firkinref11_Put.calls k a0 z0 z1 l0 l1 l2 h0 h1 h2 x _ E2.out).mono ?_; rintro e w5 ⟨v5, rfl, R5, b5⟩; have p5 := IsS93.below (IsS93.drew p4) b5; have t5 := IsS45.below (IsS45.drew t4) b5; have B5 := below_step (below_drew B4) b5; have BK5 := Aside0.mk (blk_below (blk_drew BK4.out) b5); have HR5 := Aside0.mk (Kd.R_below (Kd.R_drew HR4.out) b5); have C4 := (Kd.R_reads' HR5.out).2.2; obtain ⟨A5, c5, rfl, hc5, C5⟩ := Kd.R_reads R5; clear R5 b5 d0 d1 d2 d3 d4 d5 d6 d7)
      | (go_at_call 23; refine (firkinref01_Same.calls A4 c4 x A5 c5 x true _ C4 hc4 C5 hc5 (by unfold firkinref01_Same.f; simp)).mono ?_; rintro e w6 ⟨rfl, ⟨n6, rfl⟩⟩; clear C4 C5)
      | (go_at_call 70; refine (zone_Take.calls k g b false a0 s0 s1 s2 s3 s4 s5 s6 s7 s8 s9 w _ (IsS93.drewN p5 n6) (pw_below_drewN B5 n6) E3.out).mono ?_; rintro e w7 ⟨rfl, p7, B7, K7⟩; have t7 := IsS45.keep (IsS45.drewN t5 n6) K7 hne; have BK7 := Aside0.mk (KeepBut.blk K7 (blk_drewN BK5.out n6) hnb (by simp)); have HR7 := Aside0.mk (Kd.R_keep (Kd.R_drewN HR5.out n6) K7 (fun k hk => hk.1)); clear p5 t5 B5 BK5 HR5 K7)
      | (go_at_call 71; refine (firkinref11_Take.calls k w3.heap.size b false a0 s0 s1 s2 s3 s4 s5 s6 s7 s8 s9 w _ t7 B7 E4.out).mono ?_; rintro e w8 ⟨rfl, t8, B8, K8⟩; have p8 := IsS93.keep p7 K8 (Ne.symm hne); have BK8 := Aside0.mk (KeepBut.blk K8 BK7.out hnb2 (by simp)); have HR8 := Aside0.mk (Kd.R_keep HR7.out K8 (fun k hk => hk.2)); obtain ⟨A8, c8, hb8, hg8, hr8, hc8⟩ := t8; have q0 := (blk_cell hb8 0).trans rfl; have q1 := (blk_cell hb8 1).trans rfl; clear p7 t7 B7 BK7 HR7 K8 hb8 hr8)
      | (go_at_call 41; refine (vint_Source_Ok.same g s8 s9 w _ p8).mono ?_; rintro e w9 ⟨rfl, rfl⟩)
      | (go_at_call 42; refine (vint_Source_Left.same2 g s8 s9 w _ p8 HG.out).mono ?_; rintro e w10 ⟨rfl, rfl⟩))
    all_goals
      go_wp2_with fail
      go_meet
      case rel => exact ⟨by first | rfl | (cases s9 <;> rfl) | (cases s9 <;> simp), ⟨B8⟩, BK8, HR8⟩
  case rest =>
    obtain ⟨rfl, HB9, BK9, HR9⟩ := hcut
    clear d0 d1 d2 d3 d4 d5 d6 d7 t4 p4 B4 BK4 HR4 E1 E2 E3 E4 HG
    obtain ⟨_, _, C9⟩ := Kd.R_reads' HR9.out
    have HC9 := Aside0.mk C9
    clear C9 HR9
    have d0 : wc.cell? ⟨w.heap.size, 0, none⟩ = some (.int .i64 z0) := (blk_cell BK9.out 0).trans rfl
    have d1 : wc.cell? ⟨w.heap.size, 1, none⟩ = some (.int .i64 z1) := (blk_cell BK9.out 1).trans rfl
    have d2 : wc.cell? ⟨w.heap.size, 2, none⟩ = some (.bool l0) := (blk_cell BK9.out 2).trans rfl
    have d3 : wc.cell? ⟨w.heap.size, 3, none⟩ = some (.int .i64 l1) := (blk_cell BK9.out 3).trans rfl
    have d4 : wc.cell? ⟨w.heap.size, 4, none⟩ = some (.string l2) := (blk_cell BK9.out 4).trans rfl
    have d5 : wc.cell? ⟨w.heap.size, 5, none⟩ = some (.bool h0) := (blk_cell BK9.out 5).trans rfl
    have d6 : wc.cell? ⟨w.heap.size, 6, none⟩ = some (.int .i64 h1) := (blk_cell BK9.out 6).trans rfl
    have d7 : wc.cell? ⟨w.heap.size, 7, none⟩ = some (.string h2) := (blk_cell BK9.out 7).trans rfl
    go_wp2_with fail
    refine (firkinref11_May.calls k a0 z0 z1 l0 l1 l2 h0 h1 h2 m _ E5.out).mono ?_
    rintro e w10 ⟨rfl, b10⟩
    have HB10 := Aside0.mk (below_step HB9.out b10)
    have BK10 := Aside0.mk (blk_below BK9.out b10)
    have HC10 := Aside0.mk (Kd.C_below HC9.out b10)
    clear HB9 BK9 HC9 b10 d0 d1 d2 d3 d4 d5 d6 d7 E5
    have h := HH.out
    cases m with
    | false =>
      rw [if_pos rfl] at h
      by_cases hx0 : x = []
      case neg => rw [if_neg hx0] at h; cases h
      rw [if_pos hx0] at h
      obtain rfl := Option.some.inj h
      have hl0 : ((x.length : Int) == 0) = true := by rw [hx0]; rfl
      have hl1 : (x.length == 0) = true := by rw [hx0]; rfl
      clear h HH hx0
      go_wp2_with fail
      refine (firkinlaw11_live.calls true _ LV.out).mono ?_
      rintro e w11 ⟨rfl, b11⟩
      go_wp2_with fail
      go_ret
      exact ⟨by first | rfl | simp, below_step HB10.out b11⟩
    | true =>
      rw [if_neg (by decide)] at h
      obtain ⟨⟨u0, u1, u2, u3, u4, u5, u6, u7, u8, u9⟩, e6, h6_⟩ := Option.bind_eq_some_iff.mp h
      clear h
      by_cases hu3 : (u0, u1, u2, u3, u4, u5, u6, u7, u8, u9) = (z0, z1, l0, l1, l2, h0, h1, h2, ([] : List Int), false)
      case neg => rw [if_neg hu3] at h6_; cases h6_
      rw [if_pos hu3] at h6_
      obtain rfl := Option.some.inj h6_
      simp only [Prod.mk.injEq] at hu3
      obtain ⟨rfl, rfl, rfl, rfl, rfl, rfl, rfl, rfl, rfl, rfl⟩ := hu3
      have E6 := Aside0.mk e6
      clear h6_ HH e6
      go_wp2_with fail
      refine (vint_From.calls2 A4 c4 x w10 w10 (Below.refl _ _) HC10.out hc4).mono ?_
      rintro e w11 ⟨g2, rfl, p11, B11, b11, hg11⟩
      have BK11 := Aside0.mk (blk_below BK10.out b11)
      have P11 := Aside0.mk p11
      have HB11 := Aside0.mk B11
      have hnb3 : w.heap.size ≠ g2 := IsS93.ne_blk p11 BK11.out (by decide) |>.symm
      have HB10' := HB10
      clear HB10 BK10 HC10 b11 p11 B11
      go_upto_region 10 with (fail)
      have BK12 := Aside0.mk (blk_drew BK11.out)
      have d0 : w11.drew.cell? ⟨w.heap.size, 0, none⟩ = some (.int .i64 u0) := (blk_cell BK12.out 0).trans rfl
      have d1 : w11.drew.cell? ⟨w.heap.size, 1, none⟩ = some (.int .i64 u1) := (blk_cell BK12.out 1).trans rfl
      have d2 : w11.drew.cell? ⟨w.heap.size, 2, none⟩ = some (.bool u2) := (blk_cell BK12.out 2).trans rfl
      have d3 : w11.drew.cell? ⟨w.heap.size, 3, none⟩ = some (.int .i64 u3) := (blk_cell BK12.out 3).trans rfl
      have d4 : w11.drew.cell? ⟨w.heap.size, 4, none⟩ = some (.string u4) := (blk_cell BK12.out 4).trans rfl
      have d5 : w11.drew.cell? ⟨w.heap.size, 5, none⟩ = some (.bool u5) := (blk_cell BK12.out 5).trans rfl
      have d6 : w11.drew.cell? ⟨w.heap.size, 6, none⟩ = some (.int .i64 u6) := (blk_cell BK12.out 6).trans rfl
      have d7 : w11.drew.cell? ⟨w.heap.size, 7, none⟩ = some (.string u7) := (blk_cell BK12.out 7).trans rfl
      go_region_held3 (fun w' => w'.cell? ⟨w.heap.size, 0, none⟩ = some (.int .i64 u0) ∧ w'.cell? ⟨w.heap.size, 1, none⟩ = some (.int .i64 u1) ∧ w'.cell? ⟨w.heap.size, 2, none⟩ = some (.bool u2) ∧ w'.cell? ⟨w.heap.size, 3, none⟩ = some (.int .i64 u3) ∧ w'.cell? ⟨w.heap.size, 4, none⟩ = some (.string u4) ∧ w'.cell? ⟨w.heap.size, 5, none⟩ = some (.bool u5) ∧ w'.cell? ⟨w.heap.size, 6, none⟩ = some (.int .i64 u6) ∧ w'.cell? ⟨w.heap.size, 7, none⟩ = some (.string u7))
        (first | exact ⟨d0, d1, d2, d3, d4, d5, d6, d7⟩ | exact ⟨(blk_cell BK13 0).trans rfl, (blk_cell BK13 1).trans rfl, (blk_cell BK13 2).trans rfl, (blk_cell BK13 3).trans rfl, (blk_cell BK13 4).trans rfl, (blk_cell BK13 5).trans rfl, (blk_cell BK13 6).trans rfl, (blk_cell BK13 7).trans rfl⟩ | exact ⟨(blk_cell BK14 0).trans rfl, (blk_cell BK14 1).trans rfl, (blk_cell BK14 2).trans rfl, (blk_cell BK14 3).trans rfl, (blk_cell BK14 4).trans rfl, (blk_cell BK14 5).trans rfl, (blk_cell BK14 6).trans rfl, (blk_cell BK14 7).trans rfl⟩)
        (first
          | (go_at_call 70; refine (zone_Take.calls k g2 x false a0 u0 u1 u2 u3 u4 u5 u6 u7 [] false w10 _ (IsS93.drew P11.out) (below_drew HB11.out) E6.out).mono ?_; rintro e w13 ⟨rfl, p13, B13, K13⟩; have BK13 := KeepBut.blk K13 BK12.out hnb3 (by simp))
          | (go_at_call 43; refine (vint_Source_End.same g2 [] false w10 _ p13).mono ?_; rintro e w14 ⟨rfl, rfl⟩)
          | (go_at_call 15; refine (firkinlaw11_live.calls true _ LV.out).mono ?_; rintro e w15 ⟨rfl, b15⟩; have BK14 := blk_below BK13 b15))
      go_wp2_with fail
      go_ret
      exact ⟨by first | rfl | simp, below_step (below_step HB10'.out B13) b15⟩
end Go.Proofs.Ytkdlfejokahohaa.X
