/- SchemaBytes: for every input the call returns true, and each argument reads behind the call as it read before it. No condition. (Part 4 of 4: this session's texts, laid together by wip/merge.py.) -/
import Derived.Test.YtbbffnlefmogbaaX0
import Derived.Test.YtbbffnlefmogbaaMem
import Derived.Test.YtbbffnlefmogbaaMem2
import Derived.Deep.RegionWith
import Derived.Lib.Hide
import Derived.Test.YtbbffnlefmogbaaEnc0
import Derived.Test.YtbbffnlefmogbaaRound
import Derived.Test.YtbbffnlefmogbaaWf
import Derived.Test.YtbbffnlefmogbaaRows
import Derived.Test.YtbbffnlefmogbaaOpens
import Derived.WalkKit
import Derived.ProofKit
import Derived.OpenShut
import Derived.ShutString
import Derived.ChangeOld
import Derived.Below
import Derived.SizedLaws
import Derived.Test.YtbbffnlefmogbaaMSchemaBytes0
import Derived.Test.YtbbffnlefmogbaaMSchemaBytes1
import Derived.Test.YtbbffnlefmogbaaMSchemaBytes2
/- The contract of vint.From: a source that reads the bytes, in a block of its own. -/
namespace Go.Proofs.Ytbbffnlefmogbaa.X
open Go.RowKit Go.Proofs.YtbbffnlefmogbaaW.PrintWords Go.Proofs.YtbbffnlefmogbaaW.PrintLast Go.Proofs.YtbbffnlefmogbaaW.PrintMore
set_option linter.unusedVariables false
set_option linter.unusedSimpArgs false
def vint_From.f (l0 : List Int) : Option (List Int × Bool) := some (l0, false)
set_option maxHeartbeats 8000000 in
set_option maxRecDepth 100000 in
theorem vint_From.calls2 (A0 : Option Addr) (c0 : Nat) (l0 : List Int) (w0 w : World) (hB : Below w0.heap.size w0 w) (hr0 : Kd.C (Kd.int .u8) w0 A0 l0.length l0) (hc0 : l0.length ≤ c0) :
    Calls Try.prog 19 #[.slice A0 l0.length c0] w fun e w' => ∃ g_ : Nat, e = .returned (.pointer (some ⟨g_, 0, none⟩)) ∧ IsS75 w0 w' g_ l0 false ∧ Below w0.heap.size w0 w' ∧ Below w.heap.size w w' ∧ w.heap.size ≤ g_ := by
  have hu := Try.underlying75
  go_enter Try.func19, Try.ntmps19
  go_wp2
  go_ret
  refine ⟨w.heap.size, rfl, IsS75.new w0 w A0 c0 l0 false hB ⟨hr0, hc0⟩, hB.alloc hB.size _, below_alloc (Below.refl _ _) _, Nat.le_refl _⟩
theorem vint_From.calls (A0 : Option Addr) (c0 : Nat) (l0 : List Int) (r1 : List Int) (r2 : Bool) (w0 w : World) (hB : Below w0.heap.size w0 w) (hr0 : Kd.C (Kd.int .u8) w0 A0 l0.length l0) (hc0 : l0.length ≤ c0) (h : vint_From.f l0 = some (r1, r2)) :
    Calls Try.prog 19 #[.slice A0 l0.length c0] w fun e w' => ∃ g_ : Nat, e = .returned (.pointer (some ⟨g_, 0, none⟩)) ∧ IsS75 w0 w' g_ r1 r2 ∧ Below w0.heap.size w0 w' ∧ Below w.heap.size w w' := by
  unfold vint_From.f at h
  simp only [Option.some.injEq, Prod.mk.injEq] at h
  obtain ⟨rfl, rfl⟩ := h
  exact (vint_From.calls2 A0 c0 l0 w0 w hB hr0 hc0).mono fun e w' ⟨g, h1, h2, h3, h4, _⟩ => ⟨g, h1, h2, h3, h4⟩
end Go.Proofs.Ytbbffnlefmogbaa.X
/- The law SchemaBytes, walked: columns' bytes, that they are taken, and which columns whatever bytes begin with. -/
namespace Go.Proofs.Ytbbffnlefmogbaa.X
open Go.RowKit Go.Proofs.YtbbffnlefmogbaaW.PrintWords Go.Proofs.YtbbffnlefmogbaaW.PrintLast Go.Proofs.YtbbffnlefmogbaaW.PrintMore
set_option linter.unusedVariables false
set_option linter.unusedSimpArgs false
/-- What the law's calls answer, one behind the other. -/
def firkinlaw12_SchemaBytes.f (k : Nat) (l0 : List S69) (l1 : List Int) : Option Bool :=
  (firkinlaw12_live.f).bind fun lv => if lv = false then none else
  (firkinlaw12_Small.f k l0).bind fun sm => if sm = false ∨ 200 < l1.length then some true else
  (schema_Take.f k l1 false).bind fun s => (firkinref12_Take.f k l1 false).bind fun t => (firkinref12_Same.f k s.1 t.1).bind fun q => if q = false ∨ s.2 ≠ t.2 ∨ (s.2.2 = true ∧ s.2.1 ≠ []) then none else
  (firkinref12_Check.f k l0).bind fun c => if c ≠ 0 then some true else
  (schema_Put.f k l0).bind fun x => (firkinref12_Put.f k l0).bind fun y => if x ≠ y then none else
  (schema_Take.f k x false).bind fun u => (schema_Same.f k u.1 l0).bind fun p => if p = true ∧ u.2 = ([], false) then some true else none
theorem firkinlaw12_SchemaBytes.mono : ∀ a0 a1 k, LeO (firkinlaw12_SchemaBytes.f k a0 a1) (firkinlaw12_SchemaBytes.f (k + 1) a0 a1) := by
  intro a0 a1 k
  unfold firkinlaw12_SchemaBytes.f
  repeat' first
      | (with_reducible exact firkinlaw12_Small.mono _ _)
      | (with_reducible exact schema_Take.mono _ _ _)
      | (with_reducible exact firkinref12_Take.mono _ _ _)
      | (with_reducible exact firkinref12_Same.mono _ _ _)
      | (with_reducible exact firkinref12_Check.mono _ _)
      | (with_reducible exact schema_Put.mono _ _)
      | (with_reducible exact firkinref12_Put.mono _ _)
      | (with_reducible exact schema_Same.mono _ _ _)
      | (with_reducible exact LeO.refl _)
      | (with_reducible exact LeO.none _)
      | (with_reducible refine LeO.ite ?_ ?_)
      | (with_reducible refine LeO.bind ?_ (fun _ => ?_))
set_option maxHeartbeats 8000000 in
set_option maxRecDepth 100000 in
theorem firkinlaw12_SchemaBytes.calls (k : Nat) (A0 : Option Addr) (c0 : Nat) (l0 : List S69) (A1 : Option Addr) (c1 : Nat) (l1 : List Int) (r : Bool) (w : World) (hr0 : Kd.C k69 w A0 l0.length l0) (hc0 : l0.length ≤ c0) (hr1 : Kd.C (Kd.int .u8) w A1 l1.length l1) (hc1 : l1.length ≤ c1) (h : firkinlaw12_SchemaBytes.f k l0 l1 = some r) :
    Calls Try.prog 6 #[.slice A0 l0.length c0, .slice A1 l1.length c1] w fun e w' => e = .returned (.bool r) ∧ Below w.heap.size w w' := by
  unfold firkinlaw12_SchemaBytes.f at h
  have hm1 := Kd.C_max hr1
  have HR0 := Aside0.mk hr0
  have HR1 := Aside0.mk hr1
  clear hr0 hr1
  have hu2 := Try.underlying39
  obtain ⟨lv, elv, h⟩ := Option.bind_eq_some_iff.mp h
  cases lv with
  | false => rw [if_pos rfl] at h; cases h
  | true =>
  rw [if_neg (by decide)] at h
  have LV := Aside0.mk elv
  clear elv
  obtain ⟨sm, es, h⟩ := Option.bind_eq_some_iff.mp h
  have ES := Aside0.mk es
  clear es
  by_cases hl : sm = false ∨ 200 < l1.length
  · rw [if_pos hl] at h
    obtain rfl := Option.some.inj h
    clear h
    obtain ⟨b2, hb2⟩ : ∃ b_ : Bool, decide ((200 : Int) < (l1.length : Int)) = b_ := ⟨_, rfl⟩
    have hx : (!sm || b2) = true := by rw [← hb2]; rcases hl with rfl | h; rfl; simp [h]; omega
    clear hl
    cases sm <;> cases b2 <;> first
      | (exact absurd hx (by decide))
      | (clear hx
         go_enter Try.func6, Try.ntmps6
         go_wp2_with fail
         refine (firkinlaw12_Small.calls k A0 c0 l0 _ _ HR0.out hc0 ES.out).mono ?_
         rintro e w1 ⟨rfl, ⟨n1, rfl⟩⟩
         go_wp2_with fail
         refine (firkinlaw12_live.calls true _ LV.out).mono ?_
         rintro e w2 ⟨rfl, b2⟩
         go_wp2_with fail
         go_ret
         exact ⟨rfl, below_step (pw_below_drewN (Below.refl _ _) n1) b2⟩)
  rw [if_neg hl] at h
  obtain rfl : sm = true := by cases sm with | true => rfl | false => exact absurd (.inl rfl) hl
  have hb2 : decide ((200 : Int) < (l1.length : Int)) = false := decide_eq_false (by have := fun h => hl (.inr h); omega)
  obtain ⟨⟨s0, s3, s4⟩, e1, h⟩ := Option.bind_eq_some_iff.mp h
  obtain ⟨⟨t0, t3, t4⟩, e2, h⟩ := Option.bind_eq_some_iff.mp h
  obtain ⟨q, e3, h9⟩ := Option.bind_eq_some_iff.mp h
  clear h
  by_cases hst : q = false ∨ (s3, s4) ≠ (t3, t4) ∨ (s4 = true ∧ s3 ≠ [])
  · rw [if_pos hst] at h9; cases h9
  rw [if_neg hst] at h9
  have h1 : q = true := by cases q with | true => rfl | false => exact absurd (.inl rfl) hst
  have h2 : (s3, s4) = (t3, t4) := Classical.byContradiction fun h => hst (.inr (.inl h))
  have hgood : s4 = true → s3 = [] := fun h4 => Classical.byContradiction fun h => hst (.inr (.inr ⟨h4, h⟩))
  simp only [Prod.mk.injEq] at h2
  obtain ⟨rfl, rfl⟩ := h2
  subst h1
  clear hst
  have E1 := Aside0.mk e1
  have E2 := Aside0.mk e2
  have E3 := Aside0.mk e3
  have HH := Aside0.mk h9
  have HG := Aside0.mk hgood
  clear hl h9 e1 e2 e3 hgood
  go_enter Try.func6, Try.ntmps6
  go_wp2_with fail
  refine (firkinlaw12_Small.calls k A0 c0 l0 _ _ HR0.out hc0 ES.out).mono ?_
  rintro e w1 ⟨rfl, ⟨n1, rfl⟩⟩
  go_wp2_with fail
  refine (vint_From.calls2 A1 c1 l1 w _ (pw_below_drewN (Below.refl _ _) n1) HR1.out hc1).mono ?_
  rintro e w3 ⟨g, rfl, p3, B3, b3, hg3⟩
  have t4 := IsS39.new w w3 A1 c1 l1 false B3 ⟨HR1.out, hc1⟩
  have p4 := IsS75.below p3 (below_alloc (Below.refl _ _) (.cells #[.slice A1 l1.length c1, .bool false] 39))
  have B4 := below_alloc B3 (.cells #[.slice A1 l1.length c1, .bool false] 39)
  have hne : w3.heap.size ≠ g := by have := IsS75.lt p3; omega
  have hsz4 := Mem.alloc_size w3 (.cells #[.slice A1 l1.length c1, .bool false] 39)
  clear p3 B3 b3 hg3
  go_upto_region 4 with (fail)
  generalize w3.alloc (.cells #[.slice A1 l1.length c1, .bool false] 39) = W4 at t4 p4 B4 hsz4 ⊢
  go_cut [47] (fun v47 wx => v47 = .bool false ∧ Aside0 (Below w.heap.size w wx))
  case first =>
    go_region_with (first
      | (go_at_call 21; refine (schema_Take.calls k g l1 false s0 s3 s4 w _ (IsS75.drew p4) (below_drew B4) E1.out).mono ?_; rintro e w5 ⟨v5, rfl, R5, p5, B5, K5⟩; have t5 := IsS39.keep (IsS39.drew t4) K5 hne; clear p4 t4 B4 K5)
      | (go_at_call 22; refine (firkinref12_Take.calls k w3.heap.size l1 false t0 s3 s4 w _ t5 B5 E2.out).mono ?_; rintro e w6 ⟨v6, rfl, R6, t6, B6, K6⟩; have p6 := IsS75.keep p5 K6 (Ne.symm hne); have R5' := Kd.R_keep (Kd.R_bound R5) K6 (fun k_ hk => by have := hk.2.1; have h9 : W4.drew.heap.size = W4.heap.size := rfl; omega); obtain ⟨A5, c5, rfl, hc5, C5⟩ := Kd.R_reads R5'; obtain ⟨A6, c6, rfl, hc6, C6⟩ := Kd.R_reads R6; obtain ⟨A8, c8, hb8, hg8, hr8, hc8⟩ := t6; have h0 := (blk_cell hb8 0).trans rfl; have h1 := (blk_cell hb8 1).trans rfl; clear R5 R5' R6 p5 t5 B5 K6 hb8 hr8)
      | (go_at_call 20; refine (firkinref12_Same.calls k A5 c5 s0 A6 c6 t0 true _ C5 hc5 C6 hc6 E3.out).mono ?_; rintro e w7 ⟨rfl, ⟨n7, rfl⟩⟩; have p7 := IsS75.drewN p6 n7; clear C5 C6)
      | (go_at_call 23; refine (vint_Source_Ok.same g s3 s4 w _ p7).mono ?_; rintro e w9 ⟨rfl, rfl⟩)
      | (go_at_call 24; refine (vint_Source_Left.same2 g s3 s4 w _ p7 HG.out).mono ?_; rintro e w10 ⟨rfl, rfl⟩))
    all_goals
      go_wp2_with fail
      go_meet
      case rel => exact ⟨by first | rfl | (cases s4 <;> rfl) | (cases s4 <;> simp), ⟨pw_below_drewN B6 n7⟩⟩
  case rest =>
    obtain ⟨rfl, HB9⟩ := hcut
    have h := HH.out
    clear t4 p4 B4 hsz4 E1 E2 E3 HG hne HH
    obtain ⟨c, e4, h⟩ := Option.bind_eq_some_iff.mp h
    have E4 := Aside0.mk e4
    clear e4
    have HC9 := Aside0.mk (Kd.C_below HR0.out HB9.out)
    go_wp2_with fail
    refine (firkinref12_Check.calls k A0 c0 l0 c _ HC9.out hc0 E4.out).mono ?_
    rintro e w10 ⟨rfl, b10⟩
    have HB10 := Aside0.mk (below_step HB9.out b10)
    have HC10 := Aside0.mk (Kd.C_below HC9.out b10)
    clear HB9 HC9 b10 E4
    by_cases hc : c ≠ 0
    · rw [if_pos hc] at h
      obtain rfl := Option.some.inj h
      have hq : (c != 0) = true := by rw [bne_iff_ne]; exact hc
      clear h hc
      go_wp2_with fail
      refine (firkinlaw12_live.calls true _ LV.out).mono ?_
      rintro e w11 ⟨rfl, b11⟩
      go_wp2_with fail
      go_ret
      exact ⟨rfl, below_step HB10.out b11⟩
    · rw [if_neg hc] at h
      obtain rfl : c = 0 := by omega
      obtain ⟨x, e5, h⟩ := Option.bind_eq_some_iff.mp h
      obtain ⟨y, e6, h⟩ := Option.bind_eq_some_iff.mp h
      by_cases hxy : x ≠ y
      · rw [if_pos hxy] at h; cases h
      rw [if_neg hxy] at h
      obtain rfl : x = y := by simpa using hxy
      obtain ⟨⟨u0, u3, u4⟩, e7, h⟩ := Option.bind_eq_some_iff.mp h
      obtain ⟨p, e8, h⟩ := Option.bind_eq_some_iff.mp h
      by_cases hu3 : p = true ∧ (u3, u4) = (([] : List Int), false)
      case neg => rw [if_neg hu3] at h; cases h
      rw [if_pos hu3] at h
      obtain rfl := Option.some.inj h
      simp only [Prod.mk.injEq] at hu3
      obtain ⟨rfl, rfl, rfl⟩ := hu3
      have E5 := Aside0.mk e5
      have E6 := Aside0.mk e6
      have E7 := Aside0.mk e7
      have E8 := Aside0.mk e8
      clear h e5 e6 e7 e8 hc hxy
      go_wp2_with fail
      refine (schema_Put.calls k A0 c0 l0 x _ HC10.out hc0 E5.out).mono ?_
      rintro e w11 ⟨v11, rfl, R11, b11⟩
      have HB11 := Aside0.mk (below_step HB10.out b11)
      have HC11 := Aside0.mk (Kd.C_below HC10.out b11)
      obtain ⟨A4, c4, rfl, hc4, C4⟩ := Kd.R_reads R11
      have HX11 := Aside0.mk C4
      clear HB10 HC10 b11 R11 C4
      go_wp2_with fail
      refine (vint_From.calls2 A4 c4 x w11 w11 (Below.refl _ _) HX11.out hc4).mono ?_
      rintro e w12 ⟨g2, rfl, p12, B12, b12, hg12⟩
      have HB12 := Aside0.mk (below_step HB11.out b12)
      have HC12 := Aside0.mk (Kd.C_below HC11.out b12)
      have HX12 := Aside0.mk (Kd.C_below HX11.out b12)
      have P12 := Aside0.mk p12
      have BB12 := Aside0.mk B12
      clear HC11 HX11 b12 p12 B12
      go_wp2_with fail
      refine (firkinref12_Put.calls k A0 c0 l0 x _ HC12.out hc0 E6.out).mono ?_
      rintro e w13 ⟨v13, rfl, R13, b13⟩
      have HB13 := Aside0.mk (below_step HB12.out b13)
      have HC13 := Aside0.mk (Kd.C_below HC12.out b13)
      have HX13 := Aside0.mk (Kd.C_below HX12.out b13)
      have P13 := Aside0.mk (IsS75.below P12.out b13)
      have BB13 := Aside0.mk (below_step BB12.out b13)
      obtain ⟨A5, c5, rfl, hc5, C5⟩ := Kd.R_reads R13
      have HY13 := Aside0.mk C5
      clear HB12 HC12 HX12 P12 BB12 b13 R13 C5
      go_wp2_with fail
      refine (firkinref01_Same.calls A4 c4 x A5 c5 x true _ HX13.out hc4 HY13.out hc5 (by unfold firkinref01_Same.f; simp)).mono ?_
      rintro e w14 ⟨rfl, ⟨n14, rfl⟩⟩
      have P14 := Aside0.mk (IsS75.drewN P13.out n14)
      have BB14 := Aside0.mk (pw_below_drewN BB13.out n14)
      clear HX13 HY13 P13 BB13
      go_wp2_with fail
      refine (schema_Take.calls k g2 x false u0 [] false w11 _ P14.out BB14.out E7.out).mono ?_
      rintro e w15 ⟨v15, rfl, R15, p15, B15, K15⟩
      have HB15 := Aside0.mk (below_step HB11.out B15)
      have HC15 := Aside0.mk (Kd.C_below HR0.out HB15.out)
      obtain ⟨A6, c6, rfl, hc6, C6⟩ := Kd.R_reads R15
      have HU15 := Aside0.mk C6
      have P15 := Aside0.mk p15
      clear HB13 HC13 P14 BB14 B15 K15 R15 C6 p15
      go_wp2_with fail
      refine (schema_Same.calls k A6 c6 u0 A0 c0 l0 true _ HU15.out hc6 HC15.out hc0 E8.out).mono ?_
      rintro e w16 ⟨rfl, ⟨n16, rfl⟩⟩
      have P16 := Aside0.mk (IsS75.drewN P15.out n16)
      clear P15 HU15 HC15
      go_wp2_with fail
      refine (vint_Source_End.same g2 [] false w11 _ P16.out).mono ?_
      rintro e w17 ⟨rfl, rfl⟩
      go_wp2_with fail
      refine (firkinlaw12_live.calls true _ LV.out).mono ?_
      rintro e w18 ⟨rfl, b18⟩
      go_wp2_with fail
      go_ret
      exact ⟨rfl, below_step (pw_below_drewN HB15.out n16) b18⟩
end Go.Proofs.Ytbbffnlefmogbaa.X
/- Which texts may be names: the code's answer and the document's are one. -/
namespace Go.Proofs.Ytbbffnlefmogbaa.Names
open Go.RowKit Go.Proofs.Ytbbffnlefmogbaa.X Go.Proofs.YtbbffnlefmogbaaW.PrintWords Go.Proofs.YtbbffnlefmogbaaW.PrintLast Go.Proofs.YtbbffnlefmogbaaW.PrintMore
set_option linter.unusedVariables false
set_option linter.unusedSimpArgs false
theorem w64 {x : Int} (h0 : -9223372036854775808 ≤ x) (h1 : x < 9223372036854775808) : wrap64 x = x := by unfold wrap64; omega
theorem bt_get (s : ByteArray) (i : Nat) (h : i < s.size) : bt s (i : Int) = ((s.get! i).toNat : Int) := by
  unfold bt
  rw [dif_pos (by rw [Int.toNat_natCast]; exact h)]
  have := get_at s i h
  simp only [Int.toNat_natCast]
  rw [← this]; rfl
theorem okCh_iff (i c : Nat) : okCh i c = true ↔ (97 ≤ c ∧ c ≤ 122) ∨ (i ≠ 0 ∧ ((48 ≤ c ∧ c ≤ 57) ∨ c = 95)) := by
  simp [okCh]
theorem ref_loop (s : ByteArray) (hs : s.size ≤ maxLen) (d : Nat) : ∀ (k i : Nat), i + d = s.size → firkinref12_Name.l0 (k + d + 1) s (i : Int) = if nameL s d i = true then firkinref12_Name.l0 (k + 1) s (s.size : Int) else some false := by
  induction d with
  | zero =>
    intro k i hi
    obtain rfl : i = s.size := by omega
    rw [nameL, if_pos rfl]
  | succ d ih =>
    intro k i hi
    have hlt : i < s.size := by omega
    have hs' := hs
    unfold maxLen at hs'
    rw [show k + (d + 1) + 1 = (k + d + 1) + 1 by omega, firkinref12_Name.l0, if_pos (by omega), if_pos (by omega), w64 (by omega) (by omega), show ((i : Int) + 1) = ((i + 1 : Nat) : Int) from rfl, ih k (i + 1) (by omega), bt_get s i hlt, nameL]
    have ho := okCh_iff i (s.get! i).toNat
    generalize (s.get! i).toNat = c at ho ⊢
    generalize nameL s d (i + 1) = q
    generalize firkinref12_Name.l0 (k + 1) s (s.size : Int) = Z
    cases hc : okCh i c with
    | true =>
      have ho := ho.mp hc
      rw [Bool.true_and]
      repeat' (first | rfl | (split <;> try (exfalso; omega)))
    | false =>
      have ho : ¬ _ := fun h9 => by have := ho.mpr h9; rw [hc] at this; cases this
      rw [Bool.false_and, if_neg (show ¬ (false = true) by decide)]
      repeat' (first | rfl | (split <;> try (exfalso; omega)))
/-- Is the text one of these? -/
def isIn (s : ByteArray) : List ByteArray → Bool
  | [] => false
  | x :: l => if x.toList = s.toList then true else isIn s l
theorem isIn_drop (s : ByteArray) (W : List ByteArray) (i : Nat) (hi : i < W.length) : isIn s (W.drop i) = if (rdOf ByteArray.empty W (i : Int)).toList = s.toList then true else isIn s (W.drop (i + 1)) := by
  rw [List.drop_eq_getElem_cons hi, isIn, rdOf, Int.toNat_natCast, List.getD_eq_getElem?_getD, List.getElem?_eq_getElem hi]; rfl
def sizeOk (s : ByteArray) : Bool := decide (1 ≤ s.size) && decide (s.size ≤ 12)
theorem word_loop (s : ByteArray) (W : List ByteArray) (hW : W.length ≤ 1000000) (d : Nat) : ∀ (k i : Nat), i + d = W.length → d < k → firkinref12_Name.l1 k s W (i : Int) = if isIn s (W.drop i) = true then some false else some (sizeOk s) := by
  induction d with
  | zero =>
    intro k i hi hk
    obtain ⟨k, rfl⟩ : ∃ m, k = m + 1 := ⟨k - 1, by omega⟩
    rw [firkinref12_Name.l1, if_neg (by omega), List.drop_eq_nil_of_le (by omega), isIn, if_neg (show ¬ (false = true) by decide), sizeOk]
    by_cases h : 1 ≤ s.size
    · rw [if_pos (by omega), decide_eq_true h, Bool.true_and]
      congr 1
      rw [decide_eq_decide]; omega
    · rw [if_neg (by omega), decide_eq_false h, Bool.false_and]
  | succ d ih =>
    intro k i hi hk
    obtain ⟨k, rfl⟩ : ∃ m, k = m + 1 := ⟨k - 1, by omega⟩
    rw [firkinref12_Name.l1, if_pos (by omega), if_pos (by omega), w64 (by omega) (by omega), show ((i : Int) + 1) = ((i + 1 : Nat) : Int) from rfl, ih k (i + 1) (by omega) (by omega), isIn_drop s W i (by omega)]
    by_cases h : (rdOf ByteArray.empty W (i : Int)).toList = s.toList
    · rw [if_pos h, if_pos h, if_pos rfl]
    · rw [if_neg h, if_neg h]
/-- The words of queries. -/
def words : List ByteArray := (firkinref12_Words.f).getD []
theorem words_is : firkinref12_Words.f = some words := rfl
def chain (s : List UInt8) : List (List UInt8) → Option Bool
  | [] => some false
  | a :: l => if s = a then some true else chain s l
theorem chain_is (s : ByteArray) (W : List ByteArray) : chain s.toList (W.map fun x => x.data.toList) = some (isIn s W) := by
  induction W with
  | nil => rfl
  | cons x W ih =>
    rw [List.map_cons, chain, isIn, ih, ByteArray.toList_eq x]
    by_cases h : s.toList = x.data.toList
    · rw [if_pos h, if_pos h.symm]
    · rw [if_neg h, if_neg (fun h9 => h h9.symm)]
theorem word_is (s : ByteArray) : schema_word.f s = some (isIn s words) := by
  rw [← chain_is]
  rfl
/-- May the text be a name? -/
def nameB (s : ByteArray) : Bool := nameL s s.size 0 && (!(isIn s words) && sizeOk s)
theorem name_is (s : ByteArray) : schema_Name.f s = some (nameB s) := by
  unfold schema_Name.f nameB sizeOk
  by_cases h : s.size = 0 ∨ 12 < s.size
  · rw [if_pos h]
    congr 1
    symm
    rcases h with h | h
    · rw [decide_eq_false (p := 1 ≤ s.size) (by omega)]; simp
    · rw [decide_eq_false (p := s.size ≤ 12) (by omega)]; simp
  · rw [if_neg h, word_is, Option.bind_some, decide_eq_true (p := 1 ≤ s.size) (by omega), decide_eq_true (p := s.size ≤ 12) (by omega)]
    cases isIn s words <;> simp
theorem rname_is (s : ByteArray) (hs : s.size ≤ maxLen) (k : Nat) (hk : s.size + 30 ≤ k) : firkinref12_Name.f k s = some (nameB s) := by
  unfold firkinref12_Name.f
  obtain ⟨m, rfl⟩ : ∃ m, k = m + s.size + 1 := ⟨k - s.size - 1, by omega⟩
  rw [show (0 : Int) = ((0 : Nat) : Int) from rfl, ref_loop s hs s.size m 0 (by omega), nameB]
  cases h : nameL s s.size 0 with
  | false => rw [if_neg (by decide)]; rfl
  | true =>
    rw [if_pos rfl, firkinref12_Name.l0, if_neg (by omega), words_is, Option.bind_some, show (0 : Int) = ((0 : Nat) : Int) from rfl, word_loop s words (by decide) words.length m 0 (by omega) (by have : words.length = 19 := rfl; omega), List.drop_zero]
    cases isIn s words <;> simp
end Go.Proofs.Ytbbffnlefmogbaa.Names
/- Columns, plain law: which there may be; the code's answer and the document's. -/
namespace Go.Proofs.Ytbbffnlefmogbaa.ChkPlain
open Go.RowKit Go.Proofs.Ytbbffnlefmogbaa.X Go.Proofs.Ytbbffnlefmogbaa.Names Go.Proofs.YtbbffnlefmogbaaW.PrintWords Go.Proofs.YtbbffnlefmogbaaW.PrintLast Go.Proofs.YtbbffnlefmogbaaW.PrintMore
set_option linter.unusedVariables false
set_option linter.unusedSimpArgs false
theorem w64 {x : Int} (h0 : -9223372036854775808 ≤ x) (h1 : x < 9223372036854775808) : wrap64 x = x := by unfold wrap64; omega
theorem rd_nat (l : List S69) (i : Nat) : rd_T69 l (i : Int) = l.getD i z69 := by rw [rd_T69, Int.toNat_natCast]
theorem nameIs_iff (s : ByteArray) (x : S69) : nameIs s x = true ↔ x.f0.toList = s.toList := by rw [nameIs, beq_iff_eq]
theorem colAt_ge (p : S69 → Bool) (l : List S69) : ∀ i : Nat, colAt p l i = -1 ∨ (i : Int) ≤ colAt p l i := by
  induction l with
  | nil => intro i; exact Or.inl rfl
  | cons x l ih =>
    intro i
    rw [colAt]
    split
    · exact Or.inr (Int.le_refl _)
    · rcases ih (i + 1) with h | h
      · exact Or.inl h
      · exact Or.inr (by omega)
/-- Why columns may not be, behind i good ones. -/
theorem colAt_take (p : S69 → Bool) (l : List S69) : ∀ j : Nat, (0 ≤ colAt p l j) ↔ ∃ x ∈ l, p x = true := by
  induction l with
  | nil => intro j; simp [colAt]
  | cons x l ih =>
    intro j
    rw [colAt]
    by_cases h : p x = true
    · rw [if_pos h]; exact ⟨fun _ => ⟨x, by simp, h⟩, fun _ => by omega⟩
    · rw [if_neg h, ih (j + 1)]
      constructor
      · rintro ⟨y, hy, hp⟩; exact ⟨y, by simp [hy], hp⟩
      · rintro ⟨y, hy, hp⟩
        rcases List.mem_cons.mp hy with rfl | hy
        · exact absurd hp h
        · exact ⟨y, hy, hp⟩
theorem colAt_step (p : S69 → Bool) (l : List S69) (i j : Nat) (hj : j < i) (hi : i ≤ l.length) : colAt p ((l.take i).drop j) j = if p (l.getD j z69) = true then (j : Int) else colAt p ((l.take i).drop (j + 1)) (j + 1) := by
  rw [colAt_drop p (l.take i) j (by rw [List.length_take]; omega)]
  have : (l.take i).getD j z69 = l.getD j z69 := by
    rw [List.getD_eq_getElem?_getD, List.getD_eq_getElem?_getD, List.getElem?_take, if_pos hj]
  rw [this]
theorem inner_loop (l : List S69) (hs : l.length ≤ 1000000) (i : Nat) (hi : i < l.length) (d : Nat) : ∀ (m j : Nat), j + d = i → firkinref12_Check.l1 (m + d + 1) l (i : Int) (j : Int) = if 0 ≤ colAt (nameIs (l.getD i z69).f0) ((l.take i).drop j) j then some 1 else firkinref12_Check.l0 m l ((i + 1 : Nat) : Int) := by
  induction d with
  | zero =>
    intro m j hj
    obtain rfl : j = i := by omega
    rw [firkinref12_Check.l1, if_neg (by omega), List.drop_eq_nil_of_le (by rw [List.length_take]; omega), colAt, if_neg (by decide), w64 (by omega) (by omega)]
    rfl
  | succ d ih =>
    intro m j hj
    rw [show m + (d + 1) + 1 = (m + d + 1) + 1 by omega, firkinref12_Check.l1, if_pos (by omega), if_pos (by omega), if_pos (by omega), if_pos (by omega), if_pos (by omega), colAt_step _ _ _ _ (by omega) (by omega), w64 (by omega) (by omega), show ((j : Int) + 1) = ((j + 1 : Nat) : Int) from rfl, ih m (j + 1) (by omega), rd_nat, rd_nat]
    by_cases h : (l.getD j z69).f0.toList = (l.getD i z69).f0.toList
    · rw [if_pos h, if_pos ((nameIs_iff _ _).mpr h), if_pos (by omega)]
    · rw [if_neg h, if_neg (fun h9 => h ((nameIs_iff _ _).mp h9))]
theorem check_loop (l : List S69) (hs : l.length ≤ 20) (M : Nat) (hM : M ≤ maxLen) (hz : ∀ x ∈ l, x.f0.size ≤ M) (h0 : l.length ≠ 0) (d : Nat) : ∀ (k i : Nat), i + d = l.length → 40 * d + M + 40 ≤ k → firkinref12_Check.l0 k l (i : Int) = checkGo l d i := by
  induction d with
  | zero =>
    intro k i hi hk
    obtain ⟨k, rfl⟩ : ∃ m, k = m + 1 := ⟨k - 1, by omega⟩
    rw [firkinref12_Check.l0, if_neg (by omega), if_neg (by omega), checkGo]
    by_cases h6 : 6 < l.length
    · rw [if_pos (by omega), if_pos h6]
    · rw [if_neg (by omega), if_neg h6]
  | succ d ih =>
    intro k i hi hk
    obtain ⟨k, rfl⟩ : ∃ m, k = m + i + 3 := ⟨k - i - 3, by omega⟩
    have hlt : i < l.length := by omega
    have hsz : (l.getD i z69).f0.size ≤ M := by
      rw [List.getD_eq_getElem?_getD, List.getElem?_eq_getElem hlt]; exact hz _ (List.getElem_mem hlt)
    have hin := inner_loop l (by omega) i hlt i k 0 (by omega)
    rw [List.drop_zero] at hin
    rw [show k + i + 3 = (k + i + 2) + 1 by omega, firkinref12_Check.l0, if_pos (by omega), if_pos (by omega), rd_nat, checkGo]
    generalize (l.getD i z69) = x at hsz hin ⊢
    rw [Names.rname_is x.f0 (by omega) _ (by omega), Names.name_is, Option.bind_some, Option.bind_some, show k + i + 2 = (k + i + 1) + 1 by omega]
    have hj : firkinref12_Check.j1 (k + i + 1 + 1) l (i : Int) true = some 1 := by rw [firkinref12_Check.j1, if_pos rfl]
    have hj2 : firkinref12_Check.j1 (k + i + 1 + 1) l (i : Int) false = firkinref12_Check.l1 (k + i + 1) l (i : Int) ((0 : Nat) : Int) := by rw [firkinref12_Check.j1, if_neg (by decide)]; rfl
    rw [ih k (i + 1) (by omega) (by omega)] at hin
    cases hb : Names.nameB x.f0 with
    | false => rw [if_neg (by decide), hj, if_pos (Or.inr (Or.inl rfl))]
    | true =>
      rw [if_pos rfl]
      by_cases h1 : x.f1 < 1
      · rw [if_pos h1, hj, if_pos (Or.inr (Or.inr (Or.inl h1)))]
      · rw [if_neg h1]
        by_cases h3 : x.f1 > 3
        · rw [decide_eq_true h3, hj, if_pos (Or.inr (Or.inr (Or.inr h3)))]
        · rw [decide_eq_false h3, hj2, hin]
          by_cases hc : 0 ≤ colAt (nameIs x.f0) (l.take i) 0
          · rw [if_pos hc, if_pos (Or.inl hc)]
          · rw [if_neg hc, if_neg]
            rintro (h9 | h9 | h9 | h9)
            · exact hc h9
            · cases h9
            · exact h1 h9
            · exact h3 h9
theorem checkGo_some (l : List S69) (d : Nat) : ∀ i, ∃ n, checkGo l d i = some n := by
  induction d with
  | zero => intro i; rw [checkGo]; split <;> exact ⟨_, rfl⟩
  | succ d ih =>
    intro i
    rw [checkGo, Names.name_is, Option.bind_some]
    split
    · exact ⟨_, rfl⟩
    · exact ih _
theorem check_is (l : List S69) (hs : l.length ≤ 20) (M : Nat) (hM : M ≤ maxLen) (hz : ∀ x ∈ l, x.f0.size ≤ M) (k : Nat) (hk : M + 1000 ≤ k) : ∃ n, schema_Check.f l = some n ∧ firkinref12_Check.f k l = some n := by
  unfold schema_Check.f firkinref12_Check.f
  by_cases h0 : l.length = 0
  · obtain ⟨k, rfl⟩ : ∃ m, k = m + 1 := ⟨k - 1, by omega⟩
    rw [if_pos h0, firkinref12_Check.l0, if_neg (by omega), if_pos (by omega)]
    exact ⟨_, rfl, rfl⟩
  · obtain ⟨n, hn⟩ := checkGo_some l l.length 0
    rw [if_neg h0, show (0 : Int) = ((0 : Nat) : Int) from rfl, check_loop l hs M hM hz h0 l.length k 0 (by omega) (by omega)]
    exact ⟨n, hn, hn⟩
end Go.Proofs.Ytbbffnlefmogbaa.ChkPlain
/- A number's bytes, plain law: the code's and the document's are the same. -/
namespace Go.Proofs.Ytbbffnlefmogbaa.Enc
open Go.RowKit Go.Proofs.Ytbbffnlefmogbaa.X Go.Proofs.Ytbbffnlefmogbaa.Dec Go.Proofs.YtbbffnlefmogbaaW.PrintWords Go.Proofs.YtbbffnlefmogbaaW.PrintLast Go.Proofs.YtbbffnlefmogbaaW.PrintMore
set_option linter.unusedVariables false
theorem num_loop (n G : Nat) (hG : 1 ≤ G) (hG2 : G ≤ 10) (d : Nat) : ∀ (k i : Nat), i + d = G → d < k →
    vint_Num.l0 k (n : Int) (G : Int) (laid n G i) (G : Int) (i : Int) = some (encL n G) := by
  induction d with
  | zero =>
    intro k i hd hk
    obtain ⟨k, rfl⟩ : ∃ m, k = m + 1 := ⟨k - 1, by omega⟩
    obtain rfl : i = G := by omega
    rw [vint_Num.l0, if_neg (by omega), w64 (by omega) (by omega), if_pos (by omega), if_pos (by rw [laid_length]; omega)]
    rw [show ((i : Int) - 1) = ((i - 1 : Nat) : Int) by omega, rd_nat, Int.toNat_natCast]
    have hg : (laid n i i).getD (i - 1) 0 = ((n / 2 ^ (7 * (i - 1)) % 128 + 128 : Nat) : Int) := by
      simp only [laid, List.getD]
      rw [List.getElem?_map, List.getElem?_range (by omega)]
      simp; omega
    rw [hg, last_seven _ (Nat.mod_lt _ (by decide)), laid_end n i hG]
  | succ d ih =>
    intro k i hd hk
    obtain ⟨k, rfl⟩ : ∃ m, k = m + 1 := ⟨k - 1, by omega⟩
    rw [vint_Num.l0, if_pos (by omega), w64 (x := 7 * (i : Int)) (by omega) (by omega), if_pos (by omega), if_pos (by omega), if_pos (by rw [laid_length]; omega)]
    rw [show (7 * (i : Int)) = ((7 * i : Nat) : Int) by omega, shr_nat n i (by omega), seven, Int.toNat_natCast, laid_set n G i (by omega), w64 (by omega) (by omega), show ((i : Int) + 1) = ((i + 1 : Nat) : Int) by omega]
    exact ih k (i + 1) (by omega) (by omega)
theorem num_is (n : Nat) (h : n < 18446744073709551616) (k : Nat) (hk : 10 < k) : vint_Num.f k (n : Int) = some (enc n) := by
  have hl := len_le n h
  have hg := grp_le (n := n) h
  unfold vint_Num.f bits_Len64.f
  rw [if_pos ⟨by omega, by omega⟩, Option.bind_some, Int.toNat_natCast]
  have e : mx 1 (wrap64 (Int.tdiv (wrap64 ((wrap64 (((Lib.bitLen n : Nat) : Int) + 7)) - 1)) 7)) = ((grp n : Nat) : Int) := by
    rw [w64 (x := ((Lib.bitLen n : Nat) : Int) + 7) (by omega) (by omega), w64 (x := ((Lib.bitLen n : Nat) : Int) + 7 - 1) (by omega) (by omega), Int.tdiv_eq_ediv_of_nonneg (by omega), w64 (by omega) (by omega)]
    unfold mx grp
    split <;> omega
  rw [e]
  rw [if_pos (by omega), Int.toNat_natCast, if_pos (by omega), Option.bind_some, List.length_replicate, ← laid_zero n]
  have := num_loop n (grp n) (grp_has h).1 hg (grp n) k 0 (by omega) (by omega)
  exact this
theorem rnum_loop (n G : Nat) (hn : Has n G) (hlt : n < 18446744073709551616) (hG : G ≤ 10) (d : Nat) : ∀ (k i : Nat) (acc : List Int), i + d = G → 1 ≤ d → d < k → acc = (encL n G).take i →
    firkinref01_Num.l0 k ((n / 2 ^ (7 * i) : Nat) : Int) acc = some (encL n G) := by
  induction d with
  | zero => intro k i acc hd h1; omega
  | succ d ih =>
    intro k i acc hd _ hk hacc
    obtain ⟨k, rfl⟩ : ∃ m, k = m + 1 := ⟨k - 1, by omega⟩
    have hq : n / 2 ^ (7 * i) < 18446744073709551616 := Nat.lt_of_le_of_lt (Nat.div_le_self _ _) hlt
    have hlen : acc.length ≤ 10 := by rw [hacc, List.length_take, encL_length]; omega
    have hget : (encL n G)[i]? = some ((encByte n G i : Nat) : Int) := by
      rw [encL, List.getElem?_map, List.getElem?_range (by omega)]; rfl
    have hsnoc : (encL n G).take i ++ [((encByte n G i : Nat) : Int)] = (encL n G).take (i + 1) := by
      have hi : i < (encL n G).length := by rw [encL_length]; omega
      rw [List.take_succ_eq_append_getElem hi]
      congr 1
      rw [List.getElem?_eq_getElem hi] at hget
      rw [Option.some.inj hget]
    have hpow : 2 ^ (7 * (i + 1)) = 2 ^ (7 * i) * 128 := by rw [show 7 * (i + 1) = 7 * i + 7 by omega, Nat.pow_add]
    rw [firkinref01_Num.l0]
    by_cases hd0 : d = 0
    · have hi : i + 1 = G := by omega
      have hsm : n / 2 ^ (7 * i) < 128 := by
        have := hn.2.1
        rw [← hi, hpow] at this
        exact Nat.div_lt_of_lt_mul this
      rw [if_neg (by omega), if_pos (by omega), hacc]
      have he : encByte n G i = n / 2 ^ (7 * i) := by unfold encByte; rw [if_neg (by omega), Nat.mod_eq_of_lt hsm, Nat.add_zero]
      rw [show (((n / 2 ^ (7 * i) : Nat) : Int) % 256) = ((n / 2 ^ (7 * i) : Nat) : Int) by omega, ← he, hsnoc, List.take_of_length_le (by rw [encL_length]; omega)]
    · have hbig : 128 ≤ n / 2 ^ (7 * i) := by
        have h1 := hn.2.2 (by omega)
        have h2 : 2 ^ (7 * (i + 1)) ≤ 2 ^ (7 * (G - 1)) := Nat.pow_le_pow_right (by decide) (by omega)
        rw [hpow] at h2
        rw [Nat.le_div_iff_mul_le (Nat.two_pow_pos _), Nat.mul_comm]
        omega
      have he : encByte n G i = n / 2 ^ (7 * i) % 128 + 128 := by unfold encByte; rw [if_pos (by omega)]
      have hdd : n / 2 ^ (7 * i) / 128 = n / 2 ^ (7 * (i + 1)) := by rw [Nat.div_div_eq_div_mul, hpow]
      rw [if_pos (by omega), if_pos (by omega), Int.tdiv_eq_ediv_of_nonneg (by omega), Int.tmod_eq_emod_of_nonneg (by omega)]
      rw [IntKind.wrap_u64, IntKind.wrap_u64]
      rw [show ((((n / 2 ^ (7 * i) : Nat) : Int) / 128) % 18446744073709551616) = ((n / 2 ^ (7 * i) / 128 : Nat) : Int) by omega, hdd]
      rw [show (((((n / 2 ^ (7 * i) : Nat) : Int) % 128 + 128) % 18446744073709551616) % 256) = ((n / 2 ^ (7 * i) % 128 + 128 : Nat) : Int) by omega, ← he]
      exact ih k (i + 1) _ (by omega) (by omega) (by omega) (by rw [hacc, hsnoc])
theorem rnum_is (n : Nat) (h : n < 18446744073709551616) (k : Nat) (hk : 11 < k) : firkinref01_Num.f k (n : Int) = some (enc n) := by
  unfold firkinref01_Num.f
  have hg := grp_le (n := n) h
  have := rnum_loop n (grp n) (grp_has h) h hg (grp n) k 0 [] (by omega) (grp_has h).1 (by omega) (by simp)
  rw [Nat.mul_zero, Nat.pow_zero, Nat.div_one] at this
  exact this
end Go.Proofs.Ytbbffnlefmogbaa.Enc
/- A text's bytes, plain law: the code's and the document's are the same. -/
namespace Go.Proofs.Ytbbffnlefmogbaa.EncText
open Go Go.RowKit Go.Proofs.Ytbbffnlefmogbaa.X Go.Proofs.Ytbbffnlefmogbaa.Dec Go.Proofs.Ytbbffnlefmogbaa.Enc Go.Proofs.YtbbffnlefmogbaaW.PrintWords Go.Proofs.YtbbffnlefmogbaaW.PrintLast Go.Proofs.YtbbffnlefmogbaaW.PrintMore
set_option linter.unusedVariables false
/-- A text's bytes, behind how many there are. -/
def encT (s : ByteArray) : List Int := enc s.size ++ bytesOf s
theorem bytesOf_bytes (s : ByteArray) : IsBytes (bytesOf s) := by
  intro x hx
  obtain ⟨y, _, rfl⟩ := List.mem_map.1 hx
  have := y.toNat_lt
  omega
theorem encT_bytes (s : ByteArray) : IsBytes (encT s) := by
  intro x hx
  rcases List.mem_append.1 hx with h | h
  · exact enc_bytes _ x h
  · exact bytesOf_bytes _ x h
theorem enc_len (n : Nat) (h : n < 18446744073709551616) : (enc n).length ≤ 10 := by
  unfold enc; rw [encL_length]; exact grp_le h
theorem encT_len (s : ByteArray) (h : s.size < 1000000000000) : (encT s).length ≤ s.size + 10 := by
  unfold encT; rw [List.length_append, bytesOf_length]; have := enc_len s.size (by omega); omega
theorem text_is (s : ByteArray) (h : s.size < 1000000000000) (k : Nat) (hk : 11 < k) : vint_Text.f k s = some (encT s) := by
  have hl := encT_len s h
  unfold vint_Text.f
  rw [num_is s.size (by omega) k (by omega), Option.bind_some, if_pos (by omega)]
  unfold vint_joined.f bytes_Join.f
  unfold encT at hl
  rw [if_pos ⟨rfl, by simp, by simpa using by rw [List.length_append] at hl; omega⟩]
  simp [encT]
theorem wrap_size (s : ByteArray) (h : s.size < 1000000000000) : IntKind.u64.wrap (s.size : Int) = (s.size : Int) := by rw [IntKind.wrap_u64]; omega
theorem rtext_is (s : ByteArray) (h : s.size < 1000000000000) (k : Nat) (hk : 11 < k) : firkinref01_Text.f k s = some (encT s) := by
  have hl := encT_len s h
  unfold encT at hl
  rw [List.length_append, bytesOf_length] at hl
  unfold firkinref01_Text.f
  rw [wrap_size s h, rnum_is s.size (by omega) k hk, Option.bind_some, if_pos (by omega)]
  rfl
theorem same_self (l : List Int) : firkinref01_Same.f l l = some true := by unfold firkinref01_Same.f; simp
end Go.Proofs.Ytbbffnlefmogbaa.EncText
/- What is read of a source, plain law: numbers, numbers below another one: the code's source and the document's read the same. -/
namespace Go.Proofs.Ytbbffnlefmogbaa.Read
open Go Go.RowKit Go.Proofs.Ytbbffnlefmogbaa.X Go.Proofs.Ytbbffnlefmogbaa.Dec Go.Proofs.Ytbbffnlefmogbaa.Enc Go.Proofs.Ytbbffnlefmogbaa.Round Go.Proofs.YtbbffnlefmogbaaW.PrintWords Go.Proofs.YtbbffnlefmogbaaW.PrintLast Go.Proofs.YtbbffnlefmogbaaW.PrintMore
set_option linter.unusedVariables false
/-- A source as it can be: of one that failed nothing is left. -/
def GoodS (l : List Int) (bad : Bool) : Prop := Fit l ∧ (bad = true → l = [])
theorem GoodS.nil (b : Bool) : GoodS [] b := ⟨Fit.nil, fun _ => rfl⟩
theorem GoodS.of {l : List Int} (h : Fit l) : GoodS l false := ⟨h, fun h => by cases h⟩
theorem GoodS.drop {l : List Int} {b : Bool} (h : GoodS l b) (k : Nat) : GoodS (l.drop k) b := ⟨h.1.drop k, fun e => by rw [h.2 e]; exact List.drop_nil⟩
def gNum (l : List Int) (bad : Bool) : Int × List Int × Bool :=
  if bad = true ∨ szS 0 l = 0 then (0, [], true) else (((valS 0 (l.take (szS 0 l)) : Nat) : Int), l.drop (szS 0 l), false)
theorem gNum_good {l : List Int} {b : Bool} (h : GoodS l b) : GoodS (gNum l b).2.1 (gNum l b).2.2 := by
  unfold gNum; split
  · exact GoodS.nil _
  · exact GoodS.of (h.1.drop _)
theorem gNum_len (l : List Int) (b : Bool) : (gNum l b).2.1.length ≤ l.length := by
  unfold gNum; split <;> simp
theorem gNum_range {l : List Int} {b : Bool} (h : GoodS l b) : 0 ≤ (gNum l b).1 ∧ (gNum l b).1 < 18446744073709551616 := by
  unfold gNum; split
  · simp
  · have := val_lt h.1.1 (Nat.le_refl (szS 0 l))
    show 0 ≤ ((_ : Nat) : Int) ∧ ((_ : Nat) : Int) < _
    omega
theorem num_g {l : List Int} {b : Bool} (h : GoodS l b) : vint_Source_Num.f l b = some (gNum l b) := by
  unfold vint_Source_Num.f numS gNum
  rw [if_pos h.1]
  cases b with
  | true => rw [if_pos rfl, if_pos (.inl rfl), h.2 rfl]
  | false =>
    rw [if_neg (by decide)]
    by_cases hz : szS 0 l = 0
    · rw [if_pos hz, if_pos (.inr hz)]
    · rw [if_neg hz, if_neg (by simp [hz])]
theorem rnum_g {l : List Int} {b : Bool} (h : GoodS l b) : firkinref01_S_Num.f l b = some (gNum l b) := by
  unfold firkinref01_S_Num.f rnumS gNum
  rw [if_pos h.1]
  cases b with
  | true => obtain rfl := h.2 rfl; rfl
  | false =>
    by_cases hz : szS 0 l = 0
    · rw [if_pos hz, if_pos (.inr hz)]
    · rw [if_neg hz, if_neg (by simp [hz])]
def gBelow (l : List Int) (bad : Bool) (n : Int) : Int × List Int × Bool :=
  if (gNum l bad).2.2 = true ∨ n ≤ 0 ∨ n ≤ (gNum l bad).1 then (0, [], true) else gNum l bad
theorem gBelow_good {l : List Int} {b : Bool} (h : GoodS l b) (n : Int) : GoodS (gBelow l b n).2.1 (gBelow l b n).2.2 := by
  unfold gBelow; split
  · exact GoodS.nil _
  · exact gNum_good h
theorem gBelow_len (l : List Int) (b : Bool) (n : Int) : (gBelow l b n).2.1.length ≤ l.length := by
  unfold gBelow; split
  · simp
  · exact gNum_len l b
theorem gBelow_range {l : List Int} {b : Bool} (h : GoodS l b) (n : Int) : 0 ≤ (gBelow l b n).1 ∧ ((gBelow l b n).1 < n ∨ (gBelow l b n).1 = 0) := by
  unfold gBelow; split
  · simp
  · have := gNum_range h; omega
theorem wrap_u64_of {n : Int} (h0 : 0 ≤ n) (h1 : n < 18446744073709551616) : IntKind.u64.wrap n = n := by rw [IntKind.wrap_u64]; omega
theorem below_g {l : List Int} {b : Bool} (h : GoodS l b) (n : Int) (hn : n < 9223372036854775808) : vint_Source_Below.f l b n = some (gBelow l b n) := by
  unfold vint_Source_Below.f vint_Source_Ok.f vint_Source_Fail.f
  rw [num_g h, Option.bind_some]
  obtain ⟨h0, h1⟩ := gNum_range h
  unfold gBelow
  generalize gNum l b = g at h0 h1 ⊢
  obtain ⟨x, l', b'⟩ := g
  simp only [Option.bind_some] at h0 h1 ⊢
  cases b' with
  | true => simp
  | false =>
    by_cases hn0 : n > 0
    · rw [wrap_u64_of (by omega) (by omega)]
      by_cases hx : x < n
      · have hw : wrap64 x = x := w64 (by omega) (by omega)
        have : ¬ n ≤ 0 := by omega
        simp [hn0, hx, hw, this]
      · have : n ≤ x := by omega
        simp [hn0, hx, this]
    · have : n ≤ 0 := by omega
      simp [hn0, this]
theorem rbelow_g {l : List Int} {b : Bool} (h : GoodS l b) (n : Int) (hn : n < 9223372036854775808) : firkinref01_S_Below.f l b n = some (gBelow l b n) := by
  unfold firkinref01_S_Below.f firkinref01_S_Fail.f
  rw [rnum_g h, Option.bind_some]
  obtain ⟨h0, h1⟩ := gNum_range h
  unfold gBelow
  generalize gNum l b = g at h0 h1 ⊢
  obtain ⟨x, l', b'⟩ := g
  simp only [Option.bind_some] at h0 h1 ⊢
  cases b' with
  | true => simp
  | false =>
    by_cases hn0 : n < 1
    · have : n ≤ 0 := by omega
      simp [hn0, this]
    · have hn2 : ¬ n ≤ 0 := by omega
      rw [wrap_u64_of (by omega) (by omega)]
      by_cases hx : x ≥ n
      · have : n ≤ x := by omega
        simp [hn0, hn2, this]
      · have hw : wrap64 x = x := w64 (by omega) (by omega)
        have : ¬ n ≤ x := by omega
        simp [hn0, hn2, hw, this]
end Go.Proofs.Ytbbffnlefmogbaa.Read
/- What is read of a source, plain law: bytes; the code's source and the document's read the same. -/
namespace Go.Proofs.Ytbbffnlefmogbaa.Read
open Go Go.RowKit Go.Proofs.Ytbbffnlefmogbaa.X Go.Proofs.Ytbbffnlefmogbaa.Dec Go.Proofs.Ytbbffnlefmogbaa.Enc Go.Proofs.Ytbbffnlefmogbaa.Round Go.Proofs.YtbbffnlefmogbaaW.PrintWords Go.Proofs.YtbbffnlefmogbaaW.PrintLast Go.Proofs.YtbbffnlefmogbaaW.PrintMore
set_option linter.unusedVariables false
def gTake (l : List Int) (bad : Bool) (n : Int) : List Int × List Int × Bool :=
  if bad = true ∨ n < 0 ∨ (l.length : Int) < n then ([], [], true) else (l.take n.toNat, l.drop n.toNat, false)
theorem gTake_good {l : List Int} {b : Bool} (h : GoodS l b) (n : Int) : GoodS (gTake l b n).2.1 (gTake l b n).2.2 := by
  unfold gTake; split
  · exact GoodS.nil _
  · exact GoodS.of (h.1.drop _)
theorem gTake_len (l : List Int) (b : Bool) (n : Int) : (gTake l b n).2.1.length ≤ l.length := by unfold gTake; split <;> simp
theorem gTake_bytes {l : List Int} {b : Bool} (h : GoodS l b) (n : Int) : IsBytes (gTake l b n).1 := by
  unfold gTake; split
  · intro x hx; simp at hx
  · exact h.1.1.take _
theorem take_g {l : List Int} {b : Bool} (h : GoodS l b) (n : Int) : vint_Source_Take.f l b n = some (gTake l b n) := by
  unfold vint_Source_Take.f; rw [if_pos h.1.2]; rfl
theorem rtake_g {l : List Int} {b : Bool} (h : GoodS l b) (n : Int) : firkinref01_S_Take.f l b n = some (gTake l b n) := by
  unfold firkinref01_S_Take.f; rw [if_pos h.1.2]; rfl
end Go.Proofs.Ytbbffnlefmogbaa.Read
/- Texts that are read, plain law. -/
namespace Go.Proofs.Ytbbffnlefmogbaa.Read
open Go Go.RowKit Go.Proofs.Ytbbffnlefmogbaa.X Go.Proofs.Ytbbffnlefmogbaa.Dec Go.Proofs.Ytbbffnlefmogbaa.Enc Go.Proofs.Ytbbffnlefmogbaa.Round Go.Proofs.YtbbffnlefmogbaaW.PrintWords Go.Proofs.YtbbffnlefmogbaaW.PrintLast Go.Proofs.YtbbffnlefmogbaaW.PrintMore
set_option linter.unusedVariables false
def gText (l : List Int) (bad : Bool) (most : Int) : ByteArray × List Int × Bool :=
  if (gNum l bad).2.2 = true ∨ most < 0 ∨ most < (gNum l bad).1 ∨ ((gNum l bad).2.1.length : Int) < (gNum l bad).1 then (⟨#[]⟩, [], true)
  else (strOfNums ((gNum l bad).2.1.take (gNum l bad).1.toNat), (gNum l bad).2.1.drop (gNum l bad).1.toNat, false)
theorem gText_good {l : List Int} {b : Bool} (h : GoodS l b) (n : Int) : GoodS (gText l b n).2.1 (gText l b n).2.2 := by
  unfold gText; split
  · exact GoodS.nil _
  · exact GoodS.of ((gNum_good h).1.drop _)
theorem gText_len (l : List Int) (b : Bool) (n : Int) : (gText l b n).2.1.length ≤ l.length := by
  have := gNum_len l b
  unfold gText; split
  · simp
  · simp; omega
theorem len_u64 {l : List Int} (h : Fit l) : IntKind.u64.wrap ((l.length : Int)) = (l.length : Int) := wrap_u64_of (by omega) (by have := h.2; omega)
theorem text_g {l : List Int} {b : Bool} (h : GoodS l b) (n : Int) (hn : n < 9223372036854775808) (k : Nat) : vint_Source_Text.f (k + 1) l b n = some (gText l b n) := by
  unfold vint_Source_Text.f vint_Source_Ok.f
  rw [num_g h, Option.bind_some]
  obtain ⟨h0, h1⟩ := gNum_range h
  have hg := gNum_good h
  unfold gText
  generalize gNum l b = g at h0 h1 hg ⊢
  obtain ⟨x, l', b'⟩ := g
  simp only [Option.bind_some] at h0 h1 hg ⊢
  have hj : ∀ y, vint_Source_Text.j0 (k + 1) x true y b' = some (⟨#[]⟩, [], true) := fun y => by rw [vint_Source_Text.j0, if_pos rfl]; rfl
  rw [hj]
  cases b' with
  | true => simp
  | false =>
    have hlen := hg.1.2
    by_cases hn0 : n < 0
    · simp [hn0]
    · rw [wrap_u64_of (by omega) (by omega), len_u64 hg.1]
      by_cases hx : x > n
      · have : n < x := hx
        simp [hn0, this]
      · have hx2 : ¬ n < x := hx
        by_cases hz : x > (l'.length : Int)
        · have hz2 : ((l'.length : Int) < x) := hz
          simp [hn0, hx2, hz2, hj]
        · have hz2 : ¬ ((l'.length : Int) < x) := hz
          have hw : wrap64 x = x := w64 (by omega) (by omega)
          rw [if_pos (by rfl), if_neg hn0, if_neg hx, decide_eq_false hz, vint_Source_Text.j0, if_neg (by decide), hw, take_g hg]
          unfold gTake
          have hx0 : ¬ x < 0 := by omega
          simp [hn0, hx2, hz2, hx0]
theorem rtext_g {l : List Int} {b : Bool} (h : GoodS l b) (n : Int) (hn : n < 9223372036854775808) (k : Nat) : firkinref01_S_Text.f (k + 1) l b n = some (gText l b n) := by
  unfold firkinref01_S_Text.f firkinref01_S_Fail.f
  obtain ⟨h0, h1⟩ := gNum_range h
  have hg := gNum_good h
  unfold gText
  rw [rnum_g h]
  generalize gNum l b = g at h0 h1 hg ⊢
  obtain ⟨x, l', b'⟩ := g
  simp only [Option.bind_some] at h0 h1 hg ⊢
  have hj : ∀ y, firkinref01_S_Text.j0 (k + 1) x true y b' = some (⟨#[]⟩, [], true) := fun y => by rw [firkinref01_S_Text.j0, if_pos rfl]; rfl
  rw [hj]
  by_cases hn0 : n < 0
  · simp [hn0]
  rw [if_neg hn0]
  cases b' with
  | true => simp
  | false =>
    have hlen := hg.1.2
    rw [wrap_u64_of (by omega) (by omega), len_u64 hg.1]
    by_cases hx : x > n
    · have : n < x := hx
      simp [hn0, this]
    · have hx2 : ¬ n < x := hx
      by_cases hz : x > (l'.length : Int)
      · have hz2 : ((l'.length : Int) < x) := hz
        simp [hn0, hx2, hz2, hj]
      · have hz2 : ¬ ((l'.length : Int) < x) := hz
        have hw : wrap64 x = x := w64 (by omega) (by omega)
        rw [if_neg (by decide), if_neg hx, decide_eq_false hz, firkinref01_S_Text.j0, if_neg (by decide), hw, rtake_g hg]
        unfold gTake
        have hx0 : ¬ x < 0 := by omega
        simp [hn0, hx2, hz2, hx0]
end Go.Proofs.Ytbbffnlefmogbaa.Read
/- What was written is read again: numbers. -/
namespace Go.Proofs.Ytbbffnlefmogbaa.Read
open Go Go.RowKit Go.Proofs.Ytbbffnlefmogbaa.X Go.Proofs.Ytbbffnlefmogbaa.Dec Go.Proofs.Ytbbffnlefmogbaa.Enc Go.Proofs.Ytbbffnlefmogbaa.Round Go.Proofs.YtbbffnlefmogbaaW.PrintWords Go.Proofs.YtbbffnlefmogbaaW.PrintLast Go.Proofs.YtbbffnlefmogbaaW.PrintMore
set_option linter.unusedVariables false
theorem gNum_enc {n : Nat} (h : n < 18446744073709551616) (rest : List Int) : gNum (enc n ++ rest) false = ((n : Int), rest, false) := by
  have h1 := num_enc h rest
  unfold numS at h1
  rw [if_neg (by decide)] at h1
  unfold gNum
  by_cases hz : szS 0 (enc n ++ rest) = 0
  · rw [if_pos hz] at h1; simp at h1
  · rw [if_neg hz] at h1
    rw [if_neg (by simp [hz])]
    exact h1
theorem gBelow_enc {n : Nat} {m : Int} (h : (n : Int) < m) (hm : m < 9223372036854775808) (rest : List Int) : gBelow (enc n ++ rest) false m = ((n : Int), rest, false) := by
  unfold gBelow
  rw [gNum_enc (by omega)]
  rw [if_neg]
  simp only [not_or]
  exact ⟨by decide, by omega, by omega⟩
end Go.Proofs.Ytbbffnlefmogbaa.Read
/- What was written is read again, plain law: texts. -/
namespace Go.Proofs.Ytbbffnlefmogbaa.Read
open Go Go.RowKit Go.Proofs.Ytbbffnlefmogbaa.X Go.Proofs.Ytbbffnlefmogbaa.Dec Go.Proofs.Ytbbffnlefmogbaa.Enc Go.Proofs.Ytbbffnlefmogbaa.Round Go.Proofs.Ytbbffnlefmogbaa.EncText Go.Proofs.YtbbffnlefmogbaaW.PrintWords Go.Proofs.YtbbffnlefmogbaaW.PrintLast Go.Proofs.YtbbffnlefmogbaaW.PrintMore
set_option linter.unusedVariables false
theorem strOfNums_bytesOf (s : ByteArray) : strOfNums (bytesOf s) = s := by
  unfold strOfNums bytesOf
  rw [List.map_map]
  have : ((fun n : Int => UInt8.ofNat n.toNat) ∘ fun b : UInt8 => (b.toNat : Int)) = id := by funext b; simp
  rw [this, List.map_id]
theorem gText_enc {s : ByteArray} {m : Int} (h : (s.size : Int) ≤ m) (hm : m < 9223372036854775808) (rest : List Int) : gText (encT s ++ rest) false m = (s, rest, false) := by
  unfold gText encT
  rw [List.append_assoc, gNum_enc (by omega)]
  have hl : ((bytesOf s ++ rest).length : Int) = s.size + rest.length := by rw [List.length_append, bytesOf_length]; omega
  rw [if_neg]
  · have e1 : ((s.size : Nat) : Int).toNat = (bytesOf s).length := by rw [bytesOf_length]; rfl
    simp only [e1, List.take_left, List.drop_left, strOfNums_bytesOf]
  · simp only [not_or]
    exact ⟨by decide, by omega, by omega, by rw [hl]; omega⟩
end Go.Proofs.Ytbbffnlefmogbaa.Read
/- Columns' bytes, plain law: what is put, what is taken; the code's and the document's are the same, and what is put is taken again. -/
namespace Go.Proofs.Ytbbffnlefmogbaa.SchemaEnc
open Go Go.RowKit Go.Proofs.Ytbbffnlefmogbaa.X Go.Proofs.Ytbbffnlefmogbaa.Dec Go.Proofs.Ytbbffnlefmogbaa.Enc Go.Proofs.Ytbbffnlefmogbaa.EncText Go.Proofs.Ytbbffnlefmogbaa.Read Go.Proofs.YtbbffnlefmogbaaW.PrintWords Go.Proofs.YtbbffnlefmogbaaW.PrintLast Go.Proofs.YtbbffnlefmogbaaW.PrintMore
set_option linter.unusedVariables false
set_option linter.unusedSimpArgs false
abbrev Col := S69
/-- A column as it may be. -/
def OkCol (c : Col) : Prop := c.f0.size ≤ 12 ∧ 1 ≤ c.f1 ∧ c.f1 ≤ 3
theorem go_ok (l : List Col) (n : Nat) : ∀ i, i + n = l.length → checkGo l n i = some 0 → l.length ≤ 6 ∧ ∀ j, i ≤ j → j < l.length → OkCol (l.getD j z69) := by
  induction n with
  | zero =>
    intro i hi h
    unfold checkGo at h
    by_cases h6 : 6 < l.length
    · rw [if_pos h6] at h; simp at h
    · exact ⟨by omega, fun j h1 h2 => by omega⟩
  | succ n ih =>
    intro i hi h
    unfold checkGo at h
    rw [Names.name_is, Option.bind_some] at h
    split at h
    · simp at h
    · rename_i hn
      simp only [not_or] at hn
      obtain ⟨h6, hr⟩ := ih (i + 1) (by omega) h
      refine ⟨h6, fun j h1 h2 => ?_⟩
      by_cases e : j = i
      · subst e
        have hs : Names.sizeOk (l.getD j z69).f0 = true := by
          have := hn.2.1
          unfold Names.nameB at this
          simp at this
          exact this.2.2
        unfold Names.sizeOk at hs
        simp only [Bool.and_eq_true, decide_eq_true_eq] at hs
        exact ⟨hs.2, by omega, by omega⟩
      · exact hr j (by omega) h2
theorem ok_of_check {l : List Col} (h : schema_Check.f l = some 0) : l.length ≤ 6 ∧ ∀ c ∈ l, OkCol c := by
  unfold schema_Check.f at h
  by_cases h0 : l.length = 0
  · rw [if_pos h0] at h; simp at h
  · rw [if_neg h0] at h
    obtain ⟨h6, hr⟩ := go_ok l l.length 0 (by omega) h
    refine ⟨h6, fun c hc => ?_⟩
    obtain ⟨j, hj, rfl⟩ := List.getElem_of_mem hc
    have := hr j (by omega) hj
    rwa [List.getD_eq_getElem?_getD, List.getElem?_eq_getElem hj] at this
def kindN (c : Col) : Nat := (2 * c.f1 + (if c.f2 = true then 1 else 0)).toNat
def encCol (c : Col) : List Int := encT c.f0 ++ enc (kindN c)
/-- Columns' bytes. -/
def encCols (l : List Col) : List Int := enc l.length ++ (l.map encCol).flatten
theorem kind_lt {c : Col} (h : OkCol c) : kindN c < 8 := by unfold kindN; obtain ⟨_, h1, h2⟩ := h; split <;> omega
theorem encCol_len {c : Col} (h : OkCol c) : (encCol c).length ≤ 32 := by
  have h1 := encT_len c.f0 (by have := h.1; omega)
  have h2 := enc_len (kindN c) (by have := kind_lt h; omega)
  unfold encCol; rw [List.length_append]; have := h.1; omega
theorem cols_len : ∀ (l : List Col), (∀ c ∈ l, OkCol c) → ((l.map encCol).flatten).length ≤ 32 * l.length
  | [], _ => by simp
  | c :: l, h => by
    have h1 := encCol_len (h c (by simp))
    have h2 := cols_len l (fun d hd => h d (by simp [hd]))
    simp only [List.map_cons, List.flatten_cons, List.length_append, List.length_cons]; omega
theorem encCols_bytes (l : List Col) : IsBytes (encCols l) := by
  intro x hx
  rcases List.mem_append.1 hx with hx | hx
  · exact enc_bytes _ x hx
  · obtain ⟨m, hm, hx⟩ := List.mem_flatten.1 hx
    obtain ⟨c, _, rfl⟩ := List.mem_map.1 hm
    rcases List.mem_append.1 hx with hx | hx
    · exact encT_bytes _ x hx
    · exact enc_bytes _ x hx
theorem rd_at (l : List Col) (i : Nat) (h : i < l.length) : rd_T69 l (i : Int) = l[i] := by
  unfold rd_T69
  rw [Int.toNat_natCast, List.getD_eq_getElem?_getD, List.getElem?_eq_getElem h]; rfl
theorem put_loop (l : List Col) (hl : l.length ≤ 6) (ho : ∀ c ∈ l, OkCol c) (d : Nat) : ∀ (i k : Nat) (acc : List Int), i + d = l.length → 100 + d < k → acc.length ≤ 1000 + 40 * i →
    schema_Put.l0 k acc l (l.length : Int) (i : Int) = some (acc ++ ((l.drop i).map encCol).flatten) := by
  induction d with
  | zero =>
    intro i k acc hi hk _
    obtain rfl : i = l.length := by omega
    obtain ⟨k, rfl⟩ : ∃ m, k = m + 1 := ⟨k - 1, by omega⟩
    rw [schema_Put.l0, if_neg (by omega)]; simp
  | succ d ih =>
    intro i k acc hi hk ha
    obtain ⟨k, rfl⟩ : ∃ m, k = m + 1 := ⟨k - 1, by omega⟩
    have hlt : i < l.length := by omega
    have hoc := ho l[i] (List.getElem_mem hlt)
    have hcl := encCol_len hoc
    have hd : l.drop i = l[i] :: l.drop (i + 1) := List.drop_eq_getElem_cons hlt
    obtain ⟨hs, h1, h3⟩ := hoc
    have hcat : ∀ n : Nat, kindN l[i] = n → (slices_Concat_byte.f ([acc, encT l[i].f0, enc n] : List (List Int))) = some (acc ++ encCol l[i]) := by
      rintro n rfl
      unfold slices_Concat_byte.f
      have e : ([acc, encT l[i].f0, enc (kindN l[i])] : List (List Int)).flatten = acc ++ encCol l[i] := by simp [encCol]
      rw [e, if_pos (by rw [List.length_append]; omega)]
    have hfin : ∀ t, t = acc ++ encCol l[i] → schema_Put.l0 k t l (l.length : Int) (wrap64 ((i : Int) + 1)) = some (acc ++ ((l.drop i).map encCol).flatten) := by
      rintro t rfl
      rw [w64 (by omega) (by omega), show ((i : Int) + 1) = ((i + 1 : Nat) : Int) by omega, ih (i + 1) k _ (by omega) (by omega) (by rw [List.length_append]; omega), hd, List.map_cons, List.flatten_cons, List.append_assoc]
    have hwa : wrap64 (2 * l[i].f1) = 2 * l[i].f1 := w64 (by omega) (by omega)
    have hwb : wrap64 (2 * l[i].f1 + 1) = 2 * l[i].f1 + 1 := w64 (by omega) (by omega)
    rw [schema_Put.l0, if_pos (by omega), if_pos (by omega), if_pos (by omega), rd_at l i hlt]
    by_cases hn : l[i].f2 = true
    · have hk2 : kindN l[i] = (2 * l[i].f1 + 1).toNat := by unfold kindN; rw [if_pos hn]
      rw [if_pos hn, text_is _ (by omega) k (by omega), Option.bind_some, hwa, hwb, wrap_u64_of (by omega) (by omega),
        show (2 * l[i].f1 + 1 : Int) = (((2 * l[i].f1 + 1).toNat : Nat) : Int) by omega, num_is _ (by omega) k (by omega), Option.bind_some, hcat _ hk2, Option.bind_some]
      exact hfin _ rfl
    · have hk2 : kindN l[i] = (2 * l[i].f1).toNat := by unfold kindN; rw [if_neg hn]; simp
      rw [if_neg hn, text_is _ (by omega) k (by omega), Option.bind_some, hwa, wrap_u64_of (by omega) (by omega),
        show (2 * l[i].f1 : Int) = (((2 * l[i].f1).toNat : Nat) : Int) by omega, num_is _ (by omega) k (by omega), Option.bind_some, hcat _ hk2, Option.bind_some]
      exact hfin _ rfl
theorem put_is (l : List Col) (hl : l.length ≤ 6) (ho : ∀ c ∈ l, OkCol c) (k : Nat) (hk : 200 < k) : schema_Put.f k l = some (encCols l) := by
  have := enc_len l.length (by omega)
  unfold schema_Put.f
  rw [wrap_u64_of (by omega) (by omega), num_is _ (by omega) k (by omega), Option.bind_some]
  exact put_loop l hl ho l.length 0 k _ (by omega) (by omega) (by omega)
theorem rput_loop (l : List Col) (hl : l.length ≤ 6) (ho : ∀ c ∈ l, OkCol c) (d : Nat) : ∀ (i k : Nat) (acc : List Int), i + d = l.length → 100 + d < k → acc.length ≤ 1000 + 40 * i →
    firkinref12_Put.l0 k l acc (i : Int) = some (acc ++ ((l.drop i).map encCol).flatten) := by
  induction d with
  | zero =>
    intro i k acc hi hk _
    obtain rfl : i = l.length := by omega
    obtain ⟨k, rfl⟩ : ∃ m, k = m + 1 := ⟨k - 1, by omega⟩
    rw [firkinref12_Put.l0, if_neg (by omega)]; simp
  | succ d ih =>
    intro i k acc hi hk ha
    obtain ⟨k, rfl⟩ : ∃ m, k = m + 1 := ⟨k - 1, by omega⟩
    have hlt : i < l.length := by omega
    have hoc := ho l[i] (List.getElem_mem hlt)
    have hcl := encCol_len hoc
    have hd : l.drop i = l[i] :: l.drop (i + 1) := List.drop_eq_getElem_cons hlt
    obtain ⟨hs, h1, h3⟩ := hoc
    have hel : (encT l[i].f0).length ≤ 22 := by have := encT_len l[i].f0 (by omega); omega
    have hen := enc_len (kindN l[i]) (by have := kind_lt ⟨hs, h1, h3⟩; omega)
    have hfin : ∀ t, t = acc ++ encT l[i].f0 ++ enc (kindN l[i]) → firkinref12_Put.l0 k l t (wrap64 ((i : Int) + 1)) = some (acc ++ ((l.drop i).map encCol).flatten) := by
      rintro t rfl
      rw [w64 (by omega) (by omega), show ((i : Int) + 1) = ((i + 1 : Nat) : Int) by omega, ih (i + 1) k _ (by omega) (by omega) (by rw [List.length_append, List.length_append]; omega), hd]
      simp only [encCol, List.map_cons, List.flatten_cons, List.append_assoc]
    have hw : IntKind.u64.wrap l[i].f1 = l[i].f1 := wrap_u64_of (by omega) (by omega)
    have hw2 : IntKind.u64.wrap (2 * l[i].f1) = 2 * l[i].f1 := wrap_u64_of (by omega) (by omega)
    have hw3 : IntKind.u64.wrap (2 * l[i].f1 + 1) = 2 * l[i].f1 + 1 := wrap_u64_of (by omega) (by omega)
    rw [firkinref12_Put.l0, if_pos (by omega), if_pos (by omega), rd_at l i hlt, hw, hw2, hw3]
    by_cases hn : l[i].f2 = true
    · have hk2 : kindN l[i] = (2 * l[i].f1 + 1).toNat := by unfold kindN; rw [if_pos hn]
      rw [hk2] at hen
      rw [if_pos hn, rtext_is _ (by omega) k (by omega), Option.bind_some, if_pos (by omega), Option.bind_some,
        show (2 * l[i].f1 + 1 : Int) = (((2 * l[i].f1 + 1).toNat : Nat) : Int) by omega, rnum_is _ (by omega) k (by omega), Option.bind_some, if_pos (by rw [List.length_append]; omega)]
      exact hfin _ (by rw [hk2])
    · have hk2 : kindN l[i] = (2 * l[i].f1).toNat := by unfold kindN; rw [if_neg hn]; simp
      rw [hk2] at hen
      rw [if_neg hn, rtext_is _ (by omega) k (by omega), Option.bind_some, if_pos (by omega), Option.bind_some,
        show (2 * l[i].f1 : Int) = (((2 * l[i].f1).toNat : Nat) : Int) by omega, rnum_is _ (by omega) k (by omega), Option.bind_some, if_pos (by rw [List.length_append]; omega)]
      exact hfin _ (by rw [hk2])
theorem rput_is (l : List Col) (hl : l.length ≤ 6) (ho : ∀ c ∈ l, OkCol c) (k : Nat) (hk : 200 < k) : firkinref12_Put.f k l = some (encCols l) := by
  have := enc_len l.length (by omega)
  unfold firkinref12_Put.f
  rw [wrap_u64_of (by omega) (by omega), rnum_is _ (by omega) k (by omega), Option.bind_some]
  exact rput_loop l hl ho l.length 0 k _ (by omega) (by omega) (by omega)
/-- The column that bytes begin with; so many columns, one behind the other. -/
def colG (l : List Int) (b : Bool) : Col × List Int × Bool :=
  let t := gText l b 12
  let u := gBelow t.2.1 t.2.2 8
  (⟨t.1, u.1 / 2, u.1 % 2 == 1⟩, u.2.1, u.2.2)
def colsG : Nat → List Int → Bool → List Col × List Int × Bool
  | 0, l, b => ([], l, b)
  | n + 1, l, b => if b = true then ([], l, b) else ((colG l b).1 :: (colsG n (colG l b).2.1 (colG l b).2.2).1, (colsG n (colG l b).2.1 (colG l b).2.2).2)
theorem colG_good {l : List Int} {b : Bool} (h : GoodS l b) : GoodS (colG l b).2.1 (colG l b).2.2 := gBelow_good (gText_good h 12) 8
theorem colsG_good : ∀ (n : Nat) {l : List Int} {b : Bool}, GoodS l b → GoodS (colsG n l b).2.1 (colsG n l b).2.2
  | 0, l, b => fun h => h
  | n + 1, l, b => fun h => by
    rw [colsG]; split
    · exact h
    · exact colsG_good n (colG_good h)
theorem colsG_len : ∀ (n : Nat) (l : List Int) (b : Bool), (colsG n l b).1.length ≤ n
  | 0, l, b => by simp [colsG]
  | n + 1, l, b => by
    rw [colsG]; split
    · simp
    · have := colsG_len n (colG l b).2.1 (colG l b).2.2
      simp; omega
theorem text_size (l : List Int) (b : Bool) (M : Nat) : (gText l b (M : Int)).1.size ≤ M := by
  unfold gText
  split
  · exact Nat.zero_le _
  · rename_i h
    simp only [not_or] at h
    have : (strOfNums ((gNum l b).2.1.take (gNum l b).1.toNat)).size ≤ ((gNum l b).2.1.take (gNum l b).1.toNat).length := by
      simp [strOfNums, ByteArray.size]
    rw [List.length_take] at this
    refine Nat.le_trans this ?_
    omega
theorem colsG_size : ∀ (n : Nat) (l : List Int) (b : Bool), ∀ c ∈ (colsG n l b).1, c.f0.size ≤ 12
  | 0, l, b => by simp [colsG]
  | n + 1, l, b => by
    rw [colsG]; split
    · simp
    · intro c hc
      rcases List.mem_cons.1 hc with rfl | hc
      · exact text_size l b 12
      · exact colsG_size n _ _ c hc
/-- What is handed back behind the columns: they may be, or it failed. -/
def finS (t : Int) (r : List Col × List Int × Bool) : List Col × List Int × Bool := if r.2.2 = true ∨ t ≠ 0 then ([], [], true) else r
theorem col_val {l : List Int} {b : Bool} (h : GoodS l b) : (⟨(gText l b 12).1, wrap64 (Int.tdiv (gBelow (gText l b 12).2.1 (gText l b 12).2.2 8).1 2), ((Int.tmod (gBelow (gText l b 12).2.1 (gText l b 12).2.2 8).1 2) == 1)⟩ : Col) = (colG l b).1 := by
  have hr := gBelow_range (gText_good h 12) 8
  unfold colG
  simp only
  rw [Int.tdiv_eq_ediv_of_nonneg (by omega), Int.tmod_eq_emod_of_nonneg (by omega), w64 (by omega) (by omega)]
theorem take_loop (n : Nat) : ∀ (k : Nat) (acc : List Col) (l : List Int) (b : Bool), GoodS l b → 3 * n + 10 < k → acc.length + n ≤ 100 → ∀ t, schema_Check.f (acc ++ (colsG n l b).1) = some t →
    schema_Take.l0 k acc (n : Int) l b = some (finS t (acc ++ (colsG n l b).1, (colsG n l b).2.1, (colsG n l b).2.2)) := by
  have hfin : ∀ (k : Nat) (acc : List Col) (x4 : Int) (l : List Int) (b : Bool) (t : Int), schema_Check.f acc = some t → schema_Take.j1 (k + 1) acc x4 false l b = some (finS t (acc, l, b)) := by
    intro k acc x4 l b t ht
    rw [schema_Take.j1, if_neg (by decide)]
    unfold vint_Source_Ok.f vint_Source_Fail.f finS
    cases b
    · simp only [Option.bind_some, Bool.not_false, if_true, ht, Bool.false_eq_true, false_or]
      by_cases h0 : t = 0
      · simp [h0]
      · simp [h0]
    · simp
  induction n with
  | zero =>
    intro k acc l b hg hk ha t ht
    obtain ⟨k, rfl⟩ : ∃ m, k = m + 2 := ⟨k - 2, by omega⟩
    simp only [colsG, List.append_nil] at ht ⊢
    rw [schema_Take.l0, if_neg (by omega), hfin _ _ _ _ _ _ ht]
  | succ n ih =>
    intro k acc l b hg hk ha t ht
    obtain ⟨k, rfl⟩ : ∃ m, k = m + 3 := ⟨k - 3, by omega⟩
    rw [schema_Take.l0, if_pos (by omega)]
    unfold vint_Source_Ok.f
    rw [Option.bind_some]
    cases b with
    | true =>
      rw [colsG, if_pos rfl, List.append_nil] at ht
      rw [colsG, if_pos rfl, List.append_nil]
      exact hfin _ _ _ _ _ _ ht
    | false =>
      rw [colsG, if_neg (by decide)] at ht
      rw [colsG, if_neg (by decide)]
      rw [schema_Take.j1, if_pos (show (!false, l, false).1 = true from rfl), text_g hg 12 (by decide) k, Option.bind_some, below_g (gText_good hg 12) 8 (by decide), Option.bind_some, if_pos (by omega), col_val hg, w64 (by omega) (by omega), show (((n + 1 : Nat) : Int) - 1) = (n : Int) by omega]
      have := ih (k + 1) (acc ++ [(colG l false).1]) (colG l false).2.1 (colG l false).2.2 (colG_good hg) (by omega) (by rw [List.length_append]; simp; omega) t (by simpa using ht)
      simp only [List.append_assoc, List.cons_append, List.nil_append] at this
      exact this
theorem rtake_loop (N : Nat) (n : Nat) : ∀ (i k : Nat) (acc : List Col) (l : List Int) (b : Bool), i + n = N → N ≤ 100 → GoodS l b → 3 * n + 3000 < k → acc.length + n ≤ 100 → ∀ t, (∀ k, 2000 ≤ k → firkinref12_Check.f k (acc ++ (colsG n l b).1) = some t) →
    firkinref12_Take.l0 k (N : Int) acc (i : Int) l b = some (finS t (acc ++ (colsG n l b).1, (colsG n l b).2.1, (colsG n l b).2.2)) := by
  have hfin : ∀ (k : Nat) (acc : List Col) (x3 x5 : Int) (l : List Int) (b : Bool) (t : Int), (∀ k, 2000 ≤ k → firkinref12_Check.f k acc = some t) → 2000 ≤ k → firkinref12_Take.j1 (k + 1) x3 acc x5 false l b = some (finS t (acc, l, b)) := by
    intro k acc x3 x5 l b t ht hk
    rw [firkinref12_Take.j1, if_neg (by decide)]
    unfold firkinref01_S_Fail.f finS
    cases b
    · rw [if_neg (by decide), ht k hk, Option.bind_some]
      by_cases h0 : t = 0
      · simp [h0]
      · simp [h0]
    · simp
  induction n with
  | zero =>
    intro i k acc l b hi hN hg hk ha t ht
    obtain ⟨k, rfl⟩ : ∃ m, k = m + 2 := ⟨k - 2, by omega⟩
    simp only [colsG, List.append_nil] at ht ⊢
    rw [firkinref12_Take.l0, if_neg (by omega), hfin _ _ _ _ _ _ _ ht (by omega)]
  | succ n ih =>
    intro i k acc l b hi hN hg hk ha t ht
    obtain ⟨k, rfl⟩ : ∃ m, k = m + 3 := ⟨k - 3, by omega⟩
    rw [firkinref12_Take.l0, if_pos (by omega)]
    cases b with
    | true =>
      rw [colsG, if_pos rfl, List.append_nil] at ht
      rw [colsG, if_pos rfl, List.append_nil]
      exact hfin _ _ _ _ _ _ _ ht (by omega)
    | false =>
      rw [colsG, if_neg (by decide)] at ht
      rw [colsG, if_neg (by decide)]
      rw [firkinref12_Take.j1, if_pos (show (!false) = true from rfl), rtext_g hg 12 (by decide) k, Option.bind_some, rbelow_g (gText_good hg 12) 8 (by decide), Option.bind_some, if_pos (by omega), col_val hg, w64 (by omega) (by omega), show ((i : Int) + 1) = ((i + 1 : Nat) : Int) by omega]
      have := ih (i + 1) (k + 1) (acc ++ [(colG l false).1]) (colG l false).2.1 (colG l false).2.2 (by omega) hN (colG_good hg) (by omega) (by rw [List.length_append]; simp; omega) t (by simpa using ht)
      simp only [List.append_assoc, List.cons_append, List.nil_append] at this
      exact this
/-- The columns that bytes begin with. -/
theorem take_both {l : List Int} {b : Bool} (h : GoodS l b) : ∃ r : List Col × List Int × Bool, GoodS r.2.1 r.2.2 ∧ r.1.length ≤ 6 ∧ (∀ k, 4000 ≤ k → schema_Take.f k l b = some r ∧ firkinref12_Take.f k l b = some r) ∧
    ∀ t, schema_Check.f (colsG (gBelow l b 7).1.toNat (gBelow l b 7).2.1 (gBelow l b 7).2.2).1 = some t → r = finS t (colsG (gBelow l b 7).1.toNat (gBelow l b 7).2.1 (gBelow l b 7).2.2) := by
  have ha := gBelow_good h 7
  have hr := gBelow_range h 7
  obtain ⟨n, hn⟩ : ∃ n : Nat, (gBelow l b 7).1 = (n : Int) := ⟨(gBelow l b 7).1.toNat, by omega⟩
  rw [hn] at hr
  have hcl := colsG_len n (gBelow l b 7).2.1 (gBelow l b 7).2.2
  have hcs := colsG_size n (gBelow l b 7).2.1 (gBelow l b 7).2.2
  have hcg := colsG_good n ha
  obtain ⟨t, ht, _⟩ := ChkPlain.check_is (colsG n (gBelow l b 7).2.1 (gBelow l b 7).2.2).1 (by omega) 12 (by unfold maxLen; omega) hcs 2000 (by omega)
  have hrt : ∀ k, 2000 ≤ k → firkinref12_Check.f k (colsG n (gBelow l b 7).2.1 (gBelow l b 7).2.2).1 = some t := by
    intro k hk
    obtain ⟨t', e1, e2⟩ := ChkPlain.check_is (colsG n (gBelow l b 7).2.1 (gBelow l b 7).2.2).1 (by omega) 12 (by unfold maxLen; omega) hcs k (by omega)
    rw [e1] at ht
    rw [e2]; exact ht
  refine ⟨finS t (colsG n (gBelow l b 7).2.1 (gBelow l b 7).2.2), ?_, ?_, ?_, ?_⟩
  · unfold finS; split
    · exact GoodS.nil _
    · exact hcg
  · unfold finS; split
    · simp
    · omega
  · intro k hk
    unfold schema_Take.f firkinref12_Take.f
    rw [below_g h 7 (by decide), Option.bind_some, rbelow_g h 7 (by decide), Option.bind_some, hn]
    have e1 := take_loop n k [] (gBelow l b 7).2.1 (gBelow l b 7).2.2 ha (by omega) (by simp; omega) t (by simpa using ht)
    have e2 := rtake_loop n n 0 k [] (gBelow l b 7).2.1 (gBelow l b 7).2.2 (by omega) (by omega) ha (by omega) (by simp; omega) t (by simpa using hrt)
    simp only [List.nil_append] at e1 e2
    exact ⟨e1, e2⟩
  · intro t' ht'
    rw [hn, Int.toNat_natCast] at ht' ⊢
    rw [ht] at ht'
    injection ht' with e
    rw [e]
theorem colG_enc {c : Col} (h : OkCol c) (rest : List Int) : colG (encCol c ++ rest) false = (c, rest, false) := by
  have hk := kind_lt h
  have h12 : (c.f0.size : Int) ≤ 12 := by have := h.1; omega
  unfold colG encCol
  rw [List.append_assoc, gText_enc h12 (by decide)]
  simp only
  rw [gBelow_enc (by omega) (by decide)]
  obtain ⟨f0, f1, f2⟩ := c
  obtain ⟨_, h1, h3⟩ := h
  simp only at h1 h3
  unfold kindN
  simp only
  cases f2
  · simp only [Bool.false_eq_true, if_false]
    have e1 : (((2 * f1 + 0).toNat : Nat) : Int) / 2 = f1 := by omega
    have e2 : (((((2 * f1 + 0).toNat : Nat) : Int) % 2 == 1) : Bool) = false := by rw [beq_eq_false_iff_ne]; omega
    rw [e1, e2]
  · simp only [if_true]
    have e1 : (((2 * f1 + 1).toNat : Nat) : Int) / 2 = f1 := by omega
    have e2 : (((((2 * f1 + 1).toNat : Nat) : Int) % 2 == 1) : Bool) = true := by rw [beq_iff_eq]; omega
    rw [e1, e2]
theorem colsG_enc : ∀ (l : List Col), (∀ c ∈ l, OkCol c) → ∀ rest, colsG l.length ((l.map encCol).flatten ++ rest) false = (l, rest, false)
  | [], _, rest => by simp [colsG]
  | c :: l, h, rest => by
    rw [List.length_cons, colsG, if_neg (by decide), List.map_cons, List.flatten_cons, List.append_assoc, colG_enc (h c (by simp))]
    simp only
    rw [colsG_enc l (fun d hd => h d (by simp [hd]))]
theorem take_enc {l : List Col} (h : schema_Check.f l = some 0) (k : Nat) (hk : 4000 ≤ k) : schema_Take.f k (encCols l) false = some (l, [], false) := by
  obtain ⟨h6, ho⟩ := ok_of_check h
  have hlen : (encCols l).length ≤ 1000 := by unfold encCols; rw [List.length_append]; have := enc_len l.length (by omega); have := cols_len l ho; omega
  have hg : GoodS (encCols l) false := GoodS.of ⟨encCols_bytes l, by omega⟩
  obtain ⟨r, _, _, hr, hrt⟩ := take_both hg
  have eb : gBelow (encCols l) false 7 = ((l.length : Int), (l.map encCol).flatten, false) := by unfold encCols; exact gBelow_enc (by omega) (by decide) _
  rw [eb] at hrt
  simp only [Int.toNat_natCast] at hrt
  have ec := colsG_enc l ho []
  rw [List.append_nil] at ec
  rw [ec] at hrt
  rw [(hr k hk).1, hrt 0 h]
  rfl
end Go.Proofs.Ytbbffnlefmogbaa.SchemaEnc
/- Columns in plain lists: which are few, which are the same. -/
namespace Go.Proofs.Ytbbffnlefmogbaa.Cols
open Go.RowKit Go.Proofs.Ytbbffnlefmogbaa.X Go.Proofs.YtbbffnlefmogbaaW.PrintWords Go.Proofs.YtbbffnlefmogbaaW.PrintLast Go.Proofs.YtbbffnlefmogbaaW.PrintMore
set_option linter.unusedVariables false
set_option linter.unusedSimpArgs false
theorem w64 {x : Int} (h0 : -9223372036854775808 ≤ x) (h1 : x < 9223372036854775808) : wrap64 x = x := by unfold wrap64; omega
theorem small_loop (l : List S69) (d : Nat) : ∀ (k i : Nat), i + d = 31 → 2 * d + 2 ≤ k → ∃ b, firkinlaw12_Small.l0 k l (i : Int) = some b ∧ (b = true → l.length ≤ 20) := by
  induction d with
  | zero =>
    intro k i hi hk
    obtain ⟨k, rfl⟩ : ∃ m, k = m + 2 := ⟨k - 2, by omega⟩
    rw [firkinlaw12_Small.l0]
    have h30 : decide ((i : Int) < 30) = false := decide_eq_false (by omega)
    rw [h30]
    simp only [ite_self]
    rw [firkinlaw12_Small.j1, if_neg (by decide)]
    exact ⟨_, rfl, fun h => by have := of_decide_eq_true h; omega⟩
  | succ d ih =>
    intro k i hi hk
    obtain ⟨k, rfl⟩ : ∃ m, k = m + 2 := ⟨k - 2, by omega⟩
    rw [firkinlaw12_Small.l0]
    by_cases hl : (i : Int) < (l.length : Int)
    · rw [if_pos hl]
      by_cases h30 : (i : Int) < 30
      · rw [decide_eq_true h30, firkinlaw12_Small.j1, if_pos rfl, if_pos (by omega), if_pos hl]
        by_cases h100 : (((rd_T69 l (i : Int)).f0).size : Int) > 100
        · rw [if_pos h100]; exact ⟨_, rfl, fun h => by cases h⟩
        · rw [if_neg h100, w64 (by omega) (by omega)]
          exact ih k (i + 1) (by omega) (by omega)
      · rw [decide_eq_false h30, firkinlaw12_Small.j1, if_neg (by decide)]
        exact ⟨_, rfl, fun h => by have := of_decide_eq_true h; omega⟩
    · rw [if_neg hl, firkinlaw12_Small.j1, if_neg (by decide)]
      exact ⟨_, rfl, fun h => by have := of_decide_eq_true h; omega⟩
theorem small_get (l : List S69) (k : Nat) (hk : 64 ≤ k) : ∃ b, firkinlaw12_Small.f k l = some b ∧ (b = true → l.length ≤ 20) := by
  unfold firkinlaw12_Small.f
  exact small_loop l 31 k 0 (by omega) (by omega)
/-- Are the columns at one place others? -/
def colNe (a b : S69) : Bool := !(a.f0.toList == b.f0.toList) || (!(a.f1 == b.f1) || !(a.f2 == b.f2))
def allEq (a b : List S69) : Nat → Nat → Bool
  | 0, _ => true
  | n + 1, i => if colNe (rd_T69 a (i : Int)) (rd_T69 b (i : Int)) = true then false else allEq a b n (i + 1)
def sameL (a b : List S69) : Bool := if a.length = b.length then allEq a b a.length 0 else false
theorem colNe_self (a : S69) : colNe a a = false := by simp [colNe]
theorem sameL_self (a : List S69) : sameL a a = true := by
  have h : ∀ n i, allEq a a n i = true := by
    intro n
    induction n with
    | zero => intro i; rfl
    | succ n ih => intro i; rw [allEq, colNe_self, if_neg (by decide)]; exact ih _
  rw [sameL, if_pos rfl, h]
theorem code_loop (a b : List S69) (hl : a.length = b.length) (hs : a.length ≤ 1000000) (d : Nat) : ∀ (k i : Nat), i + d = a.length → d < k → api_Col_68.l0 k a b (a.length : Int) (i : Int) = some (allEq a b d i) := by
  induction d with
  | zero =>
    intro k i hi hk
    obtain ⟨k, rfl⟩ : ∃ m, k = m + 1 := ⟨k - 1, by omega⟩
    rw [api_Col_68.l0, if_neg (by omega), allEq]
  | succ d ih =>
    intro k i hi hk
    obtain ⟨k, rfl⟩ : ∃ m, k = m + 1 := ⟨k - 1, by omega⟩
    rw [api_Col_68.l0, if_pos (by omega), if_pos (by omega), if_pos (by omega), if_pos (by omega), allEq, w64 (by omega) (by omega), show ((i : Int) + 1) = ((i + 1 : Nat) : Int) from rfl, ih k (i + 1) (by omega) (by omega)]
    show (if colNe _ _ = true then some false else _) = _
    split <;> rfl
theorem ref_loop (a b : List S69) (hl : a.length = b.length) (hs : a.length ≤ 1000000) (d : Nat) : ∀ (k i : Nat), i + d = a.length → d < k → firkinref12_Same.l0 k a b (i : Int) = some (allEq a b d i) := by
  induction d with
  | zero =>
    intro k i hi hk
    obtain ⟨k, rfl⟩ : ∃ m, k = m + 1 := ⟨k - 1, by omega⟩
    rw [firkinref12_Same.l0, if_neg (by omega), allEq]
  | succ d ih =>
    intro k i hi hk
    obtain ⟨k, rfl⟩ : ∃ m, k = m + 1 := ⟨k - 1, by omega⟩
    rw [firkinref12_Same.l0, if_pos (by omega), if_pos (by omega), if_pos (by omega), allEq, w64 (by omega) (by omega), show ((i : Int) + 1) = ((i + 1 : Nat) : Int) from rfl, ih k (i + 1) (by omega) (by omega)]
    show (if colNe _ _ = true then some false else _) = _
    split <;> rfl
theorem code_same (a b : List S69) (hs : a.length ≤ 1000000) (k : Nat) (hk : a.length < k) : schema_Same.f k a b = some (sameL a b) := by
  unfold schema_Same.f api_Col_68.f sameL
  by_cases h : a.length = b.length
  · rw [if_pos (by omega), if_pos h, show (0 : Int) = ((0 : Nat) : Int) from rfl, code_loop a b h hs a.length k 0 (by omega) hk]; rfl
  · rw [if_neg (by omega), if_neg h]; rfl
theorem ref_same (a b : List S69) (hs : a.length ≤ 1000000) (k : Nat) (hk : a.length < k) : firkinref12_Same.f k a b = some (sameL a b) := by
  unfold firkinref12_Same.f sameL
  by_cases h : a.length = b.length
  · rw [if_pos (by omega), if_pos h, show (0 : Int) = ((0 : Nat) : Int) from rfl, ref_loop a b h hs a.length k 0 (by omega) hk]
  · rw [if_neg (by omega), if_neg h]
end Go.Proofs.Ytbbffnlefmogbaa.Cols
/- SchemaBytes: columns' bytes, that they are taken, and which columns whatever bytes begin with, are the document's. No condition. -/
namespace Go.Proofs.Ytbbffnlefmogbaa.True_
open Go Go.RowKit Go.Proofs.Ytbbffnlefmogbaa.X Go.Proofs.Ytbbffnlefmogbaa.Dec Go.Proofs.Ytbbffnlefmogbaa.Read Go.Proofs.Ytbbffnlefmogbaa.SchemaEnc
theorem SchemaBytes : ∀ (x0 : List (S69)) (x1 : List Int), (x0.length ≤ maxLen ∧ ∀ z ∈ x0, (z.f0.size ≤ maxLen ∧ (Lit.int .i64 z.f1).wf = true ∧ True)) → (x1.length ≤ maxLen ∧ ∀ z ∈ x1, (Lit.int .u8 z).wf = true) → ∃ k, firkinlaw12_SchemaBytes.f k x0 x1 = some true := by
  intro x0 x1 h0 h1
  have hb1 : IsBytes x1 := fun x hx => byte_bounds (h1.2 x hx)
  refine ⟨maxLen + 10000, ?_⟩
  have hlive : firkinlaw12_live.f = some true := by decide +kernel
  unfold firkinlaw12_SchemaBytes.f
  rw [hlive, Option.bind_some, if_neg (by decide)]
  obtain ⟨sm, es, hs⟩ := Cols.small_get x0 (maxLen + 10000) (by omega)
  rw [es, Option.bind_some]
  by_cases hl : sm = false ∨ 200 < x1.length
  · rw [if_pos hl]
  rw [if_neg hl]
  simp only [not_or] at hl
  have hl0 := hs (by simpa using hl.1)
  have hg : GoodS x1 false := GoodS.of ⟨hb1, by omega⟩
  obtain ⟨r, hrg, hr6, hr, _⟩ := take_both hg
  rw [(hr (maxLen + 10000) (by omega)).1, Option.bind_some, (hr (maxLen + 10000) (by omega)).2, Option.bind_some, Cols.ref_same r.1 r.1 (by omega) _ (by omega), Option.bind_some, Cols.sameL_self, if_neg (by rintro (h | h | ⟨h, h'⟩); cases h; exact h rfl; exact h' (hrg.2 h))]
  obtain ⟨c, ec, erc⟩ := ChkPlain.check_is x0 hl0 maxLen (Nat.le_refl _) (fun x hx => (h0.2 x hx).1) (maxLen + 10000) (by omega)
  rw [erc, Option.bind_some]
  by_cases hc : c ≠ 0
  · rw [if_pos hc]
  rw [if_neg hc]
  have hc0 : schema_Check.f x0 = some 0 := by rw [ec]; simp at hc; rw [hc]
  obtain ⟨h6, ho⟩ := ok_of_check hc0
  rw [put_is x0 h6 ho _ (by omega), Option.bind_some, rput_is x0 h6 ho _ (by omega), Option.bind_some, if_neg (by simp), take_enc hc0 _ (by omega), Option.bind_some, Cols.code_same x0 x0 (by omega) _ (by omega), Option.bind_some, Cols.sameL_self, if_pos ⟨rfl, rfl⟩]
end Go.Proofs.Ytbbffnlefmogbaa.True_
/- SchemaBytes: for every input the call returns true, and each argument reads behind the call as it read before it. No condition. -/
namespace Go.Proofs.Ytbbffnlefmogbaa.schemaBytes
open Go.ChangeShapes Go.WideShapes Go.ChangeAt Go.RowKit Go.Proofs.Ytbbffnlefmogbaa.Opens Go.Proofs.Ytbbffnlefmogbaa.X Go.Proofs.YtbbffnlefmogbaaW.PrintWords Go.Proofs.YtbbffnlefmogbaaW.PrintLast Go.Proofs.YtbbffnlefmogbaaW.PrintMore
open Go.ChangeMaps (open_string shut_string)
set_option linter.unusedVariables false
set_option linter.unusedSimpArgs false
theorem own : ownKnob Try.prog.godebug = none := by kernel_rfl
theorem laidOut : laidOutB Try.prog = true := by kernel_rfl
set_option maxRecDepth 100000 in
theorem lifted (os : Os) (started : os.Started) (H : Type) (enc : TypeId × Value → H) :
    ReturnsInHanded {} Try.checked os 6 .any (Rows.schemaBytesSpec.pre6 enc Try.prog Try.f6 Rows.schemaBytesRow.domain false) (Rows.schemaBytesSpec.post enc Try.prog Try.f6 false true false false) := by
  refine returnsInHanded_of_change_sized (C := Try.checked) own started (by kernel_rfl) Try.func6
    (ChangeSpec.witness6 (enc := enc) (C := Try.checked) false ⟨#[], #[.slice none 0 0, .slice none 0 0], []⟩ 8 (by kernel_rfl) (by kernel_rfl) (by kernel_rfl) (by kernel_rfl)) ?_
  intro W base args ds gs before hval0 hW hcnd hsz0 _
  have hval : ∀ (j : Nat) t v, Try.f6.params[j]? = some t → args[j]? = some v → Value.okWide Try.prog W .any base t v := hval0
  have hW' := hW
  obtain ⟨p, q, hA0, hV, rfl, hfz, hnd⟩ := hW
  have hA : DataW.TrodAll enc Try.prog W 0 (fun _ => true) true Try.f6.params.toList args.toList ds p := hA0
  rw [Try.params6] at hA hval
  obtain ⟨v0, vs0, d0, ds0, p0, q0, hargs, rfl, rfl, h0, r0⟩ := trodAll_cons hA
  obtain ⟨v1, vs1, d1, ds1, p1, q1, rfl, rfl, rfl, h1, r1⟩ := trodAll_cons r0
  obtain ⟨rfl, rfl, rfl⟩ := trodAll_nil r1
  obtain rfl : args = #[v0, v1] := by cases args; simp_all
  obtain ⟨rfl, rfl⟩ := trodVars_none hV
  have k0 := h0
  have lt0 : ∀ x ∈ p0, x.block < W.heap.size := by obtain ⟨m, hm⟩ := k0; exact DataW.trod_lt m _ _ _ hm
  obtain ⟨x0, hk0, ok0⟩ := Opens.arg (Opens.slice Try.underlying33 (by kernel_rfl) (Opens.iso (Opens.struct Try.underlying69 (OpensF.cons (Opens.string Try.underlying9 (by kernel_rfl)) rfl (OpensF.cons (Opens.int Try.underlying3 (by kernel_rfl)) rfl (OpensF.one (Opens.bool Try.underlying4 (by kernel_rfl)) rfl) rfl) rfl) (by kernel_rfl)) (β := S69) (fun x : S69 => (x.f0, x.f1, x.f2)) (fun y => ⟨y.1, y.2.1, y.2.2⟩) (fun _ => rfl))) h0
  obtain ⟨a0, len0, cap0, rfl⟩ := okWide_slice Try.underlying33 (hval 0 33 v0 rfl rfl)
  obtain ⟨A0, c0, hcs0, hc0, hr0⟩ := hk0
  simp only [Value.cells] at hcs0
  injection hcs0 with hcs0 _
  injection hcs0 with e1_0 e2_0 e3_0
  subst e1_0 e2_0 e3_0
  have k1 := h1
  have lt1 : ∀ x ∈ p1, x.block < W.heap.size := by obtain ⟨m, hm⟩ := k1; exact DataW.trod_lt m _ _ _ hm
  obtain ⟨x1, hk1, ok1⟩ := Opens.arg (Opens.slice Try.underlying24 (by kernel_rfl) (Opens.int Try.underlying5 (by kernel_rfl))) h1
  obtain ⟨a1, len1, cap1, rfl⟩ := okWide_slice Try.underlying24 (hval 1 24 v1 rfl rfl)
  obtain ⟨A1, c1, hcs1, hc1, hr1⟩ := hk1
  simp only [Value.cells] at hcs1
  injection hcs1 with hcs1 _
  injection hcs1 with e1_1 e2_1 e3_1
  subst e1_1 e2_1 e3_1
  clear hA0 hval0 hsz0
  obtain ⟨k, h⟩ := True_.SchemaBytes x0 x1 ok0 ok1
  refine (firkinlaw12_SchemaBytes.calls k _ _ x0 _ _ x1 true W hr0 hc0 hr1 hc1 h).mono fun e W' ⟨he, bel0⟩ => ?_
  have bel : Below W.heap.size W W' := bel0
  subst he
  exact ⟨_, rfl, _, _, _, [], _, [], hW', trodAll_mk1 (shut_bool Try.underlying4 _), (trodAll_cons_mk (Below.trod laidOut (by kernel_rfl) (of_decide_eq_true (by kernel_rfl)) k0 bel lt0) (trodAll_cons_mk (Below.trod laidOut (by kernel_rfl) (of_decide_eq_true (by kernel_rfl)) k1 bel lt1) trodAll_mk0)), rfl, bel.frame _, fun h => by cases h⟩
theorem over : Rows.schemaBytesRow.holds Try.pinned (OpenSpec.ofChange Rows.schemaBytesSpec) :=
  OpenClaim.holds_of_wide 6 Try.f6 rfl rfl rfl rfl rfl rfl rfl ⟨rfl, rfl, rfl, rfl, rfl⟩ rfl rfl rfl rfl rfl (by kernel_rfl) Try.func6 (by kernel_rfl)
    (of_decide_eq_true (by kernel_rfl)) (by unfold Func.isWrapper; first | (rw [if_pos (by decide +kernel)]; kernel_rfl) | (rw [if_neg (by decide +kernel)]; exact ⟨rfl, rfl⟩))
    (fun os started H enc _ => lifted os started H enc)
theorem proved : Rows.SchemaBytesSaid := over
end Go.Proofs.Ytbbffnlefmogbaa.schemaBytes
namespace Go.Proofs.Ytbbffnlefmogbaa
/-- The row, under a short name, for the claim. -/
theorem schemaBytes_holds : Rows.SchemaBytesSaid := schemaBytes.proved
end Go.Proofs.Ytbbffnlefmogbaa
