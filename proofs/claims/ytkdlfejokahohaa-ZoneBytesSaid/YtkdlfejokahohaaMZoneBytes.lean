/- ZoneBytes: for every input the call returns true, and each argument reads behind the call as it read before it. No condition. (Part 10 of 10: this session's texts, laid together by wip/merge.py.) -/
import Derived.Test.YtkdlfejokahohaaWf
import Derived.Test.YtkdlfejokahohaaRows
import Derived.Test.YtkdlfejokahohaaOpens
import Derived.WalkKit
import Derived.ProofKit
import Derived.OpenShut
import Derived.ShutString
import Derived.ChangeOld
import Derived.Below
import Derived.SizedLaws
import Derived.Test.YtkdlfejokahohaaMZoneBytes7
import Derived.Test.YtkdlfejokahohaaMZoneBytes8
set_option maxHeartbeats 8000000
set_option maxRecDepth 100000
/- ZoneBytes: every zone's bytes, and which zone whatever bytes begin with, is the document's; what is put is taken again. No condition. -/
namespace Go.Proofs.Ytkdlfejokahohaa.True_
open Go Go.RowKit Go.Proofs.Ytkdlfejokahohaa.X Go.Proofs.Ytkdlfejokahohaa.Dec Go.Proofs.Ytkdlfejokahohaa.Read Go.Proofs.Ytkdlfejokahohaa.CellPlain Go.Proofs.Ytkdlfejokahohaa.CellEnc Go.Proofs.Ytkdlfejokahohaa.ZoneEnc
theorem ZoneBytes : ∀ (x0 : Int) (x1 : S25) (x2 : List Int), (Lit.int .i64 x0).wf = true → ((Lit.int .i64 x1.f0).wf = true ∧ (Lit.int .i64 x1.f1).wf = true ∧ (True ∧ (Lit.int .i64 x1.f2.f1).wf = true ∧ x1.f2.f2.size ≤ maxLen) ∧ (True ∧ (Lit.int .i64 x1.f3.f1).wf = true ∧ x1.f3.f2.size ≤ maxLen)) → (x2.length ≤ maxLen ∧ ∀ z ∈ x2, (Lit.int .u8 z).wf = true) → ∃ k, firkinlaw11_ZoneBytes.f k x0 x1.f0 x1.f1 x1.f2.f0 x1.f2.f1 x1.f2.f2 x1.f3.f0 x1.f3.f1 x1.f3.f2 x2 = some true := by
 intro x0 x1 x2 _ h1 h2
 obtain ⟨a0, a1⟩ := Wf.i64 h1.2.2.1.2.1
 obtain ⟨b0, b1⟩ := Wf.i64 h1.2.2.2.2.1
 have hb2 : IsBytes x2 := fun x hx => byte_bounds (h2.2 x hx)
 have hlive : firkinlaw11_live.f = some true := by
  unfold firkinlaw11_live.f zone_Of.f
  decide +kernel
 refine ⟨1000, ?_⟩
 unfold firkinlaw11_ZoneBytes.f
 rw [hlive, Option.bind_some, if_neg (by decide)]
 by_cases hl : 100 < x1.f2.f2.size ∨ 100 < x1.f3.f2.size ∨ 300 < x2.length
 ·rw [if_pos hl]
 rw [if_neg hl]
 have hg : GoodS x2 false := GoodS.of ⟨hb2, by omega⟩
 have hgt := takeZ_good hg x0
 have hel := encZ_len x0 x1.f0 x1.f1 x1.f2.f0 x1.f2.f1 x1.f2.f2 x1.f3.f0 x1.f3.f1 x1.f3.f2 a0 a1 b0 b1 (by omega) (by omega)
 rw [zput_is _ _ _ _ _ _ _ _ _ a0 a1 b0 b1 (by omega) (by omega) 1000 (by decide), Option.bind_some, rzput_is _ _ _ _ _ _ _ _ _ a0 a1 b0 b1 (by omega) (by omega) 1000 (by decide), Option.bind_some, if_neg (by simp), ztake_is hg x0 1000 (by decide), Option.bind_some, rztake_is hg x0 1000 (by decide), Option.bind_some, if_neg (by rintro (h | ⟨h, h'⟩); exact h rfl; exact h' (hgt.2 h)), rzmay_is _ _ _ _ _ _ _ _ _ 998, Option.bind_some]
 by_cases hm : mayZ x0 x1.f0 x1.f1 x1.f2.f0 x1.f2.f1 x1.f2.f2 x1.f3.f0 x1.f3.f1 x1.f3.f2 = true
 ·have := takeZ_enc a0 a1 b0 b1 hm []
  rw [List.append_nil] at this
  rw [if_neg (by simp [hm]), ztake_is (GoodS.of ⟨encZ_bytes _ _ _ _ _ _ _ _ _, by omega⟩) x0 1000 (by decide), Option.bind_some, this, if_pos rfl]
 ·rw [if_pos (by simpa using hm), if_pos (by unfold encZ; rw [if_neg hm])]
end Go.Proofs.Ytkdlfejokahohaa.True_
/- ZoneBytes: for every input the call returns true, and each argument reads behind the call as it read before it. No condition. -/
namespace Go.Proofs.Ytkdlfejokahohaa.zoneBytes
open Go.ChangeShapes Go.WideShapes Go.ChangeAt Go.RowKit Go.Proofs.Ytkdlfejokahohaa.Opens Go.Proofs.Ytkdlfejokahohaa.X Go.Proofs.YtkdlfejokahohaaW.PrintWords Go.Proofs.YtkdlfejokahohaaW.PrintLast Go.Proofs.YtkdlfejokahohaaW.PrintMore
open Go.ChangeMaps (open_string shut_string)
set_option linter.unusedVariables false
set_option linter.unusedSimpArgs false
theorem own : ownKnob Try.prog.godebug = none := by kernel_rfl
theorem laidOut : laidOutB Try.prog = true := by kernel_rfl
set_option maxRecDepth 100000 in
theorem lifted (os : Os) (started : os.Started) (H : Type) (enc : TypeId × Value → H) :
  ReturnsInHanded {} Try.checked os 14 .any (Rows.zoneBytesSpec.pre6 enc Try.prog Try.f14 Rows.zoneBytesRow.domain false) (Rows.zoneBytesSpec.post enc Try.prog Try.f14 false true false false) := by
 refine returnsInHanded_of_change_sized (C := Try.checked) own started (by kernel_rfl) Try.func14
  (ChangeSpec.witness6 (enc := enc) (C := Try.checked) false ⟨#[], #[.int .i64 0, .agg #[.int .i64 0, .int .i64 0, .bool false, .int .i64 0, .string ByteArray.empty, .bool false, .int .i64 0, .string ByteArray.empty], .slice none 0 0], []⟩ 8 (by kernel_rfl) (by kernel_rfl) (by kernel_rfl) (by kernel_rfl)) ?_
 intro W base args ds gs before hval0 hW hcnd hsz0 _
 have hval : ∀ (j : Nat) t v, Try.f14.params[j]? = some t → args[j]? = some v → Value.okWide Try.prog W .any base t v := hval0
 have hW' := hW
 obtain ⟨p, q, hA0, hV, rfl, hfz, hnd⟩ := hW
 have hA : DataW.TrodAll enc Try.prog W 0 (fun _ => true) true Try.f14.params.toList args.toList ds p := hA0
 rw [Try.params14] at hA hval
 obtain ⟨v0, vs0, d0, ds0, p0, q0, hargs, rfl, rfl, h0, r0⟩ := trodAll_cons hA
 obtain ⟨v1, vs1, d1, ds1, p1, q1, rfl, rfl, rfl, h1, r1⟩ := trodAll_cons r0
 obtain ⟨v2, vs2, d2, ds2, p2, q2, rfl, rfl, rfl, h2, r2⟩ := trodAll_cons r1
 obtain ⟨rfl, rfl, rfl⟩ := trodAll_nil r2
 obtain rfl : args = #[v0, v1, v2] := by cases args; simp_all
 obtain ⟨rfl, rfl⟩ := trodVars_none hV
 have k0 := h0
 have lt0 : ∀ x ∈ p0, x.block < W.heap.size := by obtain ⟨m, hm⟩ := k0; exact DataW.trod_lt m _ _ _ hm
 obtain ⟨x0, hk0, ok0⟩ := Opens.arg (Opens.int Try.underlying3 (by kernel_rfl)) h0
 obtain ⟨y0, rfl⟩ := okWide_int Try.underlying3 (hval 0 3 v0 rfl rfl)
 injection (show _ = [_] from hk0) with e0 _
 injection e0 with e0a e0
 subst e0
 have k1 := h1
 have lt1 : ∀ x ∈ p1, x.block < W.heap.size := by obtain ⟨m, hm⟩ := k1; exact DataW.trod_lt m _ _ _ hm
 obtain ⟨x1, hk1, ok1⟩ := Opens.arg (Opens.iso (Opens.struct Try.underlying25 (OpensF.cons (Opens.int Try.underlying3 (by kernel_rfl)) rfl (OpensF.cons (Opens.int Try.underlying3 (by kernel_rfl)) rfl (OpensF.cons (Opens.iso (Opens.struct Try.underlying23 (OpensF.cons (Opens.bool Try.underlying4 (by kernel_rfl)) rfl (OpensF.cons (Opens.int Try.underlying2 (by kernel_rfl)) rfl (OpensF.one (Opens.string Try.underlying9 (by kernel_rfl)) rfl) rfl) rfl) (by kernel_rfl)) (β := S23) (fun x : S23 => (x.f0, x.f1, x.f2)) (fun y => ⟨y.1, y.2.1, y.2.2⟩) (fun _ => rfl)) rfl (OpensF.one (Opens.iso (Opens.struct Try.underlying23 (OpensF.cons (Opens.bool Try.underlying4 (by kernel_rfl)) rfl (OpensF.cons (Opens.int Try.underlying2 (by kernel_rfl)) rfl (OpensF.one (Opens.string Try.underlying9 (by kernel_rfl)) rfl) rfl) rfl) (by kernel_rfl)) (β := S23) (fun x : S23 => (x.f0, x.f1, x.f2)) (fun y => ⟨y.1, y.2.1, y.2.2⟩) (fun _ => rfl)) rfl) rfl) rfl) rfl) (by kernel_rfl)) (β := S25) (fun x : S25 => (x.f0, x.f1, x.f2, x.f3)) (fun y => ⟨y.1, y.2.1, y.2.2.1, y.2.2.2⟩) (fun _ => rfl)) h1
 obtain ⟨cs1, rfl, _⟩ := okWide_struct Try.underlying25 (hval 1 25 v1 rfl rfl)
 obtain hcs1 := k25_open hk1
 have hcs1' : cs1.toList = _ := hcs1
 obtain rfl := Array.toList_inj.mp (hcs1'.trans (List.toList_toArray).symm)
 have k2 := h2
 have lt2 : ∀ x ∈ p2, x.block < W.heap.size := by obtain ⟨m, hm⟩ := k2; exact DataW.trod_lt m _ _ _ hm
 obtain ⟨x2, hk2, ok2⟩ := Opens.arg (Opens.slice Try.underlying31 (by kernel_rfl) (Opens.int Try.underlying5 (by kernel_rfl))) h2
 obtain ⟨a2, len2, cap2, rfl⟩ := okWide_slice Try.underlying31 (hval 2 31 v2 rfl rfl)
 obtain ⟨A2, c2, hcs2, hc2, hr2⟩ := hk2
 simp only [Value.cells] at hcs2
 injection hcs2 with hcs2 _
 injection hcs2 with e1_2 e2_2 e3_2
 subst e1_2 e2_2 e3_2
 clear hA0 hval0 hsz0
 obtain ⟨k, h⟩ := True_.ZoneBytes y0 x1 x2 ok0 ok1 ok2
 refine (firkinlaw11_ZoneBytes.calls k y0 x1.f0 x1.f1 x1.f2.f0 x1.f2.f1 x1.f2.f2 x1.f3.f0 x1.f3.f1 x1.f3.f2 _ _ x2 true W hr2 hc2 h).mono fun e W' ⟨he, bel0⟩ => ?_
 have bel : Below W.heap.size W W' := bel0
 subst he
 exact ⟨_, rfl, _, _, _, [], _, [], hW', trodAll_mk1 (shut_bool Try.underlying4 _), (trodAll_cons_mk (Below.trod laidOut (by kernel_rfl) (of_decide_eq_true (by kernel_rfl)) k0 bel lt0) (trodAll_cons_mk (Below.trod laidOut (by kernel_rfl) (of_decide_eq_true (by kernel_rfl)) k1 bel lt1) (trodAll_cons_mk (Below.trod laidOut (by kernel_rfl) (of_decide_eq_true (by kernel_rfl)) k2 bel lt2) trodAll_mk0))), rfl, bel.frame _, fun h => by cases h⟩
theorem over : Rows.zoneBytesRow.holds Try.pinned (OpenSpec.ofChange Rows.zoneBytesSpec) :=
 OpenClaim.holds_of_wide 14 Try.f14 rfl rfl rfl rfl rfl rfl rfl ⟨rfl, rfl, rfl, rfl, rfl⟩ rfl rfl rfl rfl rfl (by kernel_rfl) Try.func14 (by kernel_rfl)
  (of_decide_eq_true (by kernel_rfl)) (by unfold Func.isWrapper; first | (rw [if_pos (by decide +kernel)]; kernel_rfl) | (rw [if_neg (by decide +kernel)]; exact ⟨rfl, rfl⟩))
  (fun os started H enc _ => lifted os started H enc)
theorem proved : Rows.ZoneBytesSaid := over
end Go.Proofs.Ytkdlfejokahohaa.zoneBytes
namespace Go.Proofs.Ytkdlfejokahohaa
/-- The row, under a short name, for the claim. -/
theorem zoneBytes_holds : Rows.ZoneBytesSaid := zoneBytes.proved
end Go.Proofs.Ytkdlfejokahohaa
