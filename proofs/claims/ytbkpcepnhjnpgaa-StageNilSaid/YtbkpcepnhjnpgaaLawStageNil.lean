/- The contract of firkinlaw35.StageNil. -/
import Derived.Test.YtbkpcepnhjnpgaaStageLive
import Derived.Deep.CutBlock
namespace Go.Proofs.Ytbkpcepnhjnpgaa.X
open Go.RowKit Go.Maps Go.Proofs.YtbkpcepnhjnpgaaW.PrintWords Go.Proofs.YtbkpcepnhjnpgaaW.PrintLast Go.Proofs.YtbkpcepnhjnpgaaW.PrintMore
set_option linter.unusedVariables false
set_option linter.unusedSimpArgs false
def firkinlaw35_StageNil.f (a0 a1 a2 : Int) : Option Bool := some true
set_option maxRecDepth 100000 in
theorem stage_Upload.bad (p : Value) (q : Option Addr) (z : Int) (w : World) (h : ∀ w1, Fr (fun _ => True) w w1 → Calls Try.prog 62 #[p] w1 fun e w' => e = .returned (.bool false) ∧ w' = w1) :
    Calls Try.prog 24 #[p, .pointer q, .int .i64 z] w fun e w' => e = .returned (.int .i64 9) ∧ Fr (fun _ => True) w w' := by
  have H := Aside0.mk h
  have hfa := fr_alloc w (.cells #[.pointer q] 29) (fun _ => True)
  have HF := Aside0.mk hfa
  clear h hfa
  go_enter Try.func24, Try.ntmps24
  go_wp2_with fail
  refine (H.out _ HF.out).mono ?_
  rintro e w' ⟨rfl, rfl⟩
  go_wp2_with fail
  go_ret
  exact ⟨rfl, HF.out⟩
set_option maxRecDepth 100000 in
theorem stage_Upload.now (b : Nat) (t : TS) (q : Option Addr) (z : Int) (w : World) (hT : IsT w b t) (h : ∀ w1, Fr (fun _ => True) w w1 → Calls Try.prog 68 #[.pointer q] w1 fun e w' => e = .returned (.bool false) ∧ w' = w1) :
    Calls Try.prog 24 #[.pointer (some ⟨b, 0, none⟩), .pointer q, .int .i64 z] w fun e w' => e = .returned (.int .i64 9) ∧ Fr (fun _ => True) w w' := by
  have H := Aside0.mk h
  obtain ⟨A, c, hb, hr⟩ := hT
  have hfa := fr_alloc w (.cells #[.pointer q] 29) (fun _ => True)
  have HF := Aside0.mk hfa
  have HB := Aside0.mk hb
  clear h hfa hb hr
  go_enter Try.func24, Try.ntmps24
  go_wp2_with fail
  refine (stage_is.calls b t _ _ (HF.out.kept HB.out trivial)).mono ?_
  rintro e w' ⟨rfl, rfl⟩
  go_wp2_with fail
  refine (world_Made.all _ false _ (H.out _ HF.out)).mono ?_
  rintro e w' ⟨rfl, rfl⟩
  go_wp2_with fail
  go_ret
  exact ⟨rfl, HF.out⟩
theorem DN.kept {n0 : Nat} {w w' : World} {b n : Nat} {d : DS} (h : DN n0 w b d n) (hf : Fr (fun _ => True) w w') : DN n0 w' b d n :=
  ⟨h.isD.kept hf trivial trivial trivial, h.live.kept hf trivial, h.eq, h.new⟩
theorem wrap9 {n : Int} (h0 : 0 ≤ n) (h1 : n ≤ 9) : wrap64 (9 - n) = 9 - n := by unfold wrap64; omega
def may35 (x y : Int) : Bool := decide (y ≥ 0) && (decide (y ≤ 9) && (decide (x ≥ 0) && decide (x ≤ wrap64 (9 - y))))
theorem may35_iff (x y : Int) : may35 x y = true ↔ 0 ≤ x ∧ 0 ≤ y ∧ x ≤ 9 ∧ y ≤ 9 - x := by
  unfold may35
  simp only [Bool.and_eq_true, decide_eq_true_eq]
  by_cases h : 0 ≤ y ∧ y ≤ 9
  · rw [wrap9 h.1 h.2]; omega
  · constructor
    · intro h2; omega
    · intro h2; omega
/-- What stage.New answers, in short. -/
theorem stage_New.any (n0 b : Nat) (d : DS) (x y : Int) (mb : Bool) (ev : Int) (hmb : may35 x y = mb) (hev : (if mb = true then 0 else 1) = ev) (w : World) (h : DN n0 w b d 9) :
    Calls Try.prog 15 #[.pointer (some ⟨b, 0, none⟩), .int .i64 x, .int .i64 y] w fun e w' => ∃ q, e = .returned (.tuple #[.pointer q, .int .i64 ev]) ∧ Fr (fun _ => True) w w' := by
  subst hev hmb
  by_cases hm : may35 x y = true
  · rw [hm, if_pos rfl]
    have h1 := (may35_iff x y).mp hm
    refine (stage_New.calls 0 b d x y w h.isD (by rw [h.eq.1]; omega) ⟨h1.1, h1.2.1, by rw [h.eq.1]; omega⟩).mono ?_
    rintro e w' ⟨rfl, _, h4, _⟩
    exact ⟨_, rfl, h4⟩
  · rw [if_neg hm]
    rw [may35_iff] at hm
    refine (stage_New.out b d x y w h.isD (by rw [h.eq.1]; omega) (by rw [h.eq.1]; exact hm)).mono ?_
    rintro e w' ⟨rfl, rfl⟩
    exact ⟨_, rfl, Fr.refl _ _⟩
set_option maxHeartbeats 16000000 in
set_option maxRecDepth 100000 in
theorem firkinlaw35_StageNil.calls (a0 a1 a2 : Int) (r : Bool) (w : World) (h : firkinlaw35_StageNil.f a0 a1 a2 = some r) :
    Calls Try.prog 4 #[.int .i64 a0, .int .i64 a1, .int .i64 a2] w fun e w' => e = .returned (.bool r) ∧ Below w.heap.size w w' := by
  obtain rfl : true = r := Option.some.inj h
  clear h
  have hm0 : may35 a0 a1 = (decide (a1 ≥ 0) && (decide (a1 ≤ 9) && (decide (a0 ≥ 0) && decide (a0 ≤ wrap64 (9 - a1))))) := rfl
  obtain ⟨mb, hmb⟩ : ∃ mb : Bool, may35 a0 a1 = mb := ⟨_, rfl⟩
  obtain ⟨ev, hev⟩ : ∃ ev : Int, (if mb = true then 0 else 1) = ev := ⟨_, rfl⟩
  have HNW := Aside0.mk (fun b d => stage_New.any w.heap.size b d a0 a1 mb ev hmb hev)
  have HEV := Aside0.mk hev
  obtain ⟨t1, c1⟩ : ∃ t : Bool, decide (a1 ≥ 0) = t := ⟨_, rfl⟩
  obtain ⟨t2, c2⟩ : ∃ t : Bool, decide (a1 ≤ 9) = t := ⟨_, rfl⟩
  obtain ⟨t3, c3⟩ : ∃ t : Bool, decide (a0 ≥ 0) = t := ⟨_, rfl⟩
  obtain ⟨t4, c4⟩ : ∃ t : Bool, decide (a0 ≤ wrap64 (9 - a1)) = t := ⟨_, rfl⟩
  rw [c1, c2, c3, c4, hmb] at hm0
  have HM := Aside0.mk hm0
  clear hm0 hmb hev
  go_enter Try.func4, Try.ntmps4
  go_wp2_with fail
  refine (world_New.calls w).mono ?_
  rintro e w1 ⟨rfl, hw1, _, hf1, hs1⟩
  have HW1 := Aside0.mk hw1
  have HF1 := Aside0.mk hf1
  have HS1 := Aside0.mk hs1
  clear hw1 hf1 hs1
  go_wp2_with fail
  refine (disk_New.live (n0 := w.heap.size) (n := 9) HW1.out (by omega) (by have := HS1.out; omega) (by omega) (by omega)).mono ?_
  rintro e w2 ⟨bd, d, rfl, hd, hf2⟩
  have HD := Aside0.mk hd
  have HF2 := Aside0.mk (HF1.out.trans hf2)
  clear hd hf2
  go_wp2_with fail
  refine (HNW.out bd d w2 HD.out).mono ?_
  rintro e w3 ⟨q3, rfl, hf3⟩
  have HF3 := Aside0.mk (HF2.out.trans hf3)
  have HD3 := Aside0.mk (HD.out.kept hf3)
  clear hf3
  go_wp2_with fail
  refine (stage_New.bad _ _ _ _ (disk_is.nil _)).mono ?_
  rintro e w' ⟨rfl, rfl⟩
  go_upto_region 4 with (fail)
  go_cut [13] (fun v13 wx => v13 = .bool mb ∧ wx = w')
  case first =>
    have hsp : t1 = false ∨ (t1 = true ∧ t2 = false) ∨ (t1 = true ∧ t2 = true ∧ t3 = false) ∨ (t1 = true ∧ t2 = true ∧ t3 = true ∧ t4 = false) ∨ (t1 = true ∧ t2 = true ∧ t3 = true ∧ t4 = true) := by
      cases t1 <;> cases t2 <;> cases t3 <;> cases t4 <;> simp
    rcases hsp with rfl | ⟨rfl, rfl⟩ | ⟨rfl, rfl, rfl⟩ | ⟨rfl, rfl, rfl, rfl⟩ | ⟨rfl, rfl, rfl, rfl⟩
    all_goals (
      go_wp2_with fail
      go_meet
      case rel => exact ⟨by rw [HM.out]; rfl, rfl⟩)
  case rest =>
  obtain ⟨rfl, rfl⟩ := hcut
  clear c1 c2 c3 c4
  cases mb
  all_goals (
    obtain rfl := HEV.out
    simp only [if_true, Bool.false_eq_true, if_false]
    go_wp2_with (first
      | (go_at_call 16; refine num35_to ?_))
    go_loopg [14] 3 (fun kq v14 wr => ∃ (i : Nat), v14 = .int .i64 (i : Int) ∧ Aside0 (kq + i = 3) ∧ Aside0 (i ≤ 2) ∧ Aside0 (Fr (fun _ => True) wc wr))
    case atStart => exact ⟨0, rfl, ⟨by omega⟩, ⟨by omega⟩, ⟨Fr.refl _ _⟩⟩
    case round =>
      obtain ⟨i, rfl, HK, HI, HFR⟩ := hrel
      have hi3 : i = 0 ∨ i = 1 ∨ i = 2 := by have := HI.out; omega
      rcases hi3 with rfl | rfl | rfl
      case inr.inr =>
        have HDR := Aside0.mk (HD3.out.kept HFR.out)
        have HZ := Aside0.mk (HF3.out.trans HFR.out)
        go_wp2_with fail
        refine (stage_New.ss (n0 := w.heap.size) (x := 0) (y := 2) HDR.out.isD HDR.out.live HDR.out.eq.2.2.1 HDR.out.eq.2.2.2 (by rw [HDR.out.eq.1]; omega) (by rw [HDR.out.eq.1]; omega) HZ.out.size HDR.out.new).mono ?_
        rintro e w5 ⟨rfl, hss, hf5⟩
        have HSS := Aside0.mk hss
        have HF5 := Aside0.mk (HZ.out.trans hf5)
        clear hss hf5
        go_wp2_with (first
          | (go_at_call 16; refine num35_to ?_))
        refine (stage_Upload.now _ _ _ _ _ HSS.out.isT (fun w1 _ => world_is.nil w1)).mono ?_
        rintro e w6 ⟨rfl, hf6⟩
        have HF6 := Aside0.mk hf6
        clear hf6
        go_wp2_with (first
          | (go_at_call 16; refine num35_to ?_))
        have HWN := Aside0.mk (Mem.alloc_new w6 (.cells #[.map none, .slice none 0 0, .int .i64 0, .bool false, .int .i64 0, .int .i64 0] 52))
        have HFA := Aside0.mk (fr_alloc w6 (.cells #[.map none, .slice none 0 0, .int .i64 0, .bool false, .int .i64 0, .int .i64 0] 52) (fun _ => True))
        refine (stage_Upload.now _ _ _ _ _ (HSS.out.kept (HF6.out.trans HFA.out)).isT (fun w1 hf => world_is.none _ w1 ((blk_cell (hf.kept HWN.out trivial) 0).trans rfl))).mono ?_
        rintro e w7 ⟨rfl, hf7⟩
        have HF7 := Aside0.mk (((HF5.out.trans HF6.out).trans HFA.out).trans hf7)
        clear hf7 HWN HFA
        go_wp2_with (first
          | (go_at_call 16; refine num35_to ?_))
        refine (firkinlaw35_live.calls w7).mono ?_
        rintro e w8 ⟨rfl, hf8⟩
        have HF8 := Aside0.mk ((HF7.out.mono (fun _ _ _ => trivial)).step hf8 (fun k hk (h : k < w.heap.size) => by have := HF7.out.size; omega))
        clear hf8
        go_wp2_with fail
        go_ret
        exact ⟨rfl, HF8.out.below (fun k hk => hk) (Nat.le_refl _)⟩
      case inl =>
        cases gk with
        | zero => have h1 := HK.out; omega
        | succ k2 =>
        have HIS : Aside0 (∀ w1, Fr (fun _ => True) (wr) w1 → Calls Try.prog 62 #[.pointer none] w1 fun e w' => e = .returned (.bool false) ∧ w' = w1) := ⟨fun w1 _ => stage_is.nil w1⟩
        have HC0 := Aside0.mk (Fr.refl (fun _ => True) (wr))
        have HP0 := Aside0.mk (HFR.out)
        go_wp2_with fail
        refine calls_to (stage_Clear.bad _ _ (HIS.out _ HC0.out)) ?_
        go_wp2_with fail
        refine calls_to (stage_Get.bad _ _ _ (HIS.out _ HC0.out)) ?_
        go_wp2_with fail
        refine calls_to (stage_Put.bad _ _ _ _ (HIS.out _ (fr_alloc _ _ _))) ?_
        go_wp2_with (first
          | (go_at_call 16; refine num35_to ?_))
        refine (world_New.calls _).mono ?_
        rintro e w6 ⟨rfl, hw6, _, hf6, hs6⟩
        have HF6 := Aside0.mk ((fr_alloc (wr) (.cells #[.int .u8 1] 5) (fun _ => True)).trans hf6)
        clear hw6 hf6 hs6
        go_wp2_with fail
        refine (stage_Upload.bad _ _ _ w6 (fun w1 hf => HIS.out _ (HF6.out.trans hf))).mono ?_
        rintro e w7 ⟨rfl, hf7⟩
        have HF7 := Aside0.mk (HF6.out.trans hf7)
        clear hf7
        go_wp2_with (first
          | (go_at_call 16; refine num35_to ?_)
          | (go_at_call 19; refine calls_to (stage_Used.bad _ _ (HIS.out _ HF7.out)) ?_)
          | (go_at_call 20; refine calls_to (stage_Len.bad _ _ (HIS.out _ HF7.out)) ?_))
        go_roundg k2
        case measure => exact Nat.lt_succ_self _
        case rel => exact ⟨1, rfl, ⟨by have := HK.out; omega⟩, ⟨by omega⟩, ⟨HP0.out.trans HF7.out⟩⟩
      case inr.inl =>
        cases gk with
        | zero => have h1 := HK.out; omega
        | succ k2 =>
        have HIS : Aside0 (∀ w1, Fr (fun _ => True) (wr.alloc (.cells #[.pointer none, .int .i64 0, .int .i64 0, .int .i64 0, .slice none 0 0] 47)) w1 → Calls Try.prog 62 #[.pointer (some ⟨wr.heap.size, 0, none⟩)] w1 fun e w' => e = .returned (.bool false) ∧ w' = w1) := ⟨fun w1 hf => stage_is.none _ w1 ((blk_cell (hf.kept (Mem.alloc_new _ _) trivial) 0).trans rfl)⟩
        have HC0 := Aside0.mk (Fr.refl (fun _ => True) (wr.alloc (.cells #[.pointer none, .int .i64 0, .int .i64 0, .int .i64 0, .slice none 0 0] 47)))
        have HP0 := Aside0.mk (HFR.out.alloc (.cells #[.pointer none, .int .i64 0, .int .i64 0, .int .i64 0, .slice none 0 0] 47))
        go_wp2_with fail
        refine calls_to (stage_Clear.bad _ _ (HIS.out _ HC0.out)) ?_
        go_wp2_with fail
        refine calls_to (stage_Get.bad _ _ _ (HIS.out _ HC0.out)) ?_
        go_wp2_with fail
        refine calls_to (stage_Put.bad _ _ _ _ (HIS.out _ (fr_alloc _ _ _))) ?_
        go_wp2_with (first
          | (go_at_call 16; refine num35_to ?_))
        refine (world_New.calls _).mono ?_
        rintro e w6 ⟨rfl, hw6, _, hf6, hs6⟩
        have HF6 := Aside0.mk ((fr_alloc (wr.alloc (.cells #[.pointer none, .int .i64 0, .int .i64 0, .int .i64 0, .slice none 0 0] 47)) (.cells #[.int .u8 1] 5) (fun _ => True)).trans hf6)
        clear hw6 hf6 hs6
        go_wp2_with fail
        refine (stage_Upload.bad _ _ _ w6 (fun w1 hf => HIS.out _ (HF6.out.trans hf))).mono ?_
        rintro e w7 ⟨rfl, hf7⟩
        have HF7 := Aside0.mk (HF6.out.trans hf7)
        clear hf7
        go_wp2_with (first
          | (go_at_call 16; refine num35_to ?_)
          | (go_at_call 19; refine calls_to (stage_Used.bad _ _ (HIS.out _ HF7.out)) ?_)
          | (go_at_call 20; refine calls_to (stage_Len.bad _ _ (HIS.out _ HF7.out)) ?_))
        go_roundg k2
        case measure => exact Nat.lt_succ_self _
        case rel => exact ⟨2, rfl, ⟨by have := HK.out; omega⟩, ⟨by omega⟩, ⟨HP0.out.trans HF7.out⟩⟩)
end Go.Proofs.Ytbkpcepnhjnpgaa.X
