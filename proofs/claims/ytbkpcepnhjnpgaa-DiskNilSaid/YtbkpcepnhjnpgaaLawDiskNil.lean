/- The contract of firkinlaw25.DiskNil. -/
import Derived.Test.YtbkpcepnhjnpgaaDiskV
import Derived.Test.YtbkpcepnhjnpgaaDiskX
import Derived.Deep.CutBlock
namespace Go.Proofs.Ytbkpcepnhjnpgaa.X
open Go.RowKit Go.Maps Go.Proofs.YtbkpcepnhjnpgaaW.PrintWords Go.Proofs.YtbkpcepnhjnpgaaW.PrintLast Go.Proofs.YtbkpcepnhjnpgaaW.PrintMore
set_option linter.unusedVariables false
set_option linter.unusedSimpArgs false
def firkinlaw25_DiskNil.f (a0 a1 : Int) : Option Bool := some true
def may25 (x : Int) : Bool := decide (x ≥ 1) && decide (x ≤ 1024)
/-- What disk.New answers, in short. -/
theorem disk_New.any (bw m : Nat) (x : Int) (mb : Bool) (hmb : may25 x = mb) (w : World) (h : IsW w bw (newW m)) :
    Calls Try.prog 13 #[.pointer (some ⟨bw, 0, none⟩), .int .i64 x] w fun e w' => ∃ q, e = .returned (.tuple #[.pointer q, .int .i64 (if mb = true then 0 else 1)]) ∧ (mb = false → q = none) ∧ Fr (fun _ => True) w w' := by
  subst hmb
  by_cases hm : may25 x = true
  · rw [hm, if_pos rfl]
    unfold may25 at hm
    simp only [Bool.and_eq_true, decide_eq_true_eq] at hm
    obtain ⟨k, rfl⟩ : ∃ k : Nat, x = (k : Int) := ⟨x.toNat, by omega⟩
    refine (disk_New.calls bw _ k w h (by omega) (by omega)).mono ?_
    rintro e w' ⟨rfl, _, h4, _⟩
    exact ⟨_, rfl, fun h => by simp at h, h4⟩
  · rw [if_neg hm]
    have hm2 : ¬ (1 ≤ x ∧ x ≤ 1024) := by
      unfold may25 at hm
      simp only [Bool.and_eq_true, decide_eq_true_eq] at hm
      exact hm
    refine (disk_New.out bw _ x w h (by omega)).mono ?_
    rintro e w' ⟨rfl, rfl⟩
    exact ⟨_, rfl, fun _ => rfl, Fr.refl _ _⟩
set_option maxHeartbeats 16000000 in
set_option maxRecDepth 100000 in
theorem firkinlaw25_DiskNil.calls (a0 a1 : Int) (r : Bool) (w : World) (h : firkinlaw25_DiskNil.f a0 a1 = some r) :
    Calls Try.prog 7 #[.int .i64 a0, .int .i64 a1] w fun e w' => e = .returned (.bool r) ∧ Below w.heap.size w w' := by
  obtain rfl : true = r := Option.some.inj h
  clear h
  have hm0 : may25 a0 = (decide (a0 ≥ 1) && decide (a0 ≤ 1024)) := rfl
  obtain ⟨mb, hmb⟩ : ∃ mb : Bool, may25 a0 = mb := ⟨_, rfl⟩
  have HNW := Aside0.mk (fun b m => disk_New.any b m a0 mb hmb)
  obtain ⟨t1, c1⟩ : ∃ t : Bool, decide (a0 ≥ 1) = t := ⟨_, rfl⟩
  obtain ⟨t2, c2⟩ : ∃ t : Bool, decide (a0 ≤ 1024) = t := ⟨_, rfl⟩
  rw [c1, c2, hmb] at hm0
  have hsp : (t1 = true ∧ t2 = true ∧ mb = true) ∨ (t1 = true ∧ t2 = false ∧ mb = false) ∨ (t1 = false ∧ mb = false) := by
    revert hm0; cases t1 <;> cases t2 <;> cases mb <;> simp
  clear hm0 hmb
  rcases hsp with ⟨rfl, rfl, rfl⟩ | ⟨rfl, rfl, rfl⟩ | ⟨rfl, rfl⟩
  all_goals (
    go_enter Try.func7, Try.ntmps7
    go_wp2_with fail
    refine (world_New.calls w).mono ?_
    rintro e w1 ⟨rfl, hw1, _, hf1, hs1⟩
    have HW1 := Aside0.mk hw1
    have HF1 := Aside0.mk hf1
    clear hw1 hf1 hs1
    go_wp2_with fail
    refine (HNW.out _ _ w1 HW1.out).mono ?_
    rintro e w2 ⟨q2, rfl, hq2, hf2⟩
    have HF2 := Aside0.mk (HF1.out.trans hf2)
    first | (replace hq2 := hq2 trivial; subst hq2) | (replace hq2 := hq2 (Eq.refl _); subst hq2) | skip
    clear hf2
    try clear hq2
    simp only [if_true, Bool.false_eq_true, if_false]
    go_wp2_with fail
    refine (disk_New.bad _ _ _ (world_is.nil _)).mono ?_
    rintro e w' ⟨rfl, rfl⟩
    go_wp2_with fail
    have HF3 := Aside0.mk (HF2.out.alloc (.cells #[.map none, .slice none 0 0, .int .i64 0, .bool false, .int .i64 0, .int .i64 0] 52))
    refine (disk_New.bad _ _ _ (world_is.none _ _ ((blk_cell (Mem.alloc_new w' (.cells #[.map none, .slice none 0 0, .int .i64 0, .bool false, .int .i64 0, .int .i64 0] 52)) 0).trans rfl))).mono ?_
    rintro e w3 ⟨rfl, rfl⟩
    go_wp2_with (first
      | (go_at_call 34; refine to25 (num25_same _ _) ?_))
    go_loopg [12] 3 (fun kq v12 wr => ∃ (i : Nat), v12 = .int .i64 (i : Int) ∧ Aside0 (kq + i = 3) ∧ Aside0 (i ≤ 2) ∧ Aside0 (Fr (fun _ => True) w wr))
    case atStart => exact ⟨0, rfl, ⟨by omega⟩, ⟨by omega⟩, HF3⟩
    case round =>
      obtain ⟨i, rfl, HK, HI, HFR⟩ := hrel
      have hi3 : i = 0 ∨ i = 1 ∨ i = 2 := by have := HI.out; omega
      rcases hi3 with rfl | rfl | rfl
      case inr.inr =>
        have HZ := HFR
        go_wp2_with fail
        refine (firkinlaw25_live.calls wr).mono ?_
        rintro e w8 ⟨rfl, hf8⟩
        have HF8 := Aside0.mk ((HZ.out.mono (fun _ _ _ => trivial)).step hf8 (fun k hk (h : k < w.heap.size) => by have := HZ.out.size; omega))
        clear hf8
        go_wp2_with fail
        go_ret
        exact ⟨rfl, HF8.out.below (fun k hk => hk) (Nat.le_refl _)⟩
      case inl =>
        cases gk with
        | zero => have h1 := HK.out; omega
        | succ k2 =>
        have HIS : Aside0 (∀ w1, Fr (fun _ => True) (wr) w1 → Calls Try.prog 76 #[.pointer none] w1 fun e w' => e = .returned (.bool false) ∧ w' = w1) := ⟨fun w1 _ => disk_is.nil w1⟩
        have HC0 := Aside0.mk (Fr.refl (fun _ => True) (wr))
        have HP0 := Aside0.mk (HFR.out)
        go_wp2_with fail
        refine to25 (disk_Crash.bad _ _ (HIS.out _ HC0.out)) ?_
        go_wp2_with fail
        refine to25 (disk_Read.bad _ _ _ (HIS.out _ HC0.out)) ?_
        go_wp2_with (first
          | (go_at_call 34; refine to25 (num25_same _ _) ?_)
          | (go_at_call 35; refine to25 (disk_Write.bad _ _ _ _ (HIS.out _ HC0.out)) ?_)
          | (go_at_call 37; refine to25 (disk_Sync.bad _ _ (HIS.out _ HC0.out)) ?_)
          | (go_at_call 41; refine to25 (disk_Size.bad _ _ (HIS.out _ HC0.out)) ?_)
          | (go_at_call 40; refine to25 (disk_Pending.bad _ _ (HIS.out _ HC0.out)) ?_))
        refine (disk_Spoil.bad _ _ (fun w1 hf => HIS.out w1 (HC0.out.trans hf))).mono ?_
        rintro e w7 ⟨rfl, hf7⟩
        have HF7 := Aside0.mk (HC0.out.trans hf7)
        clear hf7
        go_wp2_with (first
          | (go_at_call 42; refine to25 (disk_World.bad _ _ (HIS.out _ HF7.out)) ?_))
        go_roundg k2
        case measure => exact Nat.lt_succ_self _
        case rel => exact ⟨1, rfl, ⟨by have := HK.out; omega⟩, ⟨by omega⟩, ⟨HP0.out.trans HF7.out⟩⟩
      case inr.inl =>
        cases gk with
        | zero => have h1 := HK.out; omega
        | succ k2 =>
        have HIS : Aside0 (∀ w1, Fr (fun _ => True) (wr.alloc (.cells #[.pointer none, .slice none 0 0, .map none] 81)) w1 → Calls Try.prog 76 #[.pointer (some ⟨wr.heap.size, 0, none⟩)] w1 fun e w' => e = .returned (.bool false) ∧ w' = w1) := ⟨fun w1 hf => disk_is.none _ w1 ((blk_cell (hf.kept (Mem.alloc_new _ _) trivial) 0).trans rfl)⟩
        have HC0 := Aside0.mk (Fr.refl (fun _ => True) (wr.alloc (.cells #[.pointer none, .slice none 0 0, .map none] 81)))
        have HP0 := Aside0.mk (HFR.out.alloc (.cells #[.pointer none, .slice none 0 0, .map none] 81))
        go_wp2_with fail
        refine to25 (disk_Crash.bad _ _ (HIS.out _ HC0.out)) ?_
        go_wp2_with fail
        refine to25 (disk_Read.bad _ _ _ (HIS.out _ HC0.out)) ?_
        go_wp2_with (first
          | (go_at_call 34; refine to25 (num25_same _ _) ?_)
          | (go_at_call 35; refine to25 (disk_Write.bad _ _ _ _ (HIS.out _ HC0.out)) ?_)
          | (go_at_call 37; refine to25 (disk_Sync.bad _ _ (HIS.out _ HC0.out)) ?_)
          | (go_at_call 41; refine to25 (disk_Size.bad _ _ (HIS.out _ HC0.out)) ?_)
          | (go_at_call 40; refine to25 (disk_Pending.bad _ _ (HIS.out _ HC0.out)) ?_))
        refine (disk_Spoil.bad _ _ (fun w1 hf => HIS.out w1 (HC0.out.trans hf))).mono ?_
        rintro e w7 ⟨rfl, hf7⟩
        have HF7 := Aside0.mk (HC0.out.trans hf7)
        clear hf7
        go_wp2_with (first
          | (go_at_call 42; refine to25 (disk_World.bad _ _ (HIS.out _ HF7.out)) ?_))
        go_roundg k2
        case measure => exact Nat.lt_succ_self _
        case rel => exact ⟨2, rfl, ⟨by have := HK.out; omega⟩, ⟨by omega⟩, ⟨HP0.out.trans HF7.out⟩⟩)
end Go.Proofs.Ytbkpcepnhjnpgaa.X
