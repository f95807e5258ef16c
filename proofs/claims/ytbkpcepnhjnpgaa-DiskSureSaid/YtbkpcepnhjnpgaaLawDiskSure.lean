/- The contract of firkinlaw25.DiskSure. -/
import Derived.Test.YtbkpcepnhjnpgaaDiskV
import Derived.Test.YtbkpcepnhjnpgaaDiskP
import Derived.Test.YtbkpcepnhjnpgaaPlan
import Derived.Deep.CutBlock
import Derived.StillTailTactics
namespace Go.Proofs.Ytbkpcepnhjnpgaa.X
open Go.RowKit Go.Maps Go.Proofs.YtbkpcepnhjnpgaaW.PrintWords Go.Proofs.YtbkpcepnhjnpgaaW.PrintLast Go.Proofs.YtbkpcepnhjnpgaaW.PrintMore
set_option linter.unusedVariables false
set_option linter.unusedSimpArgs false
def firkinlaw25_DiskSure.f (a0 : Int) (l1 l2 : List Int) : Option Bool := some true
def halfL (x y : Int) : List Int := List.replicate 32 x ++ List.replicate 32 y
theorem half_len (x y : Int) : (halfL x y).length = 64 := by unfold halfL; simp
theorem half_full (c : Int) : full c = halfL c c := by unfold full halfL; rw [List.replicate_append_replicate]
theorem half_get (x y : Int) (i : Nat) (hi : i < 64) : (halfL x y).getD i 0 = if i < 32 then x else y := by
  unfold halfL
  rw [List.getD_eq_getElem?_getD]
  by_cases h : i < 32
  · rw [if_pos h, List.getElem?_append_left (by simpa using h), List.getElem?_replicate, if_pos h]; rfl
  · rw [if_neg h, List.getElem?_append_right (by simp; omega), List.length_replicate]
    rw [List.getElem?_replicate, if_pos (by omega)]; rfl
theorem same_half (x y : Int) (j : Nat) (v : Int) (hv : (if j < 32 then x else y) = v) : (if j / 32 * 32 < 32 then x else y) = v := by
  rw [← hv]
  by_cases h : j < 32
  · rw [if_pos h, if_pos (by omega)]
  · rw [if_neg h, if_neg (by omega)]
theorem wrap_small (x : Int) (h0 : 0 ≤ x) (h1 : x < 1000) : IntKind.i64.wrap x = x := by
  rw [IntKind.wrap_i64]; omega
theorem wrap_half (j : Nat) (hj : j < 64) : IntKind.i64.wrap (IntKind.i64.wrap ((j : Int) / 32) * 32) = ((j / 32 * 32 : Nat) : Int) := by
  have h1 : IntKind.i64.wrap ((j : Int) / 32) = ((j / 32 : Nat) : Int) := wrap_small _ (by omega) (by omega)
  rw [h1, wrap_small _ (by omega) (by omega)]
  omega
/-- What waits of one sector. -/
def lastW (last : Int) : Nat → Option (List Int) := fun k => if k = 1 then some (full last) else none
structure SureI (a last : Int) (d : DS) : Prop where
  n : d.n = 3
  sure : d.sure 1 = full a
  wait : (d.wait = (fun _ => none) ∧ last = a) ∨ d.wait = lastW last
theorem SureI.put {a last : Int} {d : DS} (h : SureI a last d) (x : Int) : SureI a x (putD d 1 (full x)) := by
  refine ⟨h.n, h.sure, .inr ?_⟩
  funext k
  show putW d.wait 1 (full x) k = lastW x k
  unfold putW lastW
  by_cases hk : k = 1
  · rw [if_pos hk, if_pos hk]
  · rw [if_neg hk, if_neg hk]
    rcases h.wait with ⟨h1, _⟩ | h1
    · rw [h1]
    · rw [h1]; unfold lastW; rw [if_neg hk]
theorem SureI.crash {a last : Int} {d : DS} (h : SureI a last d) (keep : List Int) : ∃ x y, (x = a ∨ x = last) ∧ (y = a ∨ y = last) ∧ (crashD d keep).sure 1 = halfL x y := by
  rcases h.wait with ⟨h1, h2⟩ | h1
  · have hp := pend_none d h1
    refine ⟨a, a, .inl rfl, .inl rfl, ?_⟩
    unfold crashD
    rw [hp]
    show d.sure 1 = _
    rw [h.sure, half_full]
  · have hp : pendN d = [1] := by
      unfold pendN
      rw [h1, h.n]
      rfl
    have hs : (crashD d keep).sure 1 = howS (keep.getD 0 0) (full a) (full last) := by
      unfold crashD
      rw [hp]
      show setS d.sure ((pendN d).getD 0 0) (howS (keep.getD 0 0) (d.sure ((pendN d).getD 0 0)) ((d.wait ((pendN d).getD 0 0)).getD [])) 1 = _
      rw [hp]
      show setS d.sure 1 (howS (keep.getD 0 0) (d.sure 1) ((d.wait 1).getD [])) 1 = _
      rw [h.sure, h1]
      rfl
    rw [hs]
    generalize keep.getD 0 0 = how
    have t1 : ∀ c : Int, (full c).take 32 = List.replicate 32 c := fun c => by unfold full; rw [List.take_replicate]; rfl
    have t2 : ∀ c : Int, (full c).drop 32 = List.replicate 32 c := fun c => by unfold full; rw [List.drop_replicate]
    unfold howS
    by_cases g1 : how = 1
    · rw [if_pos g1]; exact ⟨last, last, .inr rfl, .inr rfl, half_full _⟩
    by_cases g2 : how = 2
    · rw [if_neg g1, if_pos g2]
      refine ⟨last, a, .inr rfl, .inl rfl, ?_⟩
      unfold laidAt
      rw [t1, List.length_replicate, Nat.zero_add, t2]; rfl
    by_cases g3 : how = 3
    · rw [if_neg g1, if_neg g2, if_pos g3]
      refine ⟨a, last, .inl rfl, .inr rfl, ?_⟩
      unfold laidAt
      rw [t2, t1, List.length_replicate, List.drop_of_length_le (by rw [full_len]; omega), List.append_nil]; rfl
    · rw [if_neg g1, if_neg g2, if_neg g3]; exact ⟨a, a, .inl rfl, .inl rfl, half_full _⟩
theorem SureI.none {a last : Int} {d : DS} (keep : List Int) : pendN (crashD d keep) = [] := pend_none _ rfl
theorem cell_frx {w w' : World} {P : Nat → Prop} {p : Addr} {v : Value} (hf : Fr P w w') (h : w.cell? p = some v) (hp : P p.block) : w'.cell? p = some v := by
  rw [← h]
  exact World.cell?_of_block (w := w) (hf.block _ (World.block_lt_of_cell? _ _ h) hp)
theorem C_frx {k : IntKind} {P : Nat → Prop} {a b : World} {A : Option Addr} {n : Nat} {xs : List Int} (h : (Kd.int k).C a A n xs) (hf : Fr P a b) (hp : ∀ k, k < a.heap.size → P k) : (Kd.int k).C b A n xs := by
  obtain ⟨h1, h2, h3⟩ := h
  refine ⟨h1, h2, fun hn => ?_⟩
  obtain ⟨ad, ea, hc⟩ := h3 hn
  refine ⟨ad, ea, fun j p hj => ?_⟩
  obtain ⟨cs, hl, hk, hu⟩ := hc j p hj
  refine ⟨cs, hl, hk, fun i u hi => ?_⟩
  have h5 := hu i u hi
  have hlt := World.block_lt_of_cell? _ _ h5
  exact cell_frx hf h5 (hp _ hlt)
theorem C_blk {k : IntKind} {w : World} {A : Option Addr} {n : Nat} {xs : List Int} (h : (Kd.int k).C w A n xs) (h1 : 0 < n) : ∀ ad, A = some ad → ad.block < w.heap.size := by
  obtain ⟨_, h2⟩ := C_at h
  obtain ⟨ad, e, hc⟩ := h2 0 (by omega)
  intro ad2 e2
  rw [e] at e2
  injection e2 with e2
  subst e2
  have hlt := World.block_lt_of_cell? _ _ hc
  rwa [show (ad.add 0).block = ad.block by unfold Addr.add; split <;> rfl] at hlt
set_option maxHeartbeats 16000000 in
set_option maxRecDepth 100000 in
theorem firkinlaw25_DiskSure.calls (a0 : Int) (A1 : Option Addr) (c1 : Nat) (l1 : List Int) (A2 : Option Addr) (c2 : Nat) (l2 : List Int) (r : Bool) (w : World) (hr1 : Kd.C (Kd.int .u8) w A1 l1.length l1) (hc1 : l1.length ≤ c1) (hr2 : Kd.C (Kd.int .i64) w A2 l2.length l2) (hc2 : l2.length ≤ c2) (h : firkinlaw25_DiskSure.f a0 l1 l2 = some r) :
    Calls Try.prog 6 #[.int .u8 a0, .slice A1 l1.length c1, .slice A2 l2.length c2] w fun e w' => e = .returned (.bool r) ∧ Below w.heap.size w w' := by
  obtain rfl : true = r := Option.some.inj h
  clear h
  have HR1 := Aside0.mk hr1
  have HR2 := Aside0.mk hr2
  have HC2 := Aside0.mk hc2
  have HFL := Aside0.mk full_calls
  have hm1 := Kd.C_max hr1
  have hm2 := Kd.C_max hr2
  clear hr1 hr2 hc2
  obtain ⟨b1, hb1⟩ : ∃ b_ : Bool, decide ((20 : Int) < (l1.length : Int)) = b_ := ⟨_, rfl⟩
  obtain ⟨b2, hb2⟩ : ∃ b_ : Bool, decide ((20 : Int) < (l2.length : Int)) = b_ := ⟨_, rfl⟩
  by_cases hl : (b1 || b2) = true
  · cases b1 <;> cases b2 <;> first
      | (exact absurd hl (by decide))
      | (clear hl
         go_enter Try.func6, Try.ntmps6
         go_wp2_with fail
         refine (firkinlaw25_live.calls _).mono ?_
         rintro e w1 ⟨rfl, hf1⟩
         have HF1 := Aside0.mk hf1
         clear hf1
         go_wp2_with fail
         go_ret
         exact ⟨rfl, HF1.out.below (fun k hk => hk) (Nat.le_refl _)⟩)
  obtain ⟨rfl, rfl⟩ : b1 = false ∧ b2 = false := by cases b1 <;> cases b2 <;> simp_all
  have HL1 := Aside0.mk (show l1.length ≤ 20 by have := of_decide_eq_false hb1; omega)
  have HL2 := Aside0.mk (show l2.length ≤ 20 by have := of_decide_eq_false hb2; omega)
  clear hl
  obtain ⟨n1, hn1⟩ : ∃ n, l1.length = n := ⟨_, rfl⟩
  have HN1 := Aside0.mk hn1
  rw [hn1] at HR1 HL1 hb1 hm1 ⊢
  clear hn1 hc1
  go_enter Try.func6, Try.ntmps6
  go_wp2_with fail
  refine (world_New.calls w).mono ?_
  rintro e w1 ⟨rfl, hw1, _, hf1, hs1⟩
  have HW1 := Aside0.mk hw1
  have HF1 := Aside0.mk (hf1.mono (Q := fun _ => True) (fun _ _ _ => trivial))
  clear hw1 hf1 hs1
  go_wp2_with fail
  refine (disk_New.dw (n0 := w.heap.size) (n := 3) HW1.out (by omega) HF1.out.size (by omega) (by omega)).mono ?_
  rintro e w2 ⟨b, d, rfl, hd, hq, hf2⟩
  have HD2 := Aside0.mk hd
  have HQ := Aside0.mk hq
  have HF2 := Aside0.mk (HF1.out.trans hf2)
  have HNW := Aside0.mk hd.new
  clear hd hf2 hq
  go_wp2_with (first
    | (go_at_call 34; refine to25 (num25_same _ _) ?_))
  refine (HFL.out a0 w2).mono ?_
  rintro e w3 ⟨A3, c3, rfl, h3, hc3, hn3, hf3⟩
  have HF3 := Aside0.mk (HF2.out.trans hf3)
  have HC3 := Aside0.mk h3
  have HD3 := Aside0.mk (HD2.out.kept hf3)
  have HN3 := Aside0.mk (And.intro hc3 hn3)
  clear hf3 h3 hc3 hn3
  go_wp2_with fail
  have HP := disk_Write.dw (i := 1) HD3.out (by rw [HQ.out.1]; omega) HC3.out HN3.out.1 (by rw [HQ.out.2.2.2]; omega) (fun ad e => by have h1 := HN3.out.2 ad e; have h2 := HD2.out.lt.1; omega)
  refine HP.mono ?_
  clear HP
  rintro e w4 ⟨rfl, hd4, hf4⟩
  have HD4 := Aside0.mk hd4
  have HF4 := Aside0.mk ((HF3.out.mono (fun _ _ _ => trivial)).step hf4 (fun k hk (h : k < w.heap.size) => by have := HNW.out; constructor <;> omega))
  clear hd4 hf4
  go_wp2_with (first
    | (go_at_call 34; refine to25 (num25_same _ _) ?_))
  refine (disk_Sync.dw HD4.out).mono ?_
  rintro e w5 ⟨rfl, hd5, hf5⟩
  rw [sync_put d 1 (full a0) HQ.out.2.2.1] at hd5
  have HD5 := Aside0.mk hd5
  have HF5 := Aside0.mk (HF4.out.step hf5 (fun k hk (h : k < w.heap.size) => by have := HNW.out; refine ⟨?_, ?_, ?_⟩ <;> (first | (show k ≠ d.bw; omega) | (show k ≠ d.bm; omega) | (show k ≠ d.bs; omega))))
  have HS5 := Aside0.mk (show SureI a0 a0 (sureD d 1 (full a0)) from ⟨HQ.out.1, by show setS d.sure 1 (full a0) 1 = _; unfold setS; rw [if_pos rfl], .inl ⟨rfl, rfl⟩⟩)
  clear hd5 hf5
  go_wp2_with (first
    | (go_at_call 34; refine to25 (num25_same _ _) ?_))
  go_loopg [9, 10] (n1 + 1) (fun kq v9 v10 wr => ∃ (i : Nat) (last : Int) (d' : DS), v9 = .int .u8 last ∧ v10 = .int .i64 (i : Int) ∧ Aside0 (kq + i = n1 + 1) ∧ Aside0 (i ≤ n1) ∧ Aside0 (DW w.heap.size wr b d') ∧ Aside0 (SureI a0 last d' ∧ d'.cnt ≤ i) ∧ Aside0 (Fr (fun k => k < w.heap.size) w wr))
  case atStart => exact ⟨0, a0, _, rfl, rfl, ⟨by omega⟩, ⟨by omega⟩, HD5, ⟨HS5.out, Nat.le_refl _⟩, HF5⟩
  case round =>
    obtain ⟨i, last, dl, rfl, rfl, HK, HI, HDL, HSL, HFR⟩ := hrel
    cases gk with
    | zero => have h1 := HK.out; have h2 := HI.out; omega
    | succ k2 =>
    by_cases hi : i < n1
    · have d1 : decide ((i : Int) < (n1 : Int)) = true := decide_eq_true (by omega)
      have d1b : decide (i < n1) = true := decide_eq_true hi
      have hi0 : (0 : Int) ≤ (i : Int) := Int.natCast_nonneg _
      have hi1 : (i : Int) < (n1 : Int) := by omega
      obtain ⟨adk, eK, hq0⟩ := Kd.at_int (C_frx HR1.out HFR.out (fun _ h => h)) (i : Int) hi0 (by have := HN1.out; omega)
      rw [Int.toNat_natCast] at hq0
      obtain ⟨x, hx⟩ : ∃ x, rd l1 (i : Int) = x := ⟨_, rfl⟩
      rw [hx] at hq0
      subst eK
      have HW := Aside0.mk (show wrap64 ((i : Int) + 1) = ((i + 1 : Nat) : Int) by have := HL1.out; unfold wrap64; omega)
      have HILT := Aside0.mk hi
      clear hx hi
      go_wp2_with fail
      refine (HFL.out x wr).mono ?_
      rintro e w6 ⟨A6, c6, rfl, h6, hc6, hn6, hf6⟩
      have HF6 := Aside0.mk (HFR.out.step hf6 (fun k hk h => trivial))
      have HC6 := Aside0.mk h6
      have HD6 := Aside0.mk (HDL.out.kept hf6)
      have HN6 := Aside0.mk (And.intro hc6 hn6)
      clear hf6 h6 hc6 hn6 hq0
      go_wp2_with fail
      have HP := disk_Write.dw (i := 1) HD6.out (by rw [HSL.out.1.n]; omega) HC6.out HN6.out.1 (by have := HSL.out.2; have := HL1.out; have := HI.out; omega) (fun ad e => by have h1 := HN6.out.2 ad e; have h2 := HDL.out.lt.1; omega)
      refine HP.mono ?_
      clear HP
      rintro e w7 ⟨rfl, hd7, hf7⟩
      have HD7 := Aside0.mk hd7
      have HF7 := Aside0.mk (HF6.out.step hf7 (fun k hk (h : k < w.heap.size) => by have := HD6.out.new; constructor <;> omega))
      clear hd7 hf7
      go_wp2_with fail
      go_roundg k2
      case measure => exact Nat.lt_succ_self _
      case rel => exact ⟨i + 1, x, _, rfl, rfl, ⟨by have := HK.out; omega⟩, ⟨HILT.out⟩, HD7, ⟨HSL.out.1.put x, by show dl.cnt + 1 ≤ i + 1; have := HSL.out.2; omega⟩, HF7⟩
    · have d1 : decide ((i : Int) < (n1 : Int)) = false := decide_eq_false (by omega)
      have d1b : decide (i < n1) = false := decide_eq_false hi
      clear hi
      obtain ⟨x, y, hx, hy, hsc⟩ := HSL.out.1.crash l2
      have HXY := Aside0.mk (And.intro hx hy)
      have HSC := Aside0.mk hsc
      clear hx hy hsc
      go_wp2_with fail
      refine (disk_Crash.dw HDL.out (C_frx HR2.out HFR.out (fun _ h => h)) HC2.out (fun h0 ad e => by have h1 := C_blk HR2.out h0 ad e; have h2 := HDL.out.new; omega)).mono ?_
      rintro e w6 ⟨rfl, hd6, hf6⟩
      have HD6 := Aside0.mk hd6
      have HF6 := Aside0.mk (HFR.out.step hf6 (fun k hk (h : k < w.heap.size) => by have := HDL.out.new; constructor <;> omega))
      clear hd6 hf6
      go_wp2_with fail
      refine (disk_Read.dw (i := 1) HD6.out (by show 1 < dl.n; rw [HSL.out.1.n]; omega) rfl).mono ?_
      rintro e w7 ⟨A7, rfl, h7, _, hf7⟩
      rw [HSC.out] at h7
      have HR7 := Aside0.mk h7
      have HD7 := Aside0.mk (HD6.out.kept hf7)
      have HF7 := Aside0.mk (HF6.out.step hf7 (fun k hk h => trivial))
      clear h7 hf7
      go_wp2_with (first
        | (go_at_call 34; refine to25 (num25_same _ _) ?_))
      refine (disk_Pending.calls b (crashD dl l2) w7 HD7.out.isD (by show 0 < 1000000; omega)).mono ?_
      rintro e w8 ⟨v8, rfl, hr8, hf8⟩
      rw [show pendI (crashD dl l2) = [] by unfold pendI; rw [SureI.none (a := a0) (last := last) (d := dl) l2]; rfl] at hr8
      obtain ⟨Ap, cp, rfl, hcp, _⟩ := Kd.R_reads hr8
      simp only [List.length_nil]
      have HR8 := Aside0.mk (C_fr HR7.out hf8 (fun _ _ => trivial))
      have HF8 := Aside0.mk (HF7.out.step hf8 (fun k hk h => trivial))
      clear hr8 hf8 hcp
      go_wp2_with fail
      go_loopg [13] 65 (fun kq v13 wz => ∃ (j : Nat), v13 = .int .i64 (j : Int) ∧ Aside0 (kq + j = 65) ∧ Aside0 (j ≤ 64) ∧ Aside0 (Fr (fun _ => True) w8 wz))
      case atStart => exact ⟨0, rfl, ⟨by omega⟩, ⟨by omega⟩, ⟨Fr.refl _ _⟩⟩
      case round =>
        obtain ⟨j, rfl, HKJ, HJ, HFZ⟩ := hrel
        cases gk with
        | zero => have h1 := HKJ.out; have h2 := HJ.out; omega
        | succ k3 =>
        by_cases hj : j < 64
        · have q1 : decide ((j : Int) < 64) = true := decide_eq_true (by omega)
          have q1b : decide (j < 64) = true := decide_eq_true hj
          have hi0 : (0 : Int) ≤ (j : Int) := Int.natCast_nonneg _
          have hi1 : (j : Int) < 64 := by omega
          obtain ⟨v, hv⟩ : ∃ v, (if j < 32 then x else y) = v := ⟨_, rfl⟩
          have HV := Aside0.mk (show v = a0 ∨ v = last by rw [← hv]; by_cases h : j < 32 <;> simp only [h, if_true, if_false] <;> first | exact HXY.out.1 | exact HXY.out.2)
          have HC9 := Aside0.mk (C_fr HR8.out HFZ.out.drew (fun _ _ => trivial))
          obtain ⟨ad, eA, hcj⟩ := (C_at HC9.out).2 j hj
          obtain ⟨ad2, eA2, hcp⟩ := (C_at HC9.out).2 (j / 32 * 32) (by omega)
          obtain rfl : ad = ad2 := by rw [eA] at eA2; injection eA2
          subst eA
          rw [half_get x y j hj, hv] at hcj
          rw [half_get x y _ (by omega), same_half x y j v hv] at hcp
          have HSX := Aside0.mk (And.intro hcj hcp)
          have HLT := Aside0.mk hj
          have hvo := @valOf_ok
          have hqw : IntKind.i64.wrap (IntKind.i64.wrap ((j : Int) / 32) * 32) = ((j / 32 * 32 : Nat) : Int) := wrap_half j hj
          have hp1 : ((j / 32 * 32 : Nat) : Int) < 64 := by omega
          have hp0 : (0 : Int) ≤ ((j / 32 * 32 : Nat) : Int) := Int.natCast_nonneg _
          generalize j / 32 * 32 = p at hqw hp0 hp1 HSX hcp
          clear hv hj hcj hcp
          by_cases hva : v = a0
          case' pos => subst hva
          case' neg =>
            obtain rfl : v = last := HV.out.resolve_left hva
            have hn1 : (v == a0) = false := by simpa using hva
            have hn2 : (v != a0) = true := by simpa using hva
          all_goals (
            go_wp2_with fail
            refine wp_region_plan 26 (List.range 26) [26] (fun w9 => w9.cell? (ad.add j) = some (.int .u8 v) ∧ w9.cell? (ad.add p) = some (.int .u8 v)) (by kernel_rfl) (by kernel_rfl) (fun _ _ d _ _ h => by cases d <;> exact h) HSX.out ?_
            have HEX : ∃ w' : World, (fun w9 : World => w9.cell? (ad.add j) = some (.int .u8 v) ∧ w9.cell? (ad.add p) = some (.int .u8 v)) w' := ⟨_, HSX.out⟩
            rw [show List.range 26 = [0, 1, 2, 3, 4, 5, 6, 7, 8, 9, 10, 11, 12, 13, 14, 15, 16, 17, 18, 19, 20, 21, 22, 23, 24, 25] from rfl]
            simp only [List.map_cons, List.map_nil, List.getD_cons_zero, List.getD_cons_succ]
            repeat (apply held_step HEX; (case h => intro w9 hS J hJ; have hy1 := hS.1; have hy2 := hS.2; clear hS; go_simp; exact hJ))
            refine held_nil ?_
            refine post_step (fun K hK => ?_)
            have HK9 := Aside0.mk hK
            clear hK
            go_wp2_with fail
            refine HK9.out _ _ (fun h => absurd h (by omega)) ?_
            clear HK9
            refine post_nil ?_
            go_wp2_with fail
            go_roundg k3
            case measure => exact Nat.lt_succ_self _
            case rel => exact ⟨j + 1, rfl, ⟨by have := HKJ.out; omega⟩, ⟨HLT.out⟩, ⟨HFZ.out.drew⟩⟩)
        · have q1 : decide ((j : Int) < 64) = false := decide_eq_false (by omega)
          have q1b : decide (j < 64) = false := decide_eq_false hj
          clear hj
          go_wp2_with fail
          refine (firkinlaw25_live.calls _).mono ?_
          rintro e w9 ⟨rfl, hf9⟩
          have HF9 := Aside0.mk ((HF8.out.step HFZ.out (fun _ _ _ => trivial)).step hf9 (fun k hk (h : k < w.heap.size) => by have h1 := HF8.out.size; have h2 := HFZ.out.size; omega))
          clear hf9
          go_wp2_with fail
          go_ret
          exact ⟨rfl, HF9.out.below (fun k hk => hk) (Nat.le_refl _)⟩
end Go.Proofs.Ytbkpcepnhjnpgaa.X
