/- The contract of firkinref26.sorted: each number once, rising, none below 0. -/
import Derived.Test.YtbepdhndnhoelaaX0
import Derived.Test.YtbepdhndnhoelaaMem2
import Derived.Lib.Hide
import Derived.Deep.RegionHeld3
namespace Go.Proofs.Ytbepdhndnhoelaa.X
open Go.RowKit Go.Proofs.YtbepdhndnhoelaaW.PrintWords Go.Proofs.YtbepdhndnhoelaaW.PrintLast Go.Proofs.YtbepdhndnhoelaaW.PrintMore
set_option linter.unusedVariables false
set_option linter.unusedSimpArgs false
/-- How many stand ahead of x. -/
def insPos : List Int → Int → Nat
  | [], _ => 0
  | y :: t, x => if y < x then insPos t x + 1 else 0
theorem insPos_is : ∀ (l : List Int) (x : Int) (j : Nat), j ≤ l.length → (∀ m, m < j → rd l (m : Int) < x) → (j = l.length ∨ ¬ rd l (j : Int) < x) → insPos l x = j
  | [], x, j, hj, _, _ => by simp at hj; subst hj; rfl
  | y :: t, x, 0, hj, _, h2 => by
    rw [insPos, if_neg]
    rcases h2 with h2 | h2
    · simp at h2
    · simpa [rd] using h2
  | y :: t, x, j + 1, hj, h1, h2 => by
    have h0 : y < x := by simpa [rd] using h1 0 (by omega)
    rw [insPos, if_pos h0, insPos_is t x j (by simpa using hj) (fun m hm => by simpa [rd] using h1 (m + 1) (by omega)) ?_]
    rcases h2 with h2 | h2
    · left; simpa using h2
    · right; simpa [rd] using h2
def insS (out : List Int) (x : Int) : List Int :=
  if 0 ≤ x ∧ (insPos out x = out.length ∨ rd out (insPos out x : Int) ≠ x) then (out.take (insPos out x) ++ [x]) ++ out.drop (insPos out x) else out
theorem insS_len (out : List Int) (x : Int) : (insS out x).length ≤ out.length + 1 := by
  unfold insS; split
  · simp only [List.length_append, List.length_take, List.length_drop, List.length_singleton]; omega
  · omega
theorem foldl_insS_len : ∀ (l out : List Int), (l.foldl insS out).length ≤ out.length + l.length
  | [], out => by simp
  | x :: l, out => by
    rw [List.foldl_cons, List.length_cons]
    have := foldl_insS_len l (insS out x)
    have := insS_len out x
    omega
def firkinref26_sorted.f (l0 : List Int) : Option (List Int) := if l0.length < 100000 then some (l0.foldl insS []) else none
theorem lit0 (V : World) (base g : Nat) (hg : g = V.heap.size) (hb : base ≤ V.heap.size) : Kd.R (Kd.int .i64) 3 (V.alloc (.cells #[] 3)) base (fun _ => True) (.slice (some ⟨g, 0, none⟩) 0 0) ([] : List Int) := by
  subst hg
  refine ⟨fun _ _ => trivial, [], ?_, Reps.none _ _⟩
  have h2 := World.ownsRow_lit (base := base) (e := 3) (size := (Kd.int .i64).sz) V #[] 0 hb (by decide) (by simp)
  simpa using h2
theorem lit1 (V : World) (base g : Nat) (x : Int) (hg : g = V.heap.size) (hb : base ≤ V.heap.size) : Kd.R (Kd.int .i64) 3 (V.alloc (.cells #[.int .i64 x] 3)) base (fun _ => True) (.slice (some ⟨g, 0, none⟩) 1 1) [x] := by
  subst hg
  refine ⟨fun _ _ => trivial, [.int .i64 x], ?_, ?_⟩
  · have h2 := World.ownsRow_lit (base := base) (e := 3) (size := (Kd.int .i64).sz) V #[.int .i64 x] 1 hb (by decide) rfl
    simpa using h2
  · exact Reps.one (show Kd.M (Kd.int .i64) _ _ _ x [.int .i64 x] from rfl) (Reps.none _ _)
set_option maxHeartbeats 8000000 in
set_option maxRecDepth 100000 in
theorem firkinref26_sorted.calls (A0 : Option Addr) (c0 : Nat) (l0 : List Int) (r : List Int) (w : World) (hr0 : Kd.C (Kd.int .i64) w A0 l0.length l0) (hc0 : l0.length ≤ c0) (h : firkinref26_sorted.f l0 = some r) :
    Calls Try.prog 25 #[.slice A0 l0.length c0] w fun e w' => ∃ v0_ : Value, e = .returned v0_ ∧ Kd.R (Kd.int .i64) 3 w' w.heap.size (fun _ => True) v0_ r ∧ Below w.heap.size w w' := by
  unfold firkinref26_sorted.f at h
  by_cases hf : l0.length < 100000
  case neg => rw [if_neg hf] at h; cases h
  rw [if_pos hf] at h
  obtain rfl := Option.some.inj h
  clear h
  have HR0 := Aside0.mk hr0
  have HF := Aside0.mk hf
  clear hr0
  go_enter Try.func25, Try.ntmps25
  go_wp2_with ((with_reducible refine gate_dst (N := 6) rfl ?_); refine Kd.R_lit (Kd.int .i64) _ 3 ?hg (N := 6) ?hd (xs := ([] : List Int)) (inner := []) (ok := fun _ => True) (okp := fun _ => True) ?hr ?hp (fun _ hk => hk) trivial (Below.refl _ _) (Nat.le_refl _) (by simp) ?_; (case hd => rfl); (case hg => rfl); (case hr => first | (go_simp; done) | (go_simp; rfl)); (case hp => exact (Reps.none _ _)); intro v3 w2 ho3 hb hg_ hnew_; clear hg_ hnew_; have HO := Aside0.mk ho3; have HB := Aside0.mk hb; clear ho3 hb)
  go_loopg [3, 4] (l0.length + 1) (fun kq v3 v4 w' => ∃ (i : Nat) (out : List Int), v4 = .int .i64 (i : Int) ∧ Aside0 (kq + i = l0.length + 1) ∧ Aside0 (i ≤ l0.length) ∧ Aside0 (out = (l0.take i).foldl insS []) ∧ Aside0 (Kd.R (Kd.int .i64) 3 w' w.heap.size (fun _ => True) v3 out) ∧ Aside0 (Below w.heap.size w w'))
  case atStart => exact ⟨0, [], rfl, ⟨by omega⟩, ⟨by omega⟩, ⟨rfl⟩, HO, HB⟩
  case round =>
    clear HO HB
    obtain ⟨i, out, rfl, HK, HI, HE, HO, HB⟩ := hrel
    cases gk with
    | zero => have h1 := HK.out; have h2 := HI.out; omega
    | succ k2 =>
    by_cases hi : i < l0.length
    · have c1 : decide ((i : Int) < (l0.length : Int)) = true := decide_eq_true (by omega)
      have c1b : decide (i < l0.length) = true := decide_eq_true hi
      have HIL := Aside0.mk hi
      obtain ⟨x, hx⟩ : ∃ x, x = rd l0 (i : Int) := ⟨_, rfl⟩
      obtain ⟨ad0, e0, hx0⟩ := Kd.at_int HR0.out (i : Int) (by omega) (by omega)
      subst e0
      rw [← hx] at hx0
      rw [Int.toNat_natCast] at hx0
      have HX := Aside0.mk hx
      have HX0 := Aside0.mk hx0
      have hlen : out.length ≤ i := by have h1 := HE.out; have h2 := foldl_insS_len (l0.take i) []; rw [← h1, List.length_take] at h2; simp at h2; omega
      have HL := Aside0.mk hlen
      have HWI := Lib.hid (show wrap64 ((i : Int) + 1) = ((i + 1 : Nat) : Int) by unfold wrap64; omega)
      have HSTEP : Aside0 (insS out x = (l0.take (i + 1)).foldl insS []) := ⟨by
        have e1 : l0.take (i + 1) = l0.take i ++ [l0[i]] := by rw [List.take_succ_eq_append_getElem hi]
        have e2 : rd l0 (i : Int) = l0[i] := by unfold rd; simp [hi]
        rw [e1, List.foldl_append, ← HE.out, List.foldl_cons, List.foldl_nil, hx, e2]⟩
      obtain ⟨Ao, co, eo⟩ := Kd.R_slice HO.out
      subst eo
      clear hi hx hlen hx0
      go_wp2_with fail
      go_loopg [5] (out.length + 1) (fun kq v5 w' => ∃ (j : Nat), v5 = .int .i64 (j : Int) ∧ Aside0 (kq + j = out.length + 1) ∧ Aside0 (j ≤ out.length) ∧ Aside0 (∀ m, m < j → rd out (m : Int) < x) ∧ Aside0 (Kd.R (Kd.int .i64) 3 w' w.heap.size (fun _ => True) (.slice Ao out.length co) out) ∧ Aside0 (Below w.heap.size w w'))
      case atStart => exact ⟨0, rfl, ⟨by omega⟩, ⟨by omega⟩, ⟨fun m hm => absurd hm (by omega)⟩, HO, HB⟩
      case round =>
        clear HO HB
        obtain ⟨j, rfl, HKJ, HJ, HP, HO, HB⟩ := hrel
        cases gk with
        | zero => have h1 := HKJ.out; have h2 := HJ.out; omega
        | succ k3 =>
        have hw0 : w.cell? (ad0.add i) = some (.int .i64 x) := HX0.out
        have hx0 := (HB.out.cell (World.block_lt_of_cell? w _ hw0)).trans hw0
        clear hw0
        have hil : i < l0.length := HIL.out
        have hii : (i : Int) < (l0.length : Int) := by omega
        have hi0 : (0 : Int) ≤ (i : Int) := by omega
        have hj0 : (0 : Int) ≤ (j : Int) := by omega
        by_cases hj : j < out.length
        · have hjj : (j : Int) < (out.length : Int) := by omega
          have c2 : decide ((j : Int) < (out.length : Int)) = true := decide_eq_true hjj
          have c2b : decide (j < out.length) = true := decide_eq_true hj
          obtain ⟨y, hy⟩ : ∃ y, y = rd out (j : Int) := ⟨_, rfl⟩
          obtain ⟨ad, ea, hy0⟩ := Kd.at_int (Kd.R_reads' HO.out).2.2 (j : Int) hj0 hjj
          subst ea
          rw [← hy, Int.toNat_natCast] at hy0
          by_cases hxy : y < x
          · have c3 : decide (y < x) = true := decide_eq_true hxy
            have HY : Aside0 (∀ m, m < j + 1 → rd out (m : Int) < x) := ⟨fun m hm => by
              rcases Nat.lt_or_ge m j with h9 | h9
              · exact HP.out m h9
              · obtain rfl : m = j := by omega
                rw [← hy]; exact hxy⟩
            have HJ2 := Aside0.mk hj
            have HW := Lib.hid (show wrap64 ((j : Int) + 1) = ((j + 1 : Nat) : Int) by have h1 := HL.out; have h2 := HF.out; unfold wrap64; omega)
            clear hxy hj hy HP
            go_wp2
            go_quiet (fail)
            go_wp2
            go_roundg k3
            case measure => omega
            case rel => exact ⟨j + 1, congrArg (Value.int .i64) (by first | exact HW.out | omega), ⟨by have := HKJ.out; omega⟩, ⟨by have := HJ2.out; omega⟩, HY, ⟨by (with_reducible repeat (first | apply Kd.R_alloc | apply Kd.R_drewN | apply Kd.R_drew)); exact HO.out⟩, ⟨by repeat (first | (with_reducible first | exact HB.out | apply below_alloc | apply pw_below_drewN | apply below_drew1) | exact HB.out)⟩⟩
          · have c3 : decide (y < x) = false := decide_eq_false hxy
            have HNE0 : y ≠ x → Aside0 (insPos out x = out.length ∨ rd out (insPos out x : Int) ≠ x) := fun h9 => ⟨Or.inr (by rw [insPos_is out x j HJ.out HP.out (Or.inr (by rw [← hy]; exact hxy)), ← hy]; exact h9)⟩
            have HPOS := Aside0.mk (insPos_is out x j HJ.out HP.out (Or.inr (by rw [← hy]; exact hxy)))
            by_cases hx1 : 0 ≤ x
            · have c4 : decide (x ≥ 0) = true := decide_eq_true hx1
              have c4b : decide (0 ≤ x) = true := decide_eq_true hx1
              have c5 : ((j : Int) == (out.length : Int)) = false := beq_eq_false_iff_ne.mpr (by omega)
              have c5b : (j == out.length) = false := beq_eq_false_iff_ne.mpr (by omega)
              have c5c : decide (j = out.length) = false := decide_eq_false (by omega)
              by_cases hxe : y = x
              · have c6 : (y != x) = false := by rw [hxe]; simp
                have HSK : Aside0 (insS out x = out) := ⟨by unfold insS; rw [if_neg]; rw [HPOS.out, ← hy]; rintro ⟨_, h9 | h9⟩; omega; exact h9 hxe⟩
                clear HNE0
                clear hxy hj hy HP hx1 hxe
                go_wp2
                go_quiet (fail)
                go_wp2
                go_quiet (fail)
                go_wp2
                go_roundg k2
                case measure => omega
                case rel => exact ⟨i + 1, out, congrArg (Value.int .i64) (by first | exact HWI.out | omega), ⟨by have := HK.out; omega⟩, ⟨by have := HIL.out; omega⟩, ⟨HSK.out.symm.trans HSTEP.out⟩, ⟨by (with_reducible repeat (first | apply Kd.R_alloc | apply Kd.R_drewN | apply Kd.R_drew)); exact HO.out⟩, ⟨by repeat (first | (with_reducible first | exact HB.out | apply below_alloc | apply pw_below_drewN | apply below_drew1) | exact HB.out)⟩⟩
              · have c6 : (y != x) = true := by rw [bne_iff_ne]; exact hxe
                have HNE := HNE0 hxe
                have HX1 := Aside0.mk hx1
                clear HNE0
                clear hxy hj hy HP hx1 hxe
                go_wp2
                go_quiet (fail)
                go_wp2
                go_quiet (fail)
                go_wp2
                generalize hW0 : World.drewN _ _ = W0
                have HOW : Aside0 (Kd.R (Kd.int .i64) 3 W0 w.heap.size (fun _ => True) (.slice (some ad) out.length co) out) := ⟨by rw [← hW0]; (with_reducible repeat (first | apply Kd.R_alloc | apply Kd.R_drewN | apply Kd.R_drew)); exact HO.out⟩
                have HBW : Aside0 (Below w.heap.size w W0) := ⟨by rw [← hW0]; repeat (first | (with_reducible first | exact HB.out | apply below_alloc | apply pw_below_drewN | apply below_drew1) | exact HB.out)⟩
                have hxw : W0.cell? (ad0.add i) = some (.int .i64 x) := by rw [← hW0]; simpa using hx0
                have HXW := Aside0.mk hxw
                have HBC := Aside0.mk (Below.refl W0.heap.size W0)
                obtain ⟨i5, hi5, hsz5⟩ : ∃ i, Try.prog.info? 3 = some i ∧ i.size = (Kd.int .i64).sz := by
                  obtain ⟨i, hi, hz⟩ := Option.map_eq_some_iff.1 info3
                  simp only [Prod.mk.injEq] at hz
                  exact ⟨i, hi, hz.2.1⟩
                have hmx := Kd.C_max (Kd.R_reads' HOW.out).2.2
                obtain ⟨A', hcut, hCd, hld, hcd⟩ := Mem.cut_from' (P := Try.prog) (d := Kd.int .i64) 22 3 .i64 Try.underlying22 hi5 hsz5 (m := j) (Kd.R_reads' HOW.out).2.2 HJ.out (Kd.R_reads' HOW.out).2.1
                have hlt0 : (out.take j).length = j := by rw [List.length_take]; have := HJ.out; omega
                have hCt := Kd.C_take (Kd.R_reads' HOW.out).2.2 HJ.out
                rw [hlt0] at hCt
                have HCD := Aside0.mk hCd
                have HLD := Aside0.mk hld
                have HCT := Aside0.mk hCt
                have hjl : (j : Int) ≤ (out.length : Int) := by have := HJ.out; omega
                have hlc : (out.length : Int) ≤ (co : Int) := by have := (Kd.R_reads' HOW.out).2.1; omega
                have hjc : (j : Int) ≤ (co : Int) := by omega
                have hjcb : decide ((j : Int) ≤ (co : Int)) = true := decide_eq_true hjc
                have HLT := Aside0.mk hlt0
                have HRES : Aside0 (insS out x = (out.take j ++ [x]) ++ out.drop j) := ⟨by unfold insS; rw [if_pos ⟨HX1.out, HNE.out⟩, HPOS.out]⟩
                clear hCd hld hCt hi5 hlt0 hx0 HO HB hxw hcd
                go_region_held3 (fun w' => w'.cell? (ad0.add i) = some (.int .i64 x)) (first | exact (Below.cell (B := W0.heap.size) (by first | ((with_reducible repeat (first | exact HBC.out | apply below_alloc | apply below_drew1)); done) | fail) (World.block_lt_of_cell? W0 _ HXW.out)).trans HXW.out)
                  (first
                    | (refine Kd.R_append_rows_step (Kd.int .i64) (w0 := W0) W0.heap.size (by first | (simp [Region.wanted]; done) | fail) (.tmp 52) (.tmp 55) 22 3 (.int .i64 0) 8 rfl Try.underlying22 info3 rfl (by decide) (by omega) (.slice (some ⟨W0.heap.size, 0, none⟩) 0 0) [] (out.take j) (some ad) j co (fun _ => True) (fun _ => False) (by first | (simp [Act.eval, Act.put]; done) | fail) (by first | (simp [Act.eval, Act.put]; done) | fail) (by first | ((with_reducible repeat (first | (with_reducible exact lit0 _ _ _ (by first | rfl | (simp; done) | fail) (by first | exact Nat.le_refl _ | (simp; done) | fail)) | apply Kd.R_drew | apply Kd.R_alloc)); done) | fail) (Kd.C_below HCT.out (by first | ((with_reducible repeat (first | exact HBC.out | apply below_alloc | apply below_drew1)); done) | fail)) (fun _ _ h => h) (fun _ h => h.elim) (fun _ _ => trivial) (by first | ((with_reducible repeat (first | exact HBC.out | apply below_alloc | apply below_drew1)); done) | fail) (below_size (by first | ((with_reducible repeat (first | exact HBC.out | apply below_alloc | apply below_drew1)); done) | fail)) (by have h1 := HLT.out; have h2 := HL.out; have h3 := HF.out; have h4 := HJ.out; have h5 := HI.out; have h6 := HLD.out; simp only [List.nil_append, List.length_append, List.length_singleton, List.length_nil]; omega) ?_; intro v56 w56 ho hb hg hn; have HO56 := Aside0.mk ho; (try (have HO61 := Aside0.mk (Kd.R_grown2 (v := .slice (some ⟨W0.heap.size + 1, 0, none⟩) 1 1) (xs := [x]) (e := 3) (base := W0.heap.size) (ok := fun _ => True) (by first | ((with_reducible repeat (first | (with_reducible exact lit1 _ _ _ _ (by first | rfl | (simp; done) | fail) (by first | exact Nat.le_refl _ | (simp; done) | fail)) | apply Kd.R_drew | apply Kd.R_alloc)); done) | fail) rfl hg (by intro k hk; simp [Value.ownBlock] at hk ⊢; omega)))); clear HBC; have HBC := Aside0.mk hb; clear ho hb hg hn)
                    | (refine Kd.R_append_rows_step (Kd.int .i64) (w0 := W0) W0.heap.size (by first | (simp [Region.wanted]; done) | fail) (.tmp 52) (.tmp 55) 22 3 (.int .i64 0) 8 rfl Try.underlying22 info3 rfl (by decide) (by omega) (.slice (some ⟨W0.heap.size + 1, 0, none⟩) 0 0) [] (out.take j) (some ad) j co (fun _ => True) (fun _ => False) (by first | (simp [Act.eval, Act.put]; done) | fail) (by first | (simp [Act.eval, Act.put]; done) | fail) (by first | ((with_reducible repeat (first | (with_reducible exact lit0 _ _ _ (by first | rfl | (simp; done) | fail) (by first | exact Nat.le_refl _ | (simp; done) | fail)) | apply Kd.R_drew | apply Kd.R_alloc)); done) | fail) (Kd.C_below HCT.out (by first | ((with_reducible repeat (first | exact HBC.out | apply below_alloc | apply below_drew1)); done) | fail)) (fun _ _ h => h) (fun _ h => h.elim) (fun _ _ => trivial) (by first | ((with_reducible repeat (first | exact HBC.out | apply below_alloc | apply below_drew1)); done) | fail) (below_size (by first | ((with_reducible repeat (first | exact HBC.out | apply below_alloc | apply below_drew1)); done) | fail)) (by have h1 := HLT.out; have h2 := HL.out; have h3 := HF.out; have h4 := HJ.out; have h5 := HI.out; have h6 := HLD.out; simp only [List.nil_append, List.length_append, List.length_singleton, List.length_nil]; omega) ?_; intro v56 w56 ho hb hg hn; have HO56 := Aside0.mk ho; (try (have HO61 := Aside0.mk (Kd.R_grown2 (v := .slice (some ⟨W0.heap.size, 0, none⟩) 1 1) (xs := [x]) (e := 3) (base := W0.heap.size) (ok := fun _ => True) (by first | ((with_reducible repeat (first | (with_reducible exact lit1 _ _ _ _ (by first | rfl | (simp; done) | fail) (by first | exact Nat.le_refl _ | (simp; done) | fail)) | apply Kd.R_drew | apply Kd.R_alloc)); done) | fail) rfl hg (by intro k hk; simp [Value.ownBlock] at hk ⊢; omega)))); clear HBC; have HBC := Aside0.mk hb; clear ho hb hg hn)
                    | (refine Kd.R_append_rows_step (Kd.int .i64) (w0 := W0) W0.heap.size (by first | (simp [Region.wanted]; done) | fail) (.tmp 56) (.tmp 61) 22 3 (.int .i64 0) 8 rfl Try.underlying22 info3 rfl (by decide) (by omega) v56 ([] ++ out.take j) [x] (some ⟨w56.heap.size, 0, none⟩) 1 1 (fun _ => True) (fun _ => False) (by first | (simp [Act.eval, Act.put]; done) | fail) (by first | (simp [Act.eval, Act.put]; done) | fail) (by first | ((with_reducible repeat (first | exact HO56.out | apply Kd.R_drew | apply Kd.R_alloc)); done) | fail) (Kd.R_reads' (base := W0.heap.size) (ok := fun _ => True) (by first | ((with_reducible repeat (first | (with_reducible exact lit1 _ _ _ _ (by simp) (by first | exact below_size HBC.out | (simp; exact below_size HBC.out))) | apply Kd.R_drew | apply Kd.R_alloc)); done) | fail)).2.2 (fun _ _ h => h) (fun _ h => h.elim) (fun _ _ => trivial) (by first | ((with_reducible repeat (first | exact HBC.out | apply below_alloc | apply below_drew1)); done) | fail) (below_size (by first | ((with_reducible repeat (first | exact HBC.out | apply below_alloc | apply below_drew1)); done) | fail)) (by have h1 := HLT.out; have h2 := HL.out; have h3 := HF.out; have h4 := HJ.out; have h5 := HI.out; have h6 := HLD.out; simp only [List.nil_append, List.length_append, List.length_singleton, List.length_nil]; omega) ?_; intro v62 w62 ho hb hg hn; have HO62 := Aside0.mk ho; clear HO56; clear HBC; have HBC := Aside0.mk hb; clear ho hb hg hn)
                    | (refine Kd.R_append_rows_step (Kd.int .i64) (w0 := W0) W0.heap.size (by first | (simp [Region.wanted]; done) | fail) (.tmp 56) (.tmp 61) 22 3 (.int .i64 0) 8 rfl Try.underlying22 info3 rfl (by decide) (by omega) v56 ([] ++ out.take j) [x] (some ⟨W0.heap.size + 1, 0, none⟩) 1 1 (fun _ => True) (fun _ => False) (by first | (simp [Act.eval, Act.put]; done) | fail) (by first | (simp [Act.eval, Act.put]; done) | fail) HO56.out (Kd.R_reads' HO61.out).2.2 (fun _ _ h => h) (fun _ h => h.elim) (fun _ _ => trivial) (by first | ((with_reducible repeat (first | exact HBC.out | apply below_alloc | apply below_drew1)); done) | fail) (below_size (by first | ((with_reducible repeat (first | exact HBC.out | apply below_alloc | apply below_drew1)); done) | fail)) (by have h1 := HLT.out; have h2 := HL.out; have h3 := HF.out; have h4 := HJ.out; have h5 := HI.out; have h6 := HLD.out; simp only [List.nil_append, List.length_append, List.length_singleton, List.length_nil]; omega) ?_; intro v62 w62 ho hb hg hn; have HO62 := Aside0.mk ho; clear HO56 HO61; clear HBC; have HBC := Aside0.mk hb; clear ho hb hg hn)
                    | (refine Kd.R_append_rows_step (Kd.int .i64) (w0 := W0) W0.heap.size (by first | (simp [Region.wanted]; done) | fail) (.tmp 56) (.tmp 61) 22 3 (.int .i64 0) 8 rfl Try.underlying22 info3 rfl (by decide) (by omega) v56 ([] ++ out.take j) [x] (some ⟨W0.heap.size, 0, none⟩) 1 1 (fun _ => True) (fun _ => False) (by first | (simp [Act.eval, Act.put]; done) | fail) (by first | (simp [Act.eval, Act.put]; done) | fail) HO56.out (Kd.R_reads' HO61.out).2.2 (fun _ _ h => h) (fun _ h => h.elim) (fun _ _ => trivial) (by first | ((with_reducible repeat (first | exact HBC.out | apply below_alloc | apply below_drew1)); done) | fail) (below_size (by first | ((with_reducible repeat (first | exact HBC.out | apply below_alloc | apply below_drew1)); done) | fail)) (by have h1 := HLT.out; have h2 := HL.out; have h3 := HF.out; have h4 := HJ.out; have h5 := HI.out; have h6 := HLD.out; simp only [List.nil_append, List.length_append, List.length_singleton, List.length_nil]; omega) ?_; intro v62 w62 ho hb hg hn; have HO62 := Aside0.mk ho; clear HO56 HO61; clear HBC; have HBC := Aside0.mk hb; clear ho hb hg hn)
                    | (refine Kd.R_append_rows_step (Kd.int .i64) (w0 := W0) W0.heap.size (by first | (simp [Region.wanted]; done) | fail) (.tmp 62) (.tmp 65) 22 3 (.int .i64 0) 8 rfl Try.underlying22 info3 rfl (by decide) (by omega) v62 ([] ++ out.take j ++ [x]) (out.drop j) A' (out.length - j) (co - j) (fun _ => True) (fun _ => False) (by first | (simp [Act.eval, Act.put]; done) | fail) (by first | (simp [Act.eval, Act.put]; done) | fail) HO62.out (Kd.C_below HCD.out (by first | ((with_reducible repeat (first | exact HBC.out | apply below_alloc | apply below_drew1)); done) | fail)) (fun _ _ h => h) (fun _ h => h.elim) (fun _ _ => trivial) (by first | ((with_reducible repeat (first | exact HBC.out | apply below_alloc | apply below_drew1)); done) | fail) (below_size (by first | ((with_reducible repeat (first | exact HBC.out | apply below_alloc | apply below_drew1)); done) | fail)) (by have h1 := HLT.out; have h2 := HL.out; have h3 := HF.out; have h4 := HJ.out; have h5 := HI.out; have h6 := HLD.out; simp only [List.nil_append, List.length_append, List.length_singleton, List.length_nil]; omega) ?_; intro v66 w66 ho hb hg hn; have HO66 := Aside0.mk ho; clear HO62; clear HBC; have HBC := Aside0.mk hb; clear ho hb hg hn)
                    | fail)
                all_goals
                  have HF66 := Aside0.mk (Kd.R_lower HO66.out (below_size HBW.out))
                  have HB66 := Aside0.mk (below_step HBW.out HBC.out)
                  clear HO66 HBC HOW HBW HCT HCD hcut
                  go_wp2
                  go_roundg k2
                  case measure => omega
                  case rel => exact ⟨i + 1, _, congrArg (Value.int .i64) (by first | exact HWI.out | omega), ⟨by have := HK.out; omega⟩, ⟨by have := HIL.out; omega⟩, ⟨HSTEP.out⟩, ⟨by rw [HRES.out]; exact HF66.out⟩, HB66⟩
            · have c4 : decide (x ≥ 0) = false := decide_eq_false hx1
              have c4b : decide (0 ≤ x) = false := decide_eq_false hx1
              have HSK : Aside0 (insS out x = out) := ⟨by unfold insS; rw [if_neg (fun h9 => hx1 h9.1)]⟩
              clear HNE0
              clear hxy hj hy HP hx1
              go_wp2
              go_quiet (fail)
              go_wp2
              go_quiet (fail)
              go_wp2
              go_roundg k2
              case measure => omega
              case rel => exact ⟨i + 1, out, congrArg (Value.int .i64) (by first | exact HWI.out | omega), ⟨by have := HK.out; omega⟩, ⟨by have := HIL.out; omega⟩, ⟨HSK.out.symm.trans HSTEP.out⟩, ⟨by (with_reducible repeat (first | apply Kd.R_alloc | apply Kd.R_drewN | apply Kd.R_drew)); exact HO.out⟩, ⟨by repeat (first | (with_reducible first | exact HB.out | apply below_alloc | apply pw_below_drewN | apply below_drew1) | exact HB.out)⟩⟩
        · have hje : j = out.length := by have := HJ.out; omega
          have c2 : decide ((j : Int) < (out.length : Int)) = false := decide_eq_false (by omega)
          have c2b : decide (j < out.length) = false := decide_eq_false hj
          have HPOS := Aside0.mk (insPos_is out x j HJ.out HP.out (Or.inl hje))
          by_cases hx1 : 0 ≤ x
          · have c4 : decide (x ≥ 0) = true := decide_eq_true hx1
            have c4b : decide (0 ≤ x) = true := decide_eq_true hx1
            have c5 : ((j : Int) == (out.length : Int)) = true := by rw [hje]; exact beq_self_eq_true _
            have c5b : (j == out.length) = true := by rw [hje]; exact beq_self_eq_true _
            have c5c : decide (j = out.length) = true := decide_eq_true hje
            have HNE : Aside0 (insPos out x = out.length ∨ rd out (insPos out x : Int) ≠ x) := ⟨Or.inl (by rw [HPOS.out]; exact hje)⟩
            have HX1 := Aside0.mk hx1
            clear hj hje HP hx1
            go_wp2
            go_quiet (fail)
            go_wp2
            go_quiet (fail)
            go_wp2
            generalize hW0 : World.drewN _ _ = W0
            have HOW : Aside0 (Kd.R (Kd.int .i64) 3 W0 w.heap.size (fun _ => True) (.slice Ao out.length co) out) := ⟨by rw [← hW0]; (with_reducible repeat (first | apply Kd.R_alloc | apply Kd.R_drewN | apply Kd.R_drew)); exact HO.out⟩
            have HBW : Aside0 (Below w.heap.size w W0) := ⟨by rw [← hW0]; repeat (first | (with_reducible first | exact HB.out | apply below_alloc | apply pw_below_drewN | apply below_drew1) | exact HB.out)⟩
            have hxw : W0.cell? (ad0.add i) = some (.int .i64 x) := by rw [← hW0]; simpa using hx0
            have HXW := Aside0.mk hxw
            have HBC := Aside0.mk (Below.refl W0.heap.size W0)
            obtain ⟨i5, hi5, hsz5⟩ : ∃ i, Try.prog.info? 3 = some i ∧ i.size = (Kd.int .i64).sz := by
              obtain ⟨i, hi, hz⟩ := Option.map_eq_some_iff.1 info3
              simp only [Prod.mk.injEq] at hz
              exact ⟨i, hi, hz.2.1⟩
            have hmx := Kd.C_max (Kd.R_reads' HOW.out).2.2
            obtain ⟨A', hcut, hCd, hld, hcd⟩ := Mem.cut_from' (P := Try.prog) (d := Kd.int .i64) 22 3 .i64 Try.underlying22 hi5 hsz5 (m := j) (Kd.R_reads' HOW.out).2.2 HJ.out (Kd.R_reads' HOW.out).2.1
            have hlt0 : (out.take j).length = j := by rw [List.length_take]; have := HJ.out; omega
            have hCt := Kd.C_take (Kd.R_reads' HOW.out).2.2 HJ.out
            rw [hlt0] at hCt
            have HCD := Aside0.mk hCd
            have HLD := Aside0.mk hld
            have HCT := Aside0.mk hCt
            have hjl : (j : Int) ≤ (out.length : Int) := by have := HJ.out; omega
            have hlc : (out.length : Int) ≤ (co : Int) := by have := (Kd.R_reads' HOW.out).2.1; omega
            have hjc : (j : Int) ≤ (co : Int) := by omega
            have hjcb : decide ((j : Int) ≤ (co : Int)) = true := decide_eq_true hjc
            have HLT := Aside0.mk hlt0
            have HRES : Aside0 (insS out x = (out.take j ++ [x]) ++ out.drop j) := ⟨by unfold insS; rw [if_pos ⟨HX1.out, HNE.out⟩, HPOS.out]⟩
            clear hCd hld hCt hi5 hlt0 hx0 HO HB hxw hcd
            go_region_held3 (fun w' => w'.cell? (ad0.add i) = some (.int .i64 x)) (first | exact (Below.cell (B := W0.heap.size) (by first | ((with_reducible repeat (first | exact HBC.out | apply below_alloc | apply below_drew1)); done) | fail) (World.block_lt_of_cell? W0 _ HXW.out)).trans HXW.out)
              (first
                | (refine Kd.R_append_rows_step (Kd.int .i64) (w0 := W0) W0.heap.size (by first | (simp [Region.wanted]; done) | fail) (.tmp 52) (.tmp 55) 22 3 (.int .i64 0) 8 rfl Try.underlying22 info3 rfl (by decide) (by omega) (.slice (some ⟨W0.heap.size, 0, none⟩) 0 0) [] (out.take j) Ao j co (fun _ => True) (fun _ => False) (by first | (simp [Act.eval, Act.put]; done) | fail) (by first | (simp [Act.eval, Act.put]; done) | fail) (by first | ((with_reducible repeat (first | (with_reducible exact lit0 _ _ _ (by first | rfl | (simp; done) | fail) (by first | exact Nat.le_refl _ | (simp; done) | fail)) | apply Kd.R_drew | apply Kd.R_alloc)); done) | fail) (Kd.C_below HCT.out (by first | ((with_reducible repeat (first | exact HBC.out | apply below_alloc | apply below_drew1)); done) | fail)) (fun _ _ h => h) (fun _ h => h.elim) (fun _ _ => trivial) (by first | ((with_reducible repeat (first | exact HBC.out | apply below_alloc | apply below_drew1)); done) | fail) (below_size (by first | ((with_reducible repeat (first | exact HBC.out | apply below_alloc | apply below_drew1)); done) | fail)) (by have h1 := HLT.out; have h2 := HL.out; have h3 := HF.out; have h4 := HJ.out; have h5 := HI.out; have h6 := HLD.out; simp only [List.nil_append, List.length_append, List.length_singleton, List.length_nil]; omega) ?_; intro v56 w56 ho hb hg hn; have HO56 := Aside0.mk ho; (try (have HO61 := Aside0.mk (Kd.R_grown2 (v := .slice (some ⟨W0.heap.size + 1, 0, none⟩) 1 1) (xs := [x]) (e := 3) (base := W0.heap.size) (ok := fun _ => True) (by first | ((with_reducible repeat (first | (with_reducible exact lit1 _ _ _ _ (by first | rfl | (simp; done) | fail) (by first | exact Nat.le_refl _ | (simp; done) | fail)) | apply Kd.R_drew | apply Kd.R_alloc)); done) | fail) rfl hg (by intro k hk; simp [Value.ownBlock] at hk ⊢; omega)))); clear HBC; have HBC := Aside0.mk hb; clear ho hb hg hn)
                | (refine Kd.R_append_rows_step (Kd.int .i64) (w0 := W0) W0.heap.size (by first | (simp [Region.wanted]; done) | fail) (.tmp 52) (.tmp 55) 22 3 (.int .i64 0) 8 rfl Try.underlying22 info3 rfl (by decide) (by omega) (.slice (some ⟨W0.heap.size + 1, 0, none⟩) 0 0) [] (out.take j) Ao j co (fun _ => True) (fun _ => False) (by first | (simp [Act.eval, Act.put]; done) | fail) (by first | (simp [Act.eval, Act.put]; done) | fail) (by first | ((with_reducible repeat (first | (with_reducible exact lit0 _ _ _ (by first | rfl | (simp; done) | fail) (by first | exact Nat.le_refl _ | (simp; done) | fail)) | apply Kd.R_drew | apply Kd.R_alloc)); done) | fail) (Kd.C_below HCT.out (by first | ((with_reducible repeat (first | exact HBC.out | apply below_alloc | apply below_drew1)); done) | fail)) (fun _ _ h => h) (fun _ h => h.elim) (fun _ _ => trivial) (by first | ((with_reducible repeat (first | exact HBC.out | apply below_alloc | apply below_drew1)); done) | fail) (below_size (by first | ((with_reducible repeat (first | exact HBC.out | apply below_alloc | apply below_drew1)); done) | fail)) (by have h1 := HLT.out; have h2 := HL.out; have h3 := HF.out; have h4 := HJ.out; have h5 := HI.out; have h6 := HLD.out; simp only [List.nil_append, List.length_append, List.length_singleton, List.length_nil]; omega) ?_; intro v56 w56 ho hb hg hn; have HO56 := Aside0.mk ho; (try (have HO61 := Aside0.mk (Kd.R_grown2 (v := .slice (some ⟨W0.heap.size, 0, none⟩) 1 1) (xs := [x]) (e := 3) (base := W0.heap.size) (ok := fun _ => True) (by first | ((with_reducible repeat (first | (with_reducible exact lit1 _ _ _ _ (by first | rfl | (simp; done) | fail) (by first | exact Nat.le_refl _ | (simp; done) | fail)) | apply Kd.R_drew | apply Kd.R_alloc)); done) | fail) rfl hg (by intro k hk; simp [Value.ownBlock] at hk ⊢; omega)))); clear HBC; have HBC := Aside0.mk hb; clear ho hb hg hn)
                | (refine Kd.R_append_rows_step (Kd.int .i64) (w0 := W0) W0.heap.size (by first | (simp [Region.wanted]; done) | fail) (.tmp 56) (.tmp 61) 22 3 (.int .i64 0) 8 rfl Try.underlying22 info3 rfl (by decide) (by omega) v56 ([] ++ out.take j) [x] (some ⟨w56.heap.size, 0, none⟩) 1 1 (fun _ => True) (fun _ => False) (by first | (simp [Act.eval, Act.put]; done) | fail) (by first | (simp [Act.eval, Act.put]; done) | fail) (by first | ((with_reducible repeat (first | exact HO56.out | apply Kd.R_drew | apply Kd.R_alloc)); done) | fail) (Kd.R_reads' (base := W0.heap.size) (ok := fun _ => True) (by first | ((with_reducible repeat (first | (with_reducible exact lit1 _ _ _ _ (by simp) (by first | exact below_size HBC.out | (simp; exact below_size HBC.out))) | apply Kd.R_drew | apply Kd.R_alloc)); done) | fail)).2.2 (fun _ _ h => h) (fun _ h => h.elim) (fun _ _ => trivial) (by first | ((with_reducible repeat (first | exact HBC.out | apply below_alloc | apply below_drew1)); done) | fail) (below_size (by first | ((with_reducible repeat (first | exact HBC.out | apply below_alloc | apply below_drew1)); done) | fail)) (by have h1 := HLT.out; have h2 := HL.out; have h3 := HF.out; have h4 := HJ.out; have h5 := HI.out; have h6 := HLD.out; simp only [List.nil_append, List.length_append, List.length_singleton, List.length_nil]; omega) ?_; intro v62 w62 ho hb hg hn; have HO62 := Aside0.mk ho; clear HO56; clear HBC; have HBC := Aside0.mk hb; clear ho hb hg hn)
                | (refine Kd.R_append_rows_step (Kd.int .i64) (w0 := W0) W0.heap.size (by first | (simp [Region.wanted]; done) | fail) (.tmp 56) (.tmp 61) 22 3 (.int .i64 0) 8 rfl Try.underlying22 info3 rfl (by decide) (by omega) v56 ([] ++ out.take j) [x] (some ⟨W0.heap.size + 1, 0, none⟩) 1 1 (fun _ => True) (fun _ => False) (by first | (simp [Act.eval, Act.put]; done) | fail) (by first | (simp [Act.eval, Act.put]; done) | fail) HO56.out (Kd.R_reads' HO61.out).2.2 (fun _ _ h => h) (fun _ h => h.elim) (fun _ _ => trivial) (by first | ((with_reducible repeat (first | exact HBC.out | apply below_alloc | apply below_drew1)); done) | fail) (below_size (by first | ((with_reducible repeat (first | exact HBC.out | apply below_alloc | apply below_drew1)); done) | fail)) (by have h1 := HLT.out; have h2 := HL.out; have h3 := HF.out; have h4 := HJ.out; have h5 := HI.out; have h6 := HLD.out; simp only [List.nil_append, List.length_append, List.length_singleton, List.length_nil]; omega) ?_; intro v62 w62 ho hb hg hn; have HO62 := Aside0.mk ho; clear HO56 HO61; clear HBC; have HBC := Aside0.mk hb; clear ho hb hg hn)
                | (refine Kd.R_append_rows_step (Kd.int .i64) (w0 := W0) W0.heap.size (by first | (simp [Region.wanted]; done) | fail) (.tmp 56) (.tmp 61) 22 3 (.int .i64 0) 8 rfl Try.underlying22 info3 rfl (by decide) (by omega) v56 ([] ++ out.take j) [x] (some ⟨W0.heap.size, 0, none⟩) 1 1 (fun _ => True) (fun _ => False) (by first | (simp [Act.eval, Act.put]; done) | fail) (by first | (simp [Act.eval, Act.put]; done) | fail) HO56.out (Kd.R_reads' HO61.out).2.2 (fun _ _ h => h) (fun _ h => h.elim) (fun _ _ => trivial) (by first | ((with_reducible repeat (first | exact HBC.out | apply below_alloc | apply below_drew1)); done) | fail) (below_size (by first | ((with_reducible repeat (first | exact HBC.out | apply below_alloc | apply below_drew1)); done) | fail)) (by have h1 := HLT.out; have h2 := HL.out; have h3 := HF.out; have h4 := HJ.out; have h5 := HI.out; have h6 := HLD.out; simp only [List.nil_append, List.length_append, List.length_singleton, List.length_nil]; omega) ?_; intro v62 w62 ho hb hg hn; have HO62 := Aside0.mk ho; clear HO56 HO61; clear HBC; have HBC := Aside0.mk hb; clear ho hb hg hn)
                | (refine Kd.R_append_rows_step (Kd.int .i64) (w0 := W0) W0.heap.size (by first | (simp [Region.wanted]; done) | fail) (.tmp 62) (.tmp 65) 22 3 (.int .i64 0) 8 rfl Try.underlying22 info3 rfl (by decide) (by omega) v62 ([] ++ out.take j ++ [x]) (out.drop j) A' (out.length - j) (co - j) (fun _ => True) (fun _ => False) (by first | (simp [Act.eval, Act.put]; done) | fail) (by first | (simp [Act.eval, Act.put]; done) | fail) HO62.out (Kd.C_below HCD.out (by first | ((with_reducible repeat (first | exact HBC.out | apply below_alloc | apply below_drew1)); done) | fail)) (fun _ _ h => h) (fun _ h => h.elim) (fun _ _ => trivial) (by first | ((with_reducible repeat (first | exact HBC.out | apply below_alloc | apply below_drew1)); done) | fail) (below_size (by first | ((with_reducible repeat (first | exact HBC.out | apply below_alloc | apply below_drew1)); done) | fail)) (by have h1 := HLT.out; have h2 := HL.out; have h3 := HF.out; have h4 := HJ.out; have h5 := HI.out; have h6 := HLD.out; simp only [List.nil_append, List.length_append, List.length_singleton, List.length_nil]; omega) ?_; intro v66 w66 ho hb hg hn; have HO66 := Aside0.mk ho; clear HO62; clear HBC; have HBC := Aside0.mk hb; clear ho hb hg hn)
                | fail)
            all_goals
              have HF66 := Aside0.mk (Kd.R_lower HO66.out (below_size HBW.out))
              have HB66 := Aside0.mk (below_step HBW.out HBC.out)
              clear HO66 HBC HOW HBW HCT HCD hcut
              go_wp2
              go_roundg k2
              case measure => omega
              case rel => exact ⟨i + 1, _, congrArg (Value.int .i64) (by first | exact HWI.out | omega), ⟨by have := HK.out; omega⟩, ⟨by have := HIL.out; omega⟩, ⟨HSTEP.out⟩, ⟨by rw [HRES.out]; exact HF66.out⟩, HB66⟩
          · have c4 : decide (x ≥ 0) = false := decide_eq_false hx1
            have c4b : decide (0 ≤ x) = false := decide_eq_false hx1
            have HSK : Aside0 (insS out x = out) := ⟨by unfold insS; rw [if_neg (fun h9 => hx1 h9.1)]⟩
            clear hj hje HP hx1
            go_wp2
            go_quiet (fail)
            go_wp2
            go_quiet (fail)
            go_wp2
            go_roundg k2
            case measure => omega
            case rel => exact ⟨i + 1, out, congrArg (Value.int .i64) (by first | exact HWI.out | omega), ⟨by have := HK.out; omega⟩, ⟨by have := HIL.out; omega⟩, ⟨HSK.out.symm.trans HSTEP.out⟩, ⟨by (with_reducible repeat (first | apply Kd.R_alloc | apply Kd.R_drewN | apply Kd.R_drew)); exact HO.out⟩, ⟨by repeat (first | (with_reducible first | exact HB.out | apply below_alloc | apply pw_below_drewN | apply below_drew1) | exact HB.out)⟩⟩
    · have hie : i = l0.length := by have := HI.out; omega
      have c1 : decide ((i : Int) < (l0.length : Int)) = false := decide_eq_false (by omega)
      have c1b : decide (i < l0.length) = false := decide_eq_false hi
      have HR : Aside0 (out = l0.foldl insS []) := ⟨by have h1 := HE.out; rw [hie, List.take_length] at h1; exact h1⟩
      clear hi hie
      go_wp2
      go_ret
      exact ⟨_, rfl, by rw [← HR.out]; exact HO.out, HB.out⟩
end Go.Proofs.Ytbepdhndnhoelaa.X
