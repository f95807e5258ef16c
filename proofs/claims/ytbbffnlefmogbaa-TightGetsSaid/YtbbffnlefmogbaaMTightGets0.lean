/- TightGets: for every input the call returns true, and each argument reads behind the call as it read before it. No condition. (Part 1 of 3: this session's texts, laid together by wip/merge.py.) -/
import Derived.Test.YtbbffnlefmogbaaX0
import Derived.Test.YtbbffnlefmogbaaMem2
import Derived.Lib.Hide
import Derived.Deep.RegionHeld3
import Derived.StillTailTactics
import Derived.Test.YtbbffnlefmogbaaLen64c
import Derived.Test.YtbbffnlefmogbaaMem
import Derived.Test.YtbbffnlefmogbaaDec
import Derived.Laws.BitsAllLaws
/- The contract of (*tight.row).write: a number's lowest bits behind the others. -/
namespace Go.Proofs.Ytbbffnlefmogbaa.X
open Go.RowKit Go.Proofs.YtbbffnlefmogbaaW.PrintWords Go.Proofs.YtbbffnlefmogbaaW.PrintLast Go.Proofs.YtbbffnlefmogbaaW.PrintMore
set_option linter.unusedVariables false
set_option linter.unusedSimpArgs false
/-- A packed row in memory: its bytes in a row of its own, at which bit it stands, the least number, how wide. -/
def IsP (w0 W : World) (g : Nat) (b : List Int) (at_ : Nat) (low wide : Int) : Prop :=
  ∃ A c, W.heap[g]? = some (.cells #[.slice A b.length c, .int .i64 (at_ : Int), .int .i64 low, .int .i64 wide] 60 (0, 0)) ∧ w0.heap.size ≤ g ∧ Kd.R (Kd.int .u8) 5 W w0.heap.size (fun k => k ≠ g) (.slice A b.length c) b
/-- One bit more. -/
def bitStep (u : Int) (b : List Int) (at_ k : Nat) : List Int :=
  let b1 := if at_ % 8 = 0 then b ++ [0] else b
  b1.set (b1.length - 1) (Go.bits .or .u8 (rd b1 ((b1.length - 1 : Nat) : Int)) (Go.bits .and .u64 (u / 2 ^ min k 64) 1 % 256 * 2 ^ (at_ % 8) % 256))
def bitsGo (u : Int) : Nat → Nat → List Int → Nat → List Int
  | 0, _, b, _ => b
  | d + 1, k, b, at_ => bitsGo u d (k + 1) (bitStep u b at_ k) (at_ + 1)
def tight_row_write.f (b : List Int) (at_ : Nat) (u : Int) (n : Nat) : Option (List Int) :=
  if b.length = (at_ + 7) / 8 ∧ at_ < 1000000000 ∧ n ≤ 64 then some (bitsGo u n 0 b at_) else none
theorem bitStep_len (u : Int) (b : List Int) (at_ k : Nat) (h : b.length = (at_ + 7) / 8) : (bitStep u b at_ k).length = (at_ + 1 + 7) / 8 := by
  unfold bitStep
  simp only [List.length_set]
  split
  · rw [List.length_append, List.length_singleton]; omega
  · omega
theorem lit_u8 (V : World) (base g : Nat) (x : Int) (hg : g = V.heap.size) (hb : base ≤ V.heap.size) : Kd.R (Kd.int .u8) 5 (V.alloc (.cells #[.int .u8 x] 5)) base (fun _ => True) (.slice (some ⟨g, 0, none⟩) 1 1) [x] := by
  subst hg
  refine ⟨fun _ _ => trivial, [.int .u8 x], ?_, ?_⟩
  · have h2 := World.ownsRow_lit (base := base) (e := 5) (size := (Kd.int .u8).sz) V #[.int .u8 x] 1 hb (by decide) rfl
    simpa using h2
  · exact Reps.one (show Kd.M (Kd.int .u8) _ _ _ x [.int .u8 x] from rfl) (Reps.none _ _)
/-- The bytes, with one nought more where the last is full. -/
def opened (b : List Int) (a : Nat) : List Int := if a % 8 = 0 then b ++ [0] else b
set_option maxHeartbeats 8000000 in
set_option maxRecDepth 100000 in
theorem tight_row_write.calls (g : Nat) (b : List Int) (at_ : Nat) (low wide u : Int) (n : Nat) (r : List Int) (w0 w : World) (hI : IsP w0 w g b at_ low wide) (hB : Below w0.heap.size w0 w) (h : tight_row_write.f b at_ u n = some r) :
    Calls Try.prog 75 #[.pointer (some ⟨g, 0, none⟩), .int .u64 u, .int .i64 (n : Int)] w fun e w' => e = .returned (.tuple #[]) ∧ IsP w0 w' g r (at_ + n) low wide ∧ Below w0.heap.size w0 w' := by
  unfold tight_row_write.f at h
  by_cases hf : b.length = (at_ + 7) / 8 ∧ at_ < 1000000000 ∧ n ≤ 64
  case neg => rw [if_neg hf] at h; cases h
  rw [if_pos hf] at h
  obtain rfl := Option.some.inj h
  clear h
  obtain ⟨hl, hat, hn⟩ := hf
  have HL := Aside0.mk hl
  have HAT := Aside0.mk hat
  have HN := Aside0.mk hn
  have HI := Aside0.mk hI
  have HB := Aside0.mk hB
  have hu := Try.underlying58
  clear hl hat hn hI hB
  go_enter Try.func75, Try.ntmps75
  go_wp2_with fail
  go_loopg [8] (n + 1) (fun kq v8 w' => ∃ (j : Nat) (b' : List Int), v8 = .int .i64 (j : Int) ∧ Aside0 (kq + j = n + 1) ∧ Aside0 (j ≤ n) ∧ Aside0 (b'.length = (at_ + j + 7) / 8) ∧ Aside0 (bitsGo u (n - j) j b' (at_ + j) = bitsGo u n 0 b at_) ∧ Aside0 (IsP w0 w' g b' (at_ + j) low wide) ∧ Aside0 (Below w0.heap.size w0 w'))
  case atStart => exact ⟨0, b, rfl, ⟨by omega⟩, ⟨by omega⟩, HL, ⟨rfl⟩, HI, HB⟩
  case round =>
    clear HI HB HL
    obtain ⟨j, b', rfl, HK, HJ, HL, HG, HI, HB⟩ := hrel
    cases gk with
    | zero => have h1 := HK.out; have h2 := HJ.out; omega
    | succ k2 =>
    by_cases hj : j < n
    · have c1 : decide ((j : Int) < (n : Int)) = true := decide_eq_true (by omega)
      have c1b : decide (j < n) = true := decide_eq_true hj
      obtain ⟨a, ha⟩ : ∃ a, at_ + j = a := ⟨_, rfl⟩
      rw [ha] at HL HG HI
      have HA := Aside0.mk ha
      have HAL : Aside0 (a < 1000000064) := ⟨by have h1 := HAT.out; have h2 := HN.out; omega⟩
      have HJN := Aside0.mk hj
      obtain ⟨A, c, hb, hg, hR⟩ := HI.out
      have h0 : wr.cell? ⟨g, 0, none⟩ = some (.slice A b'.length c) := (blk_cell hb 0).trans rfl
      have h1 : wr.cell? ⟨g, 1, none⟩ = some (.int .i64 (a : Int)) := (blk_cell hb 1).trans rfl
      have f0 := blk_frozen hb 0
      have f1 := blk_frozen hb 1
      have HBK := Aside0.mk hb
      have HG0 := Aside0.mk hg
      have HR := Aside0.mk hR
      clear ha hj hb hg hR
      obtain ⟨t8, ht8⟩ : ∃ t : Bool, (Int.tmod (a : Int) 8 == 0) = t := ⟨_, rfl⟩
      have HT8 : Aside0 (a % 8 = 0 ↔ t8 = true) := ⟨by rw [← ht8, beq_iff_eq, Int.tmod_eq_emod_of_nonneg (by omega)]; omega⟩
      go_upto_if 16 with (fail)
      go_cut [] (fun wx => Aside0 (IsP w0 wx g (opened b' a) a low wide) ∧ Aside0 (Below w0.heap.size w0 wx))
      case first =>
        by_cases h8 : a % 8 = 0
        · have e8 : Int.tmod (a : Int) 8 = 0 := by rw [Int.tmod_eq_emod_of_nonneg (by omega)]; omega
          have hgl : g < wr.heap.size := blk_lt HBK.out
          have HGL := Aside0.mk hgl
          clear hgl
          go_wp2_with ((with_reducible refine gate_builtin (b := .append) (xs := #[.tmp 21, .tmp 22]) rfl ?_); at_builtin; refine Kd.R_append_rows (Kd.int .u8) (w0 := w0) w0.heap.size rfl (.tmp 21) (.tmp 22) 24 5 (.int .u8 0) 1 rfl Try.underlying24 info5 rfl (by decide) (by omega) (.slice A b'.length c) b' [0] _ _ _ (fun k => k ≠ g) (fun _ => False) rfl rfl (Kd.R_alloc HR.out _) (Kd.R_reads' (lit_u8 wr 0 wr.heap.size 0 rfl (Nat.zero_le _))).2.2 (fun _ _ h => h) (fun _ h => h.elim) (fun k hk => by have := HGL.out; have h9 : wr.heap.size ≤ k := Nat.le_trans (below_size (below_alloc (Below.refl _ _) _)) hk; omega) (HB.out.alloc (below_size HB.out) _) (Nat.le_trans (below_size HB.out) (below_size (below_alloc (Below.refl _ _) _))) (by have h9 := HL.out; have h8 := HAL.out; omega) ?_; intro v23 w5 ho hb hg hat; obtain ⟨A5, c5, e5⟩ := Kd.R_slice ho; subst e5; have HO5 := Aside0.mk ho; have HB5 := Aside0.mk hb; have HK5 := Aside0.mk (blk_grown (blk_alloc HBK.out _) hg (fun he => HR.out.1 g he.symm rfl)); have h0 : w5.cell? ⟨g, 0, none⟩ = some (.slice A b'.length c) := (blk_cell HK5.out 0).trans rfl; have f0 := blk_frozen HK5.out 0; clear ho hb hg hat)
          go_meet
          case rel =>
            have ho : opened b' a = b' ++ [0] := by unfold opened; rw [if_pos h8]
            have hl9 : (b' ++ [0]).length = b'.length + 1 := by simp
            have h2 := blk_set HK5.out 0 (.slice A5 (b'.length + 1) c5)
            refine ⟨⟨⟨A5, c5, ?_, HG0.out, ?_⟩⟩, ⟨below_set HB5.out HG0.out⟩⟩
            · rw [ho, hl9]; simpa using h2
            · rw [ho]; exact Kd.R_far HO5.out (fun k hk => hk) _
        · have e8 : ¬ Int.tmod (a : Int) 8 = 0 := by rw [Int.tmod_eq_emod_of_nonneg (by omega)]; omega
          have ht : t8 = false := by
            cases t8 with
            | false => rfl
            | true => exact absurd (HT8.out.mpr rfl) h8
          subst ht
          go_wp2_with fail
          go_meet
          case rel =>
            have ho : opened b' a = b' := by unfold opened; rw [if_neg h8]
            exact ⟨⟨by rw [ho]; exact ⟨A, c, HBK.out, HG0.out, HR.out⟩⟩, HB⟩
      case rest =>
        obtain ⟨HI1, HB1⟩ := hcut
        clear HR HBK h0 h1 f0 f1 HG0 HI HB ht8 HT8
        obtain ⟨b1, hb1⟩ : ∃ b1, opened b' a = b1 := ⟨_, rfl⟩
        rw [hb1] at HI1
        have HLB : Aside0 (b1.length = a / 8 + 1) := ⟨by
          have h1 := HL.out
          rw [← hb1]; unfold opened
          split
          · rw [List.length_append, List.length_singleton]; omega
          · omega⟩
        have HB1E := Aside0.mk hb1
        clear hb1
        obtain ⟨A, c, hb, hg, hR⟩ := HI1.out
        have hlp : 0 < b1.length := by have := HLB.out; omega
        obtain ⟨gb, cp, ev, hgb1, hgb2, cells, hcl⟩ := Kd.R_form hR hlp
        injection ev with ev1 _ ev3
        subst ev1 ev3
        obtain ⟨ad, ea, hy0⟩ := Kd.at_int (Kd.R_reads' hR).2.2 ((b1.length - 1 : Nat) : Int) (by omega) (by omega)
        injection ea with ea
        subst ea
        rw [Int.toNat_natCast] at hy0
        have eadd : (⟨gb, 0, none⟩ : Addr).add (b1.length - 1) = ⟨gb, b1.length - 1, none⟩ := by unfold Addr.add; split <;> simp_all
        rw [eadd] at hy0
        obtain ⟨y, hy⟩ : ∃ y, rd b1 ((b1.length - 1 : Nat) : Int) = y := ⟨_, rfl⟩
        rw [hy] at hy0
        have hne : gb ≠ g := hR.1 gb rfl
        have HNE := Aside0.mk hne
        have h0 : wc.cell? ⟨g, 0, none⟩ = some (.slice (some ⟨gb, 0, none⟩) b1.length c) := (blk_cell hb 0).trans rfl
        have h1 : wc.cell? ⟨g, 1, none⟩ = some (.int .i64 (a : Int)) := (blk_cell hb 1).trans rfl
        have f0 := blk_frozen hb 0
        have f1 := blk_frozen hb 1
        have fy := blk_frozen hcl (b1.length - 1)
        have HBK := Aside0.mk hb
        have HG0 := Aside0.mk hg
        have HR := Aside0.mk hR
        have HY := Aside0.mk hy
        clear hb hg hR hy hcl eadd
        have hlp1 : (1 : Int) ≤ (b1.length : Int) := by omega
        have hlb : (b1.length : Int) ≤ 1000000000 := by have h2 := HLB.out; have h3 := HAL.out; omega
        go_wp2_with fail
        go_region
        go_wp2_with fail
        obtain ⟨v, hv⟩ : ∃ v, Go.bits .or .u8 y (Go.bits .and .u64 (u / 2 ^ min j 64) 1 % 256 * 2 ^ (a % 8) % 256) = v := ⟨_, rfl⟩
        rw [hv]
        have hw1 : wrap64 ((a : Int) + 1) = ((a + 1 : Nat) : Int) := by have h2 := HAL.out; unfold wrap64; omega
        have hw2 : wrap64 ((j : Int) + 1) = ((j + 1 : Nat) : Int) := by have h2 := HN.out; have h3 := HJN.out; unfold wrap64; omega
        rw [hw1, hw2]
        have hstep : b1.set (b1.length - 1) v = bitStep u b' a j := by
          have h2 := HB1E.out
          unfold opened at h2
          unfold bitStep
          simp only [h2]
          rw [HY.out, hv]
        have hb2 : ((wc.setCell ⟨gb, b1.length - 1, none⟩ (.int .u8 v)).setCell ⟨g, 1, none⟩ (.int .i64 ((a + 1 : Nat) : Int))).heap[g]? = some (.cells #[.slice (some ⟨gb, 0, none⟩) b1.length c, .int .i64 ((a + 1 : Nat) : Int), .int .i64 low, .int .i64 wide] 60 (0, 0)) := by
          have h2 := blk_set ((Below.heap_setCell wc ⟨gb, b1.length - 1, none⟩ (.int .u8 v) g (Ne.symm HNE.out)).trans HBK.out) 1 (.int .i64 ((a + 1 : Nat) : Int))
          simpa using h2
        have hr2 : Kd.R (Kd.int .u8) 5 ((wc.setCell ⟨gb, b1.length - 1, none⟩ (.int .u8 v)).setCell ⟨g, 1, none⟩ (.int .i64 ((a + 1 : Nat) : Int))) w0.heap.size (fun k => k ≠ g) (.slice (some ⟨gb, 0, none⟩) b1.length c) (b1.set (b1.length - 1) v) := by
          have h2 := (Kd.R_putg HR.out ((b1.length - 1 : Nat) : Int) v).1
          rw [Int.toNat_natCast] at h2
          exact Kd.R_far h2 (fun k hk => hk) _
        have hI2 : IsP w0 ((wc.setCell ⟨gb, b1.length - 1, none⟩ (.int .u8 v)).setCell ⟨g, 1, none⟩ (.int .i64 ((a + 1 : Nat) : Int))).drew g (bitStep u b' a j) (a + 1) low wide := by
          rw [← hstep]
          refine ⟨some ⟨gb, 0, none⟩, c, ?_, HG0.out, ?_⟩
          · rw [List.length_set]; exact blk_drew hb2
          · rw [List.length_set]; exact Kd.R_drew hr2
        have hB2 := below_drew (below_set (below_set HB1.out (g := gb) (j := b1.length - 1) (v := .int .u8 v) hgb1) (g := g) (j := 1) (v := .int .i64 ((a + 1 : Nat) : Int)) HG0.out)
        have HI2 := Aside0.mk hI2
        have HB2 := Aside0.mk hB2
        have HST := Aside0.mk (bitStep_len u b' a j HL.out)
        have HGO : Aside0 (bitsGo u (n - (j + 1)) (j + 1) (bitStep u b' a j) (at_ + (j + 1)) = bitsGo u n 0 b at_) := ⟨by
          have h2 := HG.out
          have h3 : n - j = (n - (j + 1)) + 1 := by have := HJN.out; omega
          rw [h3, bitsGo] at h2
          rw [show at_ + (j + 1) = a + 1 by have := HA.out; omega]
          exact h2⟩
        clear hv hstep hb2 hr2 hI2 hB2 hw1 hw2 hy0 fy h0 h1 f0 f1 hne
        go_roundg k2
        case measure => omega
        case rel => exact ⟨j + 1, bitStep u b' a j, rfl, ⟨by have := HK.out; omega⟩, ⟨by have := HJN.out; omega⟩, ⟨by have h2 := HST.out; have h3 := HA.out; omega⟩, HGO, ⟨by have h2 := HI2.out; rw [show at_ + (j + 1) = a + 1 by have := HA.out; omega]; exact h2⟩, HB2⟩
    · have hje : j = n := by have := HJ.out; omega
      have c1 : decide ((j : Int) < (n : Int)) = false := decide_eq_false (by omega)
      have c1b : decide (j < n) = false := decide_eq_false hj
      have HR : Aside0 (IsP w0 wr g (bitsGo u n 0 b at_) (at_ + n) low wide) := ⟨by
        have h1 := HG.out
        rw [hje, Nat.sub_self, bitsGo] at h1
        rw [← h1, ← hje]; exact HI.out⟩
      clear hj hje
      go_wp2_with fail
      go_end0
      exact ⟨rfl, HR.out, HB.out⟩
end Go.Proofs.Ytbbffnlefmogbaa.X
/- The contract of (*tight.packed).add: a number behind the others. -/
namespace Go.Proofs.Ytbbffnlefmogbaa.X
open Go.RowKit Go.Proofs.YtbbffnlefmogbaaW.PrintWords Go.Proofs.YtbbffnlefmogbaaW.PrintLast Go.Proofs.YtbbffnlefmogbaaW.PrintMore
set_option linter.unusedVariables false
set_option linter.unusedSimpArgs false
/-- A number above a least one, in 64 bits. -/
def above (x low : Int) : Int := IntKind.u64.wrap (IntKind.u64.wrap x - IntKind.u64.wrap low)
theorem IsP.drew {w0 W : World} {g : Nat} {b : List Int} {at_ : Nat} {low wide : Int} (h : IsP w0 W g b at_ low wide) : IsP w0 W.drew g b at_ low wide := by
  obtain ⟨A, c, h1, h2, h3⟩ := h
  exact ⟨A, c, blk_drew h1, h2, Kd.R_drew h3⟩
set_option maxHeartbeats 8000000 in
set_option maxRecDepth 100000 in
theorem tight_packed_add.calls (g : Nat) (b : List Int) (at_ : Nat) (low : Int) (n : Nat) (x : Int) (r : List Int) (w0 w : World) (hI : IsP w0 w g b at_ low (n : Int)) (hB : Below w0.heap.size w0 w) (h : tight_row_write.f b at_ (above x low) n = some r) :
    Calls Try.prog 44 #[.pointer (some ⟨g, 0, none⟩), .int .i64 x] w fun e w' => e = .returned (.tuple #[]) ∧ IsP w0 w' g r (at_ + n) low (n : Int) ∧ Below w0.heap.size w0 w' := by
  have HI := Aside0.mk hI
  have HB := Aside0.mk hB
  have HH := Aside0.mk h
  obtain ⟨A, c, hb, hg, hR⟩ := hI
  have h2 : w.cell? ⟨g, 2, none⟩ = some (.int .i64 low) := (blk_cell hb 2).trans rfl
  have h3 : w.cell? ⟨g, 3, none⟩ = some (.int .i64 (n : Int)) := (blk_cell hb 3).trans rfl
  have hu := Try.underlying60
  clear hb hg hR hB h
  go_enter Try.func44, Try.ntmps44
  go_still_tail 15, (by kernel_rfl)
  change wpList _ _ _ _ _ w.drew
  have HI2 := Aside0.mk (IsP.drew HI.out)
  have HB2 := Aside0.mk (below_drew HB.out)
  clear HI HB h2 h3
  generalize w.drew = w5 at HI2 HB2 ⊢
  go_wp2_with fail
  refine (tight_row_write.calls g b at_ low (n : Int) (above x low) n r w0 _ HI2.out HB2.out HH.out).mono ?_
  rintro e w6 ⟨rfl, i6, b6⟩
  go_wp2_with fail
  go_end0
  exact ⟨rfl, i6, b6⟩
end Go.Proofs.Ytbbffnlefmogbaa.X
/- The contract of math/bits.Len64 for this program, after the shelf's template, in the form that printed callers ask for. -/
namespace Go.Proofs.Ytbbffnlefmogbaa.X
open Go.RowKit Go.Proofs.YtbbffnlefmogbaaW.PrintWords Go.Proofs.YtbbffnlefmogbaaW.PrintLast Go.Proofs.YtbbffnlefmogbaaW.PrintMore
set_option linter.unusedVariables false
set_option linter.unusedSimpArgs false
def bits_Len64.f (a0 : Int) : Option Int := if 0 ≤ a0 ∧ a0 ≤ 18446744073709551615 then some ((Lib.bitLen a0.toNat : Nat) : Int) else none
theorem bits_Len64.calls (a0 : Int) (r : Int) (w : World) (h : bits_Len64.f a0 = some r) :
    Calls Try.prog 43 #[.int .u64 a0] w fun e w' => e = .returned (.int .i64 r) ∧ Drawn0 w w' := by
  unfold bits_Len64.f at h
  by_cases hb : 0 ≤ a0 ∧ a0 ≤ 18446744073709551615
  · rw [if_pos hb] at h
    obtain rfl := Option.some.inj h
    exact (Len64c.core a0 w hb.1 hb.2).mono fun e w' ⟨he, hw⟩ => ⟨he, by subst hw; exact Drawn0.refl _⟩
  · rw [if_neg hb] at h
    cases h
end Go.Proofs.Ytbbffnlefmogbaa.X
/- The contract of slices.Concat at []byte: the parts' bytes, one behind the other, in memory of their own. -/
namespace Go.Proofs.Ytbbffnlefmogbaa.X
open Go.RowKit Go.Proofs.YtbbffnlefmogbaaW.PrintWords Go.Proofs.YtbbffnlefmogbaaW.PrintLast Go.Proofs.YtbbffnlefmogbaaW.PrintMore
set_option linter.unusedVariables false
set_option linter.unusedSimpArgs false
def slices_Concat_byte.f (l0 : List (List Int)) : Option (List Int) := if l0.flatten.length < 140737488355328 then some l0.flatten else none
theorem concat_take (l0 : List (List Int)) (i : Nat) (h : i < l0.length) : (l0.take (i + 1)).flatten = (l0.take i).flatten ++ l0[i] := by
  rw [List.take_succ_eq_append_getElem h, List.flatten_append, List.flatten_singleton]
theorem concat_le (l0 : List (List Int)) (i : Nat) : (l0.take i).flatten.length ≤ l0.flatten.length := by
  conv => rhs; rw [← List.take_append_drop i l0, List.flatten_append, List.length_append]
  omega
set_option maxHeartbeats 8000000 in
set_option maxRecDepth 1000000 in
theorem slices_Grow_nil (n : Nat) (hn : n < 140737488355328) (w : World) :
    Calls Try.prog 76 #[.slice none 0 0, .int .i64 (n : Int)] w fun e w' => ∃ v0_ : Value, e = .returned v0_ ∧ Kd.R (Kd.int .u8) 5 w' w.heap.size (fun _ => True) v0_ ([] : List Int) ∧ Below w.heap.size w w' := by
  have hb0 : decide ((n : Int) < 0) = false := decide_eq_false (by omega)
  by_cases h0 : 0 < n
  · have hb1 : decide ((0 : Int) < (n : Int)) = true := decide_eq_true (by omega)
    have hb2 : decide (0 < n) = true := decide_eq_true h0
    go_enter Try.func76, Try.ntmps76
    obtain ⟨i5, hi5, hsz5⟩ : ∃ i, Try.prog.info? 5 = some i ∧ i.size = (Kd.int .u8).sz := by
      obtain ⟨i, hi, hz⟩ := Option.map_eq_some_iff.1 info5
      simp only [Prod.mk.injEq] at hz
      exact ⟨i, hi, hz.2.1⟩
    go_wp2_with ((with_reducible refine gate_builtin (b := .append) (xs := #[.tmp 20, .tmp 21]) rfl ?_); at_builtin; refine Kd.R_append_zeros (Kd.int .u8) (w0 := w) w.heap.size rfl (.tmp 20) (.tmp 21) 24 3 5 (.int .u8 0) 1 rfl Try.underlying24 Try.underlying3 info5 rfl (by decide) (by omega) (.slice none 0 0) [] (0 : Int) (n : Int) (fun _ => True) rfl rfl rfl (fun _ _ => trivial) (Kd.R_nil _ _ _ _ _) (by omega) (Below.refl _ _) (Nat.le_refl _) (by simp; omega) ?_; intro v1 w1 ho hb hg hat; obtain ⟨A1, c1, rfl⟩ := Kd.R_slice ho; have HO := Aside0.mk ho; have HB := Aside0.mk hb; have hcut := cut_to (P := Try.prog) 24 5 .i64 Try.underlying24 hi5 A1 ([] ++ List.replicate (n : Int).toNat (0 : Int)).length c1 0 (by omega) (by omega) (Kd.R_reads' ho).2.1; clear ho hb hg hat)
    go_ret
    exact ⟨_, rfl, by have := Kd.R_take (m := 0) HO.out (Nat.zero_le _); rwa [List.take_zero] at this, HB.out⟩
  · obtain rfl : n = 0 := by omega
    go_enter Try.func76, Try.ntmps76
    go_wp2_with fail
    go_ret
    exact ⟨_, rfl, Kd.R_nil _ _ _ _ _, Below.refl _ _⟩
set_option maxHeartbeats 8000000 in
set_option maxRecDepth 1000000 in
theorem slices_Concat_byte.calls (A0 : Option Addr) (c0 : Nat) (l0 : List (List Int)) (r : List Int) (w : World) (hr0 : Kd.C (Kd.slice 5 (Kd.int .u8)) w A0 l0.length l0) (hc0 : l0.length ≤ c0) (h : slices_Concat_byte.f l0 = some r) :
    Calls Try.prog 45 #[.slice A0 l0.length c0] w fun e w' => ∃ v0_ : Value, e = .returned v0_ ∧ Kd.R (Kd.int .u8) 5 w' w.heap.size (fun _ => True) v0_ r ∧ Below w.heap.size w w' := by
  unfold slices_Concat_byte.f at h
  by_cases hf : l0.flatten.length < 140737488355328
  case neg => rw [if_neg hf] at h; cases h
  rw [if_pos hf] at h
  obtain rfl := Option.some.inj h
  clear h
  have hmax := Kd.C_max hr0
  have HR0 := Aside0.mk hr0
  have HLEN := Aside0.mk hf
  clear hr0 hf
  have HC : Aside0 (∀ i : Nat, (hi : i < l0.length) → ∃ (ad : Addr) (Ai : Option Addr) (ci : Nat), A0 = some ad ∧ w.cell? (ad.add i) = some (.slice Ai (l0[i]).length ci) ∧ (Kd.int .u8).C w Ai (l0[i]).length (l0[i])) := ⟨fun i hi => by
    obtain ⟨ad', Ai, ci, e, hc, _, hC⟩ := Mem.at_row HR0.out i hi
    exact ⟨ad', Ai, ci, e, hc, hC⟩⟩
  go_enter Try.func45, Try.ntmps45
  go_wp2_with fail
  go_loopg [3, 11] l0.length (fun g s3 s11 wr => w = wr ∧ ∃ i : Nat, i ≤ l0.length ∧ g = l0.length - i ∧ s11 = .int .i64 i ∧ s3 = .int .i64 (((l0.take i).flatten.length : Nat) : Int))
  case atStart => exact ⟨rfl, 0, Nat.zero_le _, rfl, rfl, rfl⟩
  case round =>
    obtain ⟨rfl, i, hi, rfl, rfl, rfl⟩ := hrel
    by_cases hlt : i < l0.length
    · obtain ⟨ad, Ai, ci, rfl, hcell, _⟩ := HC.out i hlt
      have hs1 : (l0.take (i + 1)).flatten.length = (l0.take i).flatten.length + (l0[i]).length := by rw [concat_take l0 i hlt, List.length_append]
      have hs2 := concat_le l0 (i + 1)
      have hL := HLEN.out
      generalize (l0.take i).flatten.length = acc at hs1 ⊢
      generalize (l0[i]).length = m at hs1 hcell
      have hb : decide (((acc : Nat) : Int) + (m : Int) < 0) = false := decide_eq_false (by omega)
      go_wp2_with fail
      go_roundg (l0.length - (i + 1))
      case measure => omega
      case rel => exact ⟨rfl, i + 1, by omega, rfl, by go_num, by rw [hs1]; go_num⟩
    · obtain rfl : i = l0.length := by omega
      rw [List.take_length]
      have hL := HLEN.out
      generalize l0.flatten.length = T at hL ⊢
      go_wp2_with fail
      refine (slices_Grow_nil T hL _).mono ?_
      rintro e w1 ⟨v1, rfl, R1, b1⟩
      have HR1 := Aside0.mk R1
      have HB1 := Aside0.mk b1
      clear R1 b1
      go_wp2_with fail
      go_loopg [6, 27] l0.length (fun g s6 s27 wr => ∃ i : Nat, i ≤ l0.length ∧ g = l0.length - i ∧ s27 = .int .i64 i ∧ Aside0 (Kd.R (Kd.int .u8) 5 wr w.heap.size (fun _ => True) s6 (l0.take i).flatten) ∧ Aside0 (Below w.heap.size w wr))
      case atStart => exact ⟨0, Nat.zero_le _, rfl, rfl, HR1, HB1⟩
      case round =>
        clear HR1 HB1
        obtain ⟨i, hi2, rfl, rfl, HO, HB⟩ := hrel
        by_cases hlt2 : i < l0.length
        · obtain ⟨ad, Ai, ci, rfl, hcell, hC⟩ := HC.out i hlt2
          have hcell2 := (HB.out.cell (World.block_lt_of_cell? w _ hcell)).trans hcell
          have HCi := Aside0.mk (Kd.C_below hC HB.out)
          have hs1 := concat_take l0 i hlt2
          have hs2 := concat_le l0 (i + 1)
          rw [hs1, List.length_append] at hs2
          have HS1 := Aside0.mk hs1
          have HS2 := Aside0.mk hs2
          clear hcell hC hs1 hs2
          go_wp2_with ((with_reducible refine gate_builtin (b := .append) (xs := #[.tmp 31, .tmp 32]) rfl ?_); at_builtin; refine Kd.R_append_rows (Kd.int .u8) (w0 := w) w.heap.size rfl (.tmp 31) (.tmp 32) 24 5 (.int .u8 0) 1 rfl Try.underlying24 info5 rfl (by decide) (by omega) u6 (l0.take i).flatten (l0[i]) _ _ _ (fun _ => True) (fun _ => False) rfl rfl HO.out HCi.out (fun _ _ h => h) (fun _ h => h.elim) (fun _ _ => trivial) HB.out (below_size HB.out) (by have := HS2.out; have := HLEN.out; omega) ?_; intro v4 w4 ho hb hg hat; have HO4 := Aside0.mk ho; have HB4 := Aside0.mk hb; clear HO HB ho hb hg hat)
          go_roundg (l0.length - (i + 1))
          case measure => omega
          case rel => exact ⟨i + 1, by omega, rfl, by go_num, ⟨by rw [HS1.out]; exact HO4.out⟩, HB4⟩
        · obtain rfl : i = l0.length := by omega
          have hO := HO.out
          rw [List.take_length] at hO
          have HO2 := Aside0.mk hO
          clear hO HO
          go_wp2_with fail
          go_ret
          exact ⟨_, rfl, HO2.out, HB.out⟩
end Go.Proofs.Ytbbffnlefmogbaa.X
/- The contract of (*firkinref01.S).Fail: it failed, and has nothing left. -/
namespace Go.Proofs.Ytbbffnlefmogbaa.X
open Go.RowKit Go.Proofs.YtbbffnlefmogbaaW.PrintWords Go.Proofs.YtbbffnlefmogbaaW.PrintLast Go.Proofs.YtbbffnlefmogbaaW.PrintMore
set_option linter.unusedVariables false
set_option linter.unusedSimpArgs false
def firkinref01_S_Fail.f (l : List Int) (bad : Bool) : Option (List Int × Bool) := some ([], true)
set_option maxHeartbeats 8000000 in
set_option maxRecDepth 100000 in
theorem firkinref01_S_Fail.calls (g : Nat) (s0_0 : List Int) (s0_1 : Bool) (r1 : List Int) (r2 : Bool) (w0 w : World) (hI : IsS39 w0 w g s0_0 s0_1) (hB : Below w0.heap.size w0 w) (h : firkinref01_S_Fail.f s0_0 s0_1 = some (r1, r2)) :
    Calls Try.prog 62 #[.pointer (some ⟨g, 0, none⟩)] w fun e w' => e = .returned (.tuple #[]) ∧ IsS39 w0 w' g r1 r2 ∧ Below w0.heap.size w0 w' ∧ KeepBut w w' g none := by
  obtain ⟨rfl, rfl⟩ : [] = r1 ∧ true = r2 := by unfold firkinref01_S_Fail.f at h; injection h with h; injection h with h1 h2; exact ⟨h1, h2⟩
  clear h
  obtain ⟨A0, c0, hb, hg, hr⟩ := hI
  have h0 : w.cell? ⟨g, 0, none⟩ = some (.slice A0 s0_0.length c0) := (blk_cell hb 0).trans rfl
  have h1 : w.cell? ⟨g, 1, none⟩ = some (.bool s0_1) := (blk_cell hb 1).trans rfl
  have f0 := blk_frozen hb 0
  have f1 := blk_frozen hb 1
  have hu := Try.underlying39
  have HB := Aside0.mk hb
  clear hb
  go_enter Try.func62, Try.ntmps62
  go_wp2
  go_end0
  have h2 := blk_set (blk_set HB.out 1 (.bool true)) 0 (.slice none 0 0)
  refine ⟨rfl, ⟨none, 0, by simpa using h2, hg, Kd.C_nil _ _, Nat.le_refl _⟩, below_set (below_set hB hg) hg, ?_⟩
  exact KeepBut.set_ (KeepBut.set_ (KeepBut.refl _ _ _) 1 _) 0 _
end Go.Proofs.Ytbbffnlefmogbaa.X
/- The contract of (*firkinref01.S).Num: the number that the bytes begin with, and what is left behind it; or it failed. -/
namespace Go.Proofs.Ytbbffnlefmogbaa.X
open Go.RowKit Go.Proofs.YtbbffnlefmogbaaW.PrintWords Go.Proofs.YtbbffnlefmogbaaW.PrintLast Go.Proofs.YtbbffnlefmogbaaW.PrintMore
set_option linter.unusedVariables false
set_option linter.unusedSimpArgs false
open Go.Proofs.Ytbbffnlefmogbaa.Dec
def rnumS (l : List Int) (bad : Bool) : Int × List Int × Bool :=
  if szS 0 l = 0 then (0, [], true) else (((valS 0 (l.take (szS 0 l)) : Nat) : Int), l.drop (szS 0 l), bad)
def firkinref01_S_Num.f (l : List Int) (bad : Bool) : Option (Int × List Int × Bool) := if Fit l then some (rnumS l bad) else none
/-- One more byte is put to the number. -/
theorem radd_step {l : List Int} (hb : IsBytes l) {j : Nat} (hj : j < l.length) (hv : valS 0 (l.take (j + 1)) < 18446744073709551616) {c : Int} (hc : l.getD j 0 = c) :
    IntKind.u64.wrap (((valS 0 (l.take j) : Nat) : Int) + IntKind.u64.wrap (c % 128 * 2 ^ (7 * j))) = ((valS 0 (l.take (j + 1)) : Nat) : Int) := by
  have hcb := hb.get j
  rw [valS_take hj] at hv ⊢
  rw [hc] at hcb hv ⊢
  have e : c % 128 = ((c.toNat % 128 : Nat) : Int) := by omega
  rw [e]
  generalize c.toNat % 128 = m at hv ⊢
  generalize valS 0 (l.take j) = v at hv ⊢
  have hcast : (m : Int) * 2 ^ (7 * j) = ((m * 2 ^ (7 * j) : Nat) : Int) := by simp
  rw [hcast, IntKind.wrap_u64, IntKind.wrap_u64]
  generalize m * 2 ^ (7 * j) = x at hv ⊢
  omega
theorem val_small (l : List Int) {j : Nat} (hj : j ≤ 8) : valS 0 (l.take (j + 1)) < 18446744073709551616 := by
  have h := valS_lt (l.take (j + 1)) 0
  have hl : (l.take (j + 1)).length ≤ 9 := by rw [List.length_take]; omega
  have h2 : 2 ^ (7 * (0 + (l.take (j + 1)).length)) ≤ 2 ^ 63 := Nat.pow_le_pow_right (by decide) (by omega)
  exact Nat.lt_of_lt_of_le h (Nat.le_trans h2 (by decide))
set_option maxHeartbeats 8000000 in
set_option maxRecDepth 100000 in
theorem firkinref01_S_Num.calls (g : Nat) (s0_0 : List Int) (s0_1 : Bool) (r1 : Int) (r2 : List Int) (r3 : Bool) (w0 w : World) (hI : IsS39 w0 w g s0_0 s0_1) (hB : Below w0.heap.size w0 w) (h : firkinref01_S_Num.f s0_0 s0_1 = some (r1, r2, r3)) :
    Calls Try.prog 79 #[.pointer (some ⟨g, 0, none⟩)] w fun e w' => e = .returned (.int .u64 r1) ∧ IsS39 w0 w' g r2 r3 ∧ Below w0.heap.size w0 w' ∧ KeepBut w w' g none := by
  unfold firkinref01_S_Num.f at h
  by_cases hf : Fit s0_0
  case neg => rw [if_neg hf] at h; cases h
  rw [if_pos hf] at h
  have h := Option.some.inj h
  unfold rnumS at h
  have hu := Try.underlying39
  have HSTEP := Lib.hid (fun (j : Nat) (c : Int) => radd_step hf.1 (j := j) (c := c))
  have hle := szS_le s0_0 0 (by decide)
  have hlen := hf.2
  have HI := Aside0.mk hI
  have HH := Aside0.mk h
  have HF := Aside0.mk hf.1
  clear h
  obtain ⟨A1, c1, hb1, hg1, hr1, hc1⟩ := hI
  have h0 : w.cell? ⟨g, 0, none⟩ = some (.slice A1 s0_0.length c1) := (blk_cell hb1 0).trans rfl
  have HB1 := Aside0.mk hb1
  clear hb1
  go_enter Try.func79, Try.ntmps79
  go_wp2_with fail
  go_loop [3, 4] (fun n i => ∃ j : Nat, j ≤ 9 ∧ j ≤ s0_0.length ∧ Aside0 (szS 0 s0_0 = szS j (s0_0.drop j)) ∧ i = .int .i64 (j : Int) ∧ n = .int .u64 ((valS 0 (s0_0.take j) : Nat) : Int)) (fun _ i => 10 - (intOf i).toNat)
  case atStart => exact ⟨0, Nat.zero_le _, Nat.zero_le _, ⟨by rw [List.drop_zero]⟩, rfl, rfl⟩
  case round =>
    obtain ⟨j, hj9, hjl, HINV, rfl, rfl⟩ := hrel
    have hb10 : decide ((j : Int) < 10) = true := decide_eq_true (by omega)
    by_cases hlt : j < s0_0.length
    · have hrw := Kd.C_below hr1 hB
      obtain ⟨ad, ead, hcell⟩ := Kd.at_int hrw (j : Int) (by omega) (by omega)
      subst ead
      have hcb := hf.1.get j
      have hinv := HINV.out
      rw [drop_get hlt] at hinv
      have hcell2 : w.cell? (ad.add j) = some (.int .u8 (s0_0.getD j 0)) := hcell
      clear hcell hrw
      obtain ⟨c, hcd⟩ : ∃ c, s0_0.getD j 0 = c := ⟨_, rfl⟩
      rw [hcd] at hcb hinv hcell2
      have HCD := Lib.hid hcd
      clear hcd
      have hcw : IntKind.u64.wrap c = c := by rw [IntKind.wrap_u64]; omega
      have hbl : decide ((j : Int) < (s0_0.length : Int)) = true := decide_eq_true (by omega)
      have hbl2 : decide (j < s0_0.length) = true := decide_eq_true hlt
      rw [szS] at hinv
      obtain ⟨b9, b1, b0, bz, h9, h1, h0', hz, hbrk⟩ : ∃ b9 b1 b0 bz : Bool, ((j : Int) == 9) = b9 ∧ decide (1 < c) = b1 ∧ decide (0 < (j : Int)) = b0 ∧ (c == 0) = bz ∧ (((b9 && b1) || (b0 && bz)) = true ↔ ((j = 9 ∧ 1 < c) ∨ (0 < j ∧ c = 0))) :=
        ⟨_, _, _, _, rfl, rfl, rfl, rfl, by
          simp only [Bool.or_eq_true, Bool.and_eq_true, beq_iff_eq, decide_eq_true_eq]; omega⟩
      have h0n : decide (0 < j) = b0 := by rw [← h0']; simp
      have h9n : (j == 9) = b9 := by rw [← h9]; rw [Bool.eq_iff_iff]; simp only [beq_iff_eq]; omega
      by_cases hA : (j = 9 ∧ 1 < c) ∨ (0 < j ∧ c = 0)
      · rw [if_pos hA] at hinv
        have hbrk := hbrk.mpr hA
        have HV := Lib.hid hinv
        clear hinv hA
        cases b9 <;> cases b1 <;> cases b0 <;> cases bz <;> first
          | (exact absurd hbrk (by decide))
          | (clear hbrk
             go_wp2_with fail
             refine (firkinref01_S_Fail.calls g s0_0 s0_1 [] true w0 _ HI.out hB rfl).mono ?_
             rintro e w2 ⟨rfl, hI2, hB2, hK2⟩
             have h := HH.out
             rw [HV.out, if_pos rfl] at h
             simp only [Prod.mk.injEq] at h
             obtain ⟨rfl, rfl, rfl⟩ := h
             go_wp2_with fail
             go_ret
             exact ⟨rfl, hI2, hB2, hK2⟩)
      · rw [if_neg hA] at hinv
        have hbrk := Bool.eq_false_iff.mpr (fun hh => hA (hbrk.mp hh))
        by_cases hc : c < 128
        · rw [if_pos hc] at hinv
          have hcb2 : decide (c < 128) = true := decide_eq_true hc
          have hst := HSTEP.out j c hlt (by rw [← hinv]; exact val_lt hf.1 (Nat.le_refl _)) HCD.out
          have HST := Lib.hid hst
          have f0 := blk_frozen HB1.out 0
          have HD := Lib.hid (Kd.C_drop (m := j + 1) hr1 (by omega) hc1)
          have HL := Lib.hid (show (s0_0.drop (j + 1)).length = s0_0.length - (j + 1) from List.length_drop)
          have HV := Lib.hid hinv
          clear hst hinv hA
          by_cases hcj : c1 = j + 1
          · subst hcj
            have hl0 : s0_0.length - (j + 1) = 0 := by omega
            have HL0 := Lib.hid hl0
            clear hl0
            cases b9 <;> cases b1 <;> cases b0 <;> cases bz <;> first
              | (exact absurd hbrk (by decide))
              | (clear hbrk
                 go_wp2_with fail
                 go_ret
                 have h := HH.out
                 rw [HV.out, if_neg (by omega)] at h
                 simp only [Prod.mk.injEq] at h
                 obtain ⟨rfl, rfl, rfl⟩ := h
                 refine ⟨by rw [HST.out]; rfl, ⟨some ad, 0, ?_, hg1, ?_, ?_⟩, below_set hB hg1, KeepBut.set_ (KeepBut.refl _ _ _) 0 _⟩
                 · have h2 := blk_set HB1.out 0 (.slice (some ad) 0 0)
                   have e : (s0_0.drop (j + 1)).length = 0 := by rw [HL.out]; exact HL0.out
                   first | rw [e, HL0.out] | rw [e]
                   simpa using h2
                 · have := HD.out
                   simp only [if_true] at this
                   exact this
                 · rw [HL.out]; omega)
          · cases b9 <;> cases b1 <;> cases b0 <;> cases bz <;> first
              | (exact absurd hbrk (by decide))
              | (clear hbrk
                 go_wp2_with fail
                 go_ret
                 have h := HH.out
                 rw [HV.out, if_neg (by omega)] at h
                 simp only [Prod.mk.injEq] at h
                 obtain ⟨rfl, rfl, rfl⟩ := h
                 refine ⟨by rw [HST.out]; rfl, ⟨some (ad.add (j + 1)), c1 - (j + 1), ?_, hg1, ?_, ?_⟩, below_set hB hg1, KeepBut.set_ (KeepBut.refl _ _ _) 0 _⟩
                 · have h2 := blk_set HB1.out 0 (.slice (some (ad.add (j + 1))) (s0_0.length - (j + 1)) (c1 - (j + 1)))
                   rw [← HL.out] at h2
                   rw [← HL.out]
                   simp at h2
                   first | exact h2 | (simp; exact h2)
                 · have := HD.out
                   rw [if_neg hcj] at this
                   have e : (Kd.int .u8).sz = 1 := rfl
                   rw [e, Nat.mul_one] at this
                   exact this
                 · rw [HL.out]; omega)
        · have hj9' : j ≠ 9 := by rintro rfl; omega
          have hcb2 : decide (c < 128) = false := decide_eq_false hc
          rw [if_neg hc, if_neg hj9'] at hinv
          have HV := Lib.hid hinv
          clear hinv hA
          have HST := Lib.hid (HSTEP.out j c hlt (val_small _ (by omega)) HCD.out)
          cases b9 <;> cases b1 <;> cases b0 <;> cases bz <;> first
            | (exact absurd hbrk (by decide))
            | (clear hbrk
               go_wp2_with fail
               go_round
               case rel => exact ⟨j + 1, by omega, by omega, ⟨HV.out⟩, by go_num, by rw [HST.out]⟩
               case measure => simp [intOf]; omega)
    · have hbl : decide ((j : Int) < (s0_0.length : Int)) = false := decide_eq_false (by omega)
      have hbl2 : decide (j < s0_0.length) = false := decide_eq_false hlt
      have hinv := HINV.out
      rw [List.drop_eq_nil_of_le (by omega), szS] at hinv
      have HV := Lib.hid hinv
      clear hinv
      go_wp2_with fail
      refine (firkinref01_S_Fail.calls g s0_0 s0_1 [] true w0 _ HI.out hB rfl).mono ?_
      rintro e w2 ⟨rfl, hI2, hB2, hK2⟩
      have h := HH.out
      rw [HV.out, if_pos rfl] at h
      simp only [Prod.mk.injEq] at h
      obtain ⟨rfl, rfl, rfl⟩ := h
      go_wp2_with fail
      go_ret
      exact ⟨rfl, hI2, hB2, hK2⟩
end Go.Proofs.Ytbbffnlefmogbaa.X
-- Printed for this claim by a program of this session (wip/xprint.py) over the kit's printer; Lean checks it.
namespace Go.Proofs.Ytbbffnlefmogbaa.X
open Go.RowKit Go.Proofs.YtbbffnlefmogbaaW.PrintWords Go.Proofs.YtbbffnlefmogbaaW.PrintLast Go.Proofs.YtbbffnlefmogbaaW.PrintMore
attribute [local go_sem] max2_int min2_int max_two min_two max_three min_three max_four min_four   -- for this text's walks alone
set_option linter.unusedVariables false
set_option linter.unusedSimpArgs false

/-! ### firkinref01_S_Int: function 52 -/
def firkinref01_S_Int.f (s0_0 : List Int) (s0_1 : Bool) : Option (Int × List Int × Bool) := (firkinref01_S_Num.f s0_0 s0_1).bind fun bt123 => (if (Int.tmod bt123.1 2) = 1 then (some (wrap64 ((wrap64 (-(wrap64 (IntKind.u64.wrap (Int.tdiv bt123.1 2))))) - 1), bt123.2.1, bt123.2.2)) else (some (wrap64 (IntKind.u64.wrap (Int.tdiv bt123.1 2)), bt123.2.1, bt123.2.2)))
set_option maxHeartbeats 8000000 in
set_option maxRecDepth 100000 in
theorem firkinref01_S_Int.calls (g : Nat) (s0_0 : List Int) (s0_1 : Bool) (r1 : Int) (r2 : List Int) (r3 : Bool) (w0 w : World) (hI : IsS39 w0 w g s0_0 s0_1) (hB : Below w0.heap.size w0 w) (h : firkinref01_S_Int.f s0_0 s0_1 = some (r1, r2, r3)) :
    Calls Try.prog 52 #[.pointer (some ⟨g, 0, none⟩)] w fun e w' => e = .returned (.int .i64 r1) ∧ IsS39 w0 w' g r2 r3 ∧ Below w0.heap.size w0 w' ∧ KeepBut w w' g none := by
  have HI0 := Aside0.mk hI
  have HK := Aside0.mk (KeepBut.refl w g none)
  have HL := Aside0.mk hB.size
  clear hI
  have HW0 := Aside0.mk hB.size
  have HB := Aside0.mk hB
  clear hB
  have H : ((firkinref01_S_Num.f s0_0 s0_1).bind fun bt123 => (if (Int.tmod bt123.1 2) = 1 then (some (wrap64 ((wrap64 (-(wrap64 (IntKind.u64.wrap (Int.tdiv bt123.1 2))))) - 1), bt123.2.1, bt123.2.2)) else (some (wrap64 (IntKind.u64.wrap (Int.tdiv bt123.1 2)), bt123.2.1, bt123.2.2)))) = some (r1, r2, r3) := h
  clear h
  replace H := Option.bind_eq_some_iff.mp H
  obtain ⟨⟨t123, t124, t125⟩, A20, H⟩ := H
  replace H : (if (Int.tmod t123 2) = 1 then (some (wrap64 ((wrap64 (-(wrap64 (IntKind.u64.wrap (Int.tdiv t123 2))))) - 1), t124, t125)) else (some (wrap64 (IntKind.u64.wrap (Int.tdiv t123 2)), t124, t125))) = some (r1, r2, r3) := H
  have A2 := Aside0.mk A20
  clear A20
  by_cases c3 : (Int.tmod t123 2) = 1
  · rw [if_pos c3] at H
    have c3b0 : ((Int.tmod t123 2) == 1) = true := beq_iff_eq.mpr c3
    have c3b1 : ((Int.tmod t123 2) != 1) = false := bne_eq_false_iff_eq.mpr c3
    clear c3
    simp only [Option.some.injEq, Prod.mk.injEq] at H
    obtain ⟨rfl, rfl, rfl⟩ := H
    go_enter Try.func52, Try.ntmps52
    go_wp2_with (first | ((with_reducible refine gate_callee (f := 79) rfl ?_); refine goesL_ (some 5) rfl rfl Try.func79 (by kernel_rfl) rfl #[.pointer (some ⟨g, 0, none⟩)] rfl (by (try simp only [List.map_toArray, List.map_cons, List.map_nil]); first | done | rfl | (simp only [List.length_drop, List.length_take]; rfl)) ?_; (with_reducible refine (firkinref01_S_Num.calls g s0_0 s0_1 t123 t124 t125 w0 _ ?side1 ?side2 A2.out).mono ?_); (case side1 => repeat (first | (with_reducible first | exact HI0.out | apply IsS39.alloc | apply IsS39.drewN | apply IsS39.drew | apply IsS39.set_0 | apply IsS39.set_1) | exact HI0.out)); (case side2 => repeat (first | (with_reducible first | exact HB.out | apply below_alloc | apply pw_below_drewN | apply below_drew1 | refine below_set ?_ (IsS39.ge HI0.out)) | exact HB.out)); rintro e w4 ⟨rfl, hi, hb, hk⟩; refine ⟨_, rfl, ?_⟩; have n0_ := Aside0.mk (KeepBut.trans (by repeat (first | (with_reducible first | exact HK.out | apply KeepBut.set_ | apply keep_drewN | apply keep_drew | apply keep_alloc) | exact HK.out)) hk (.inl rfl)); have n1_ := Aside0.mk (hb); have n2_ := Aside0.mk (hi); clear HK; clear HB; clear HI0; have HK := n0_; have HB := n1_; have HI0 := n2_; clear n0_ n1_ n2_; (try clear hb); (try clear hb2); (try clear hk); (try clear hi)))
    go_ret
    exact ⟨by first | rfl | (simp [errW_none, errW_some] <;> rfl) | (simp [*, errW_none, errW_some] <;> rfl), by repeat (first | (with_reducible first | exact HI0.out | apply IsS39.alloc | apply IsS39.drewN | apply IsS39.drew | apply IsS39.set_0 | apply IsS39.set_1) | exact HI0.out), by repeat (first | (with_reducible first | exact HB.out | apply below_alloc | apply pw_below_drewN | apply below_drew1 | refine below_set ?_ (IsS39.ge HI0.out)) | exact HB.out), by repeat (first | (with_reducible first | exact HK.out | apply KeepBut.set_ | apply keep_drewN | apply keep_drew | apply keep_alloc) | exact HK.out)⟩
  · rw [if_neg c3] at H
    have c3b0 : ((Int.tmod t123 2) == 1) = false := beq_eq_false_iff_ne.mpr c3
    have c3b1 : ((Int.tmod t123 2) != 1) = true := bne_iff_ne.mpr c3
    simp only [Option.some.injEq, Prod.mk.injEq] at H
    obtain ⟨rfl, rfl, rfl⟩ := H
    go_enter Try.func52, Try.ntmps52
    go_wp2_with (first | ((with_reducible refine gate_callee (f := 79) rfl ?_); refine goesL_ (some 5) rfl rfl Try.func79 (by kernel_rfl) rfl #[.pointer (some ⟨g, 0, none⟩)] rfl (by (try simp only [List.map_toArray, List.map_cons, List.map_nil]); first | done | rfl | (simp only [List.length_drop, List.length_take]; rfl)) ?_; (with_reducible refine (firkinref01_S_Num.calls g s0_0 s0_1 t123 t124 t125 w0 _ ?side1 ?side2 A2.out).mono ?_); (case side1 => repeat (first | (with_reducible first | exact HI0.out | apply IsS39.alloc | apply IsS39.drewN | apply IsS39.drew | apply IsS39.set_0 | apply IsS39.set_1) | exact HI0.out)); (case side2 => repeat (first | (with_reducible first | exact HB.out | apply below_alloc | apply pw_below_drewN | apply below_drew1 | refine below_set ?_ (IsS39.ge HI0.out)) | exact HB.out)); rintro e w5 ⟨rfl, hi, hb, hk⟩; refine ⟨_, rfl, ?_⟩; have n0_ := Aside0.mk (KeepBut.trans (by repeat (first | (with_reducible first | exact HK.out | apply KeepBut.set_ | apply keep_drewN | apply keep_drew | apply keep_alloc) | exact HK.out)) hk (.inl rfl)); have n1_ := Aside0.mk (hb); have n2_ := Aside0.mk (hi); clear HK; clear HB; clear HI0; have HK := n0_; have HB := n1_; have HI0 := n2_; clear n0_ n1_ n2_; (try clear hb); (try clear hb2); (try clear hk); (try clear hi)))
    go_ret
    exact ⟨by first | rfl | (simp [errW_none, errW_some] <;> rfl) | (simp [*, errW_none, errW_some] <;> rfl), by repeat (first | (with_reducible first | exact HI0.out | apply IsS39.alloc | apply IsS39.drewN | apply IsS39.drew | apply IsS39.set_0 | apply IsS39.set_1) | exact HI0.out), by repeat (first | (with_reducible first | exact HB.out | apply below_alloc | apply pw_below_drewN | apply below_drew1 | refine below_set ?_ (IsS39.ge HI0.out)) | exact HB.out), by repeat (first | (with_reducible first | exact HK.out | apply KeepBut.set_ | apply keep_drewN | apply keep_drew | apply keep_alloc) | exact HK.out)⟩

/-! ### firkinref01_Num: function 66 -/
def firkinref01_Num.l0 : Nat → Int → List Int → Option (List Int)
  | 0, _, _ => none
  | k + 1, x0, x3 => if x0 > 127 then (if x3.length < 140737488355328 then (firkinref01_Num.l0 k (IntKind.u64.wrap (Int.tdiv x0 128)) (x3 ++ [(IntKind.u64.wrap ((Int.tmod x0 128) + 128)) % 256])) else (none)) else (if x3.length < 140737488355328 then (some (x3 ++ [(x0) % 256])) else (none))
def firkinref01_Num.f (k : Nat) (a0 : Int) : Option (List Int) := firkinref01_Num.l0 k a0 (([] : List Int))
theorem firkinref01_Num.mono_l : ∀ k, (∀ y0 y1, LeO (firkinref01_Num.l0 k y0 y1) (firkinref01_Num.l0 (k + 1) y0 y1))
  | 0 => fun _ _ r h => by simp [firkinref01_Num.l0] at h
  | k + 1 => by
    have ih0 := firkinref01_Num.mono_l k
    · intro y0 y1
      unfold firkinref01_Num.l0
      repeat' first
      | (with_reducible exact ih0 _ _)
      | (with_reducible exact LeO.refl _)
      | (with_reducible exact LeO.none _)
      | (with_reducible refine LeO.ite ?_ ?_)
      | (with_reducible refine LeO.bind ?_ (fun _ => ?_))
      | exact ih0 _ _
      | exact LeO.none _
      | refine LeO.ite ?_ ?_
      | refine LeO.bind ?_ (fun _ => ?_)
theorem firkinref01_Num.mono : ∀ a0 k, LeO (firkinref01_Num.f k a0) (firkinref01_Num.f (k + 1) a0) := by
  intro a0 k
  have ih0 := firkinref01_Num.mono_l k
  unfold firkinref01_Num.f
  repeat' first
      | (with_reducible exact ih0 _ _)
      | (with_reducible exact LeO.refl _)
      | (with_reducible exact LeO.none _)
      | (with_reducible refine LeO.ite ?_ ?_)
      | (with_reducible refine LeO.bind ?_ (fun _ => ?_))
      | exact ih0 _ _
      | exact LeO.none _
      | refine LeO.ite ?_ ?_
      | refine LeO.bind ?_ (fun _ => ?_)
set_option maxHeartbeats 8000000 in
set_option maxRecDepth 100000 in
theorem firkinref01_Num.calls (k : Nat) (a0 : Int) (r : List Int) (w : World) (h : firkinref01_Num.f k a0 = some r) :
    Calls Try.prog 66 #[.int .u64 a0] w fun e w' => ∃ v0_ : Value, e = .returned (v0_) ∧ Kd.R (Kd.int .u8) 5 w' w.heap.size (fun _ => True) v0_ r ∧ Below w.heap.size w w' := by
  have HB := Aside0.mk (Below.refl w.heap.size w)
  have H : (firkinref01_Num.l0 k a0 (([] : List Int))) = some r := h
  clear h
  obtain ⟨y126, hy126⟩ : ∃ y_ : List Int, y_ = (([] : List Int)) := ⟨_, rfl⟩
  replace H : (firkinref01_Num.l0 k a0 y126) = some r := by first | (rw [hy126]; with_reducible exact H) | (have H2_ := (Option.bind_some _ _).symm.trans H; rw [hy126]; with_reducible exact H2_) | (have H2_ := (Option.bind_some _ _).symm.trans H; with_reducible exact H2_) | with_reducible exact H | (rw [hy126]; exact H) | exact H
  have Ny126 := Aside0.mk hy126
  clear hy126
  have H' := Aside0.mk H
  clear H
  go_enter Try.func66, Try.ntmps66
  go_wp2_with (first | ((with_reducible refine gate_dst (N := 4) rfl ?_); refine Kd.R_lit (Kd.int .u8) _ 5 ?hg (N := 4) ?hd (xs := ([] : List Int)) (inner := []) (ok := fun _ => True) (okp := fun _ => True) ?hr ?hp (fun _ hk => hk) trivial (Below.refl _ _) (Nat.le_refl _) (by simp) ?_; (case hd => rfl); (case hg => rfl); (case hr => first | (go_simp; done) | (go_simp; rfl)); (case hp => exact (Reps.none _ _)); intro v127 w2 ho3 hb hg_ hnew_; clear hg_ hnew_; (first | rw [← Ny126.out] at ho3 | (simp only [Int.reduceToNat] at ho3; rw [← Ny126.out] at ho3)); have n0_ := Aside0.mk (Kd.R_lower ho3 (below_size (by repeat (first | (with_reducible first | exact HB.out | apply below_alloc | apply pw_below_drewN | apply below_drew1) | exact HB.out)))); have n1_ := Aside0.mk (below_step (by repeat (first | (with_reducible first | exact HB.out | apply below_alloc | apply pw_below_drewN | apply below_drew1) | exact HB.out)) hb); clear HB; have HO128 := n0_; have HB := n1_; clear n0_ n1_; clear hb ho3))
  go_loopg [0, 3] k (fun kq v0 v3 w' => ∃ (x0_1 : Int) (x3_1 : List Int), v0 = .int .u64 x0_1 ∧ Aside0 (firkinref01_Num.l0 kq x0_1 x3_1 = some r) ∧ Aside0 (kq ≤ k) ∧ Aside0 (Kd.R (Kd.int .u8) 5 w' w.heap.size (fun _ => True) v3 x3_1) ∧ Aside0 (Below w.heap.size w w'))
  case atStart => exact ⟨(a0), (y126), (by first | rfl | (simp; done) | (simp [*]; done)), H', ⟨Nat.le_refl _⟩, ⟨by (with_reducible repeat (first | apply Kd.R_alloc | apply Kd.R_drewN | apply Kd.R_drew)); exact HO128.out⟩, ⟨by repeat (first | (with_reducible first | exact HB.out | apply below_alloc | apply pw_below_drewN | apply below_drew1) | exact HB.out)⟩⟩
  case round =>
    clear H'
    try clear p2
    obtain ⟨x0_1, x3_1, rfl, HA, HK1, HO_3, HB⟩ := hrel
    cases gk with
    | zero => exact absurd HA.out (by simp [firkinref01_Num.l0])
    | succ k1 =>
      have H := HA.out
      clear HA
      simp only [firkinref01_Num.l0] at H
      by_cases c4 : x0_1 > 127
      · rw [if_pos c4] at H
        have c4b0 : decide (127 < x0_1) = true := decide_eq_true c4
        clear c4
        by_cases c5 : x3_1.length < 140737488355328
        · rw [if_pos c5] at H
          have LMc5 := Aside0.mk c5
          clear c5
          obtain ⟨y129, hy129⟩ : ∃ y_ : List Int, y_ = (x3_1 ++ [(IntKind.u64.wrap ((Int.tmod x0_1 128) + 128)) % 256]) := ⟨_, rfl⟩
          replace H : (firkinref01_Num.l0 k1 (IntKind.u64.wrap (Int.tdiv x0_1 128)) y129) = some r := by first | (rw [hy129]; with_reducible exact H) | (have H2_ := (Option.bind_some _ _).symm.trans H; rw [hy129]; with_reducible exact H2_) | (have H2_ := (Option.bind_some _ _).symm.trans H; with_reducible exact H2_) | with_reducible exact H | (rw [hy129]; exact H) | exact H
          have Ny129 := Aside0.mk hy129
          clear hy129
          have H' := Aside0.mk H
          clear H
          go_wp2_with (first | ((with_reducible refine gate_builtin (b := .append) (xs := #[.tmp 7, .tmp 12]) rfl ?_); at_builtin; refine Kd.R_append (Kd.int .u8) (w0 := w) w.heap.size rfl (.tmp 7) (.tmp 12) 24 5 (.int .u8 0) 1 rfl Try.underlying24 info5 rfl (by decide) (by omega) u3 x3_1 ((IntKind.u64.wrap ((Int.tmod x0_1 128) + 128)) % 256) [.int .u8 ((IntKind.u64.wrap ((Int.tmod x0_1 128) + 128)) % 256)] (fun _ => True) (fun _ => False) rfl rfl ?aP (fun _ hk => hk.elim) ?aF ?aO ?aB ?aS ?aL ?_; (case aP => exact rfl); (case aB => exact (by repeat (first | (with_reducible first | exact HB.out | apply below_alloc | apply pw_below_drewN | apply below_drew1) | exact HB.out))); (case aF => exact (fun _ _ => trivial)); (case aO => exact (by (with_reducible repeat (first | apply Kd.R_alloc | apply Kd.R_drewN | apply Kd.R_drew)); exact HO_3.out)); (case aS => exact (below_size (by repeat (first | (with_reducible first | exact HB.out | apply below_alloc | apply pw_below_drewN | apply below_drew1) | exact HB.out)))); (case aL => have := LMc5.out; omega); intro v130 w6 ho hb hg hat; rw [← Ny129.out] at ho; have n0_ := Aside0.mk (hb); have n1_ := Aside0.mk (ho); clear HB; clear HO_3; have HB := n0_; have HO131 := n1_; clear n0_ n1_; clear ho hb hg hat))
          go_roundg k1
          case measure => have := HK1.out; omega
          case rel => exact ⟨(IntKind.u64.wrap (Int.tdiv x0_1 128)), (y129), (by first | rfl | (simp; done) | (simp [*]; done)), H', ⟨by have := HK1.out; omega⟩, ⟨by (with_reducible repeat (first | apply Kd.R_alloc | apply Kd.R_drewN | apply Kd.R_drew)); exact HO131.out⟩, ⟨by repeat (first | (with_reducible first | exact HB.out | apply below_alloc | apply pw_below_drewN | apply below_drew1) | exact HB.out)⟩⟩
        · rw [if_neg c5] at H
          exact absurd H (by simp)
      · rw [if_neg c4] at H
        have c4b0 : decide (127 < x0_1) = false := decide_eq_false c4
        clear c4
        by_cases c7 : x3_1.length < 140737488355328
        · rw [if_pos c7] at H
          have LMc7 := Aside0.mk c7
          clear c7
          obtain ⟨y132, hy132⟩ : ∃ y_ : List Int, y_ = (x3_1 ++ [(x0_1) % 256]) := ⟨_, rfl⟩
          replace H : (some y132) = some r := by first | (rw [hy132]; with_reducible exact H) | (have H2_ := (Option.bind_some _ _).symm.trans H; rw [hy132]; with_reducible exact H2_) | (have H2_ := (Option.bind_some _ _).symm.trans H; with_reducible exact H2_) | with_reducible exact H | (rw [hy132]; exact H) | exact H
          have Ny132 := Aside0.mk hy132
          clear hy132
          obtain rfl := Option.some.inj H
          go_wp2_with (first | ((with_reducible refine gate_builtin (b := .append) (xs := #[.tmp 16, .tmp 19]) rfl ?_); at_builtin; refine Kd.R_append (Kd.int .u8) (w0 := w) w.heap.size rfl (.tmp 16) (.tmp 19) 24 5 (.int .u8 0) 1 rfl Try.underlying24 info5 rfl (by decide) (by omega) u3 x3_1 ((x0_1) % 256) [.int .u8 ((x0_1) % 256)] (fun _ => True) (fun _ => False) rfl rfl ?aP (fun _ hk => hk.elim) ?aF ?aO ?aB ?aS ?aL ?_; (case aP => exact rfl); (case aB => exact (by repeat (first | (with_reducible first | exact HB.out | apply below_alloc | apply pw_below_drewN | apply below_drew1) | exact HB.out))); (case aF => exact (fun _ _ => trivial)); (case aO => exact (by (with_reducible repeat (first | apply Kd.R_alloc | apply Kd.R_drewN | apply Kd.R_drew)); exact HO_3.out)); (case aS => exact (below_size (by repeat (first | (with_reducible first | exact HB.out | apply below_alloc | apply pw_below_drewN | apply below_drew1) | exact HB.out)))); (case aL => have := LMc7.out; omega); intro v133 w8 ho hb hg hat; rw [← Ny132.out] at ho; have n0_ := Aside0.mk (hb); have n1_ := Aside0.mk (ho); clear HB; clear HO_3; have HB := n0_; have HO134 := n1_; clear n0_ n1_; clear ho hb hg hat))
          go_ret
          exact ⟨_, by first | rfl | (simp [errW_none, errW_some] <;> rfl) | (simp [*, errW_none, errW_some] <;> rfl), by (with_reducible repeat (first | apply Kd.R_alloc | apply Kd.R_drewN | apply Kd.R_drew)); exact HO134.out, by repeat (first | (with_reducible first | exact HB.out | apply below_alloc | apply pw_below_drewN | apply below_drew1) | exact HB.out)⟩
        · rw [if_neg c7] at H
          exact absurd H (by simp)

/-! ### firkinref01_Int: function 51 -/
def firkinref01_Int.f (k : Nat) (a0 : Int) : Option (List Int) := if a0 < 0 then ((firkinref01_Num.f k (IntKind.u64.wrap ((IntKind.u64.wrap (2 * (IntKind.u64.wrap (-(IntKind.u64.wrap (a0)))))) - 1))).bind fun t135 => (some t135)) else ((firkinref01_Num.f k (IntKind.u64.wrap (2 * (IntKind.u64.wrap (a0))))).bind fun t138 => (some t138))
theorem firkinref01_Int.mono : ∀ a0 k, LeO (firkinref01_Int.f k a0) (firkinref01_Int.f (k + 1) a0) := by
  intro a0 k
  unfold firkinref01_Int.f
  repeat' first
      | (with_reducible exact firkinref01_Num.mono _ _)
      | (with_reducible exact LeO.refl _)
      | (with_reducible exact LeO.none _)
      | (with_reducible refine LeO.ite ?_ ?_)
      | (with_reducible refine LeO.bind ?_ (fun _ => ?_))
      | exact firkinref01_Num.mono _ _
      | exact LeO.none _
      | refine LeO.ite ?_ ?_
      | refine LeO.bind ?_ (fun _ => ?_)
set_option maxHeartbeats 8000000 in
set_option maxRecDepth 100000 in
theorem firkinref01_Int.calls (k : Nat) (a0 : Int) (r : List Int) (w : World) (h : firkinref01_Int.f k a0 = some r) :
    Calls Try.prog 51 #[.int .i64 a0] w fun e w' => ∃ v0_ : Value, e = .returned (v0_) ∧ Kd.R (Kd.int .u8) 5 w' w.heap.size (fun _ => True) v0_ r ∧ Below w.heap.size w w' := by
  have HB := Aside0.mk (Below.refl w.heap.size w)
  have H : (if a0 < 0 then ((firkinref01_Num.f k (IntKind.u64.wrap ((IntKind.u64.wrap (2 * (IntKind.u64.wrap (-(IntKind.u64.wrap (a0)))))) - 1))).bind fun t135 => (some t135)) else ((firkinref01_Num.f k (IntKind.u64.wrap (2 * (IntKind.u64.wrap (a0))))).bind fun t138 => (some t138))) = some r := h
  clear h
  by_cases c2 : a0 < 0
  · rw [if_pos c2] at H
    have c2b0 : decide (a0 < 0) = true := decide_eq_true c2
    clear c2
    replace H := Option.bind_eq_some_iff.mp H
    obtain ⟨t135, A30, H⟩ := H
    replace H : (some t135) = some r := H
    have A3 := Aside0.mk A30
    clear A30
    obtain rfl := Option.some.inj H
    go_enter Try.func51, Try.ntmps51
    go_wp2_with (first | ((with_reducible refine gate_callee (f := 66) rfl ?_); refine goesL_ (some 12) rfl rfl Try.func66 (by kernel_rfl) rfl #[.int .u64 (IntKind.u64.wrap ((IntKind.u64.wrap (2 * (IntKind.u64.wrap (-(IntKind.u64.wrap (a0)))))) - 1))] rfl (by (try simp only [List.map_toArray, List.map_cons, List.map_nil]); first | done | rfl | (simp only [List.length_drop, List.length_take]; rfl)) ?_; (with_reducible refine (firkinref01_Num.calls k (IntKind.u64.wrap ((IntKind.u64.wrap (2 * (IntKind.u64.wrap (-(IntKind.u64.wrap (a0)))))) - 1)) t135 _ A3.out).mono ?_); rintro e w4 ⟨v136, rfl, ho0, hb⟩; refine ⟨_, rfl, ?_⟩; have n0_ := Aside0.mk (Kd.R_lower ho0 (below_size (by repeat (first | (with_reducible first | exact HB.out | apply below_alloc | apply pw_below_drewN | apply below_drew1) | exact HB.out)))); have n1_ := Aside0.mk (below_step (by repeat (first | (with_reducible first | exact HB.out | apply below_alloc | apply pw_below_drewN | apply below_drew1) | exact HB.out)) hb); clear HB; have HO137 := n0_; have HB := n1_; clear n0_ n1_; (try clear hb); (try clear hb2); (try clear hk); (try clear hi); (try clear ho0)))
    go_ret
    exact ⟨_, by first | rfl | (simp [errW_none, errW_some] <;> rfl) | (simp [*, errW_none, errW_some] <;> rfl), by (with_reducible repeat (first | apply Kd.R_alloc | apply Kd.R_drewN | apply Kd.R_drew)); exact HO137.out, by repeat (first | (with_reducible first | exact HB.out | apply below_alloc | apply pw_below_drewN | apply below_drew1) | exact HB.out)⟩
  · rw [if_neg c2] at H
    have c2b0 : decide (a0 < 0) = false := decide_eq_false c2
    clear c2
    replace H := Option.bind_eq_some_iff.mp H
    obtain ⟨t138, A50, H⟩ := H
    replace H : (some t138) = some r := H
    have A5 := Aside0.mk A50
    clear A50
    obtain rfl := Option.some.inj H
    go_enter Try.func51, Try.ntmps51
    go_wp2_with (first | ((with_reducible refine gate_callee (f := 66) rfl ?_); refine goesL_ (some 15) rfl rfl Try.func66 (by kernel_rfl) rfl #[.int .u64 (IntKind.u64.wrap (2 * (IntKind.u64.wrap (a0))))] rfl (by (try simp only [List.map_toArray, List.map_cons, List.map_nil]); first | done | rfl | (simp only [List.length_drop, List.length_take]; rfl)) ?_; (with_reducible refine (firkinref01_Num.calls k (IntKind.u64.wrap (2 * (IntKind.u64.wrap (a0)))) t138 _ A5.out).mono ?_); rintro e w6 ⟨v139, rfl, ho0, hb⟩; refine ⟨_, rfl, ?_⟩; have n0_ := Aside0.mk (Kd.R_lower ho0 (below_size (by repeat (first | (with_reducible first | exact HB.out | apply below_alloc | apply pw_below_drewN | apply below_drew1) | exact HB.out)))); have n1_ := Aside0.mk (below_step (by repeat (first | (with_reducible first | exact HB.out | apply below_alloc | apply pw_below_drewN | apply below_drew1) | exact HB.out)) hb); clear HB; have HO140 := n0_; have HB := n1_; clear n0_ n1_; (try clear hb); (try clear hb2); (try clear hk); (try clear hi); (try clear ho0)))
    go_ret
    exact ⟨_, by first | rfl | (simp [errW_none, errW_some] <;> rfl) | (simp [*, errW_none, errW_some] <;> rfl), by (with_reducible repeat (first | apply Kd.R_alloc | apply Kd.R_drewN | apply Kd.R_drew)); exact HO140.out, by repeat (first | (with_reducible first | exact HB.out | apply below_alloc | apply pw_below_drewN | apply below_drew1) | exact HB.out)⟩

/-! ### slices_Min_int64_int64: function 41 -/
def slices_Min_int64_int64.l0 : Nat → List Int → Int → Int → Option (Int)
  | 0, _, _, _ => none
  | k + 1, x0, x3, x4 => if x4 < (x0.length : Int) then (if 0 ≤ x4 then (slices_Min_int64_int64.l0 k x0 (mn x3 (rd x0 x4)) (wrap64 (x4 + 1))) else (none)) else (some x3)
def slices_Min_int64_int64.f (k : Nat) (l0 : List Int) : Option (Int) := if (l0.length : Int) < 1 then (none) else (if 0 < (l0.length : Int) then (slices_Min_int64_int64.l0 k l0 (rd l0 0) 1) else (none))
theorem slices_Min_int64_int64.mono_l : ∀ k, (∀ y0 y1 y2, LeO (slices_Min_int64_int64.l0 k y0 y1 y2) (slices_Min_int64_int64.l0 (k + 1) y0 y1 y2))
  | 0 => fun _ _ _ r h => by simp [slices_Min_int64_int64.l0] at h
  | k + 1 => by
    have ih0 := slices_Min_int64_int64.mono_l k
    · intro y0 y1 y2
      unfold slices_Min_int64_int64.l0
      repeat' first
      | (with_reducible exact ih0 _ _ _)
      | (with_reducible exact LeO.refl _)
      | (with_reducible exact LeO.none _)
      | (with_reducible refine LeO.ite ?_ ?_)
      | (with_reducible refine LeO.bind ?_ (fun _ => ?_))
      | exact ih0 _ _ _
      | exact LeO.none _
      | refine LeO.ite ?_ ?_
      | refine LeO.bind ?_ (fun _ => ?_)
theorem slices_Min_int64_int64.mono : ∀ a0 k, LeO (slices_Min_int64_int64.f k a0) (slices_Min_int64_int64.f (k + 1) a0) := by
  intro a0 k
  have ih0 := slices_Min_int64_int64.mono_l k
  unfold slices_Min_int64_int64.f
  repeat' first
      | (with_reducible exact ih0 _ _ _)
      | (with_reducible exact LeO.refl _)
      | (with_reducible exact LeO.none _)
      | (with_reducible refine LeO.ite ?_ ?_)
      | (with_reducible refine LeO.bind ?_ (fun _ => ?_))
      | exact ih0 _ _ _
      | exact LeO.none _
      | refine LeO.ite ?_ ?_
      | refine LeO.bind ?_ (fun _ => ?_)
set_option maxHeartbeats 8000000 in
set_option maxRecDepth 100000 in
theorem slices_Min_int64_int64.calls (k : Nat) (A0 : Option Addr) (c0 : Nat) (l0 : List Int) (r : Int) (w : World) (hr0 : Kd.C (Kd.int .i64) w A0 l0.length l0) (hc0 : l0.length ≤ c0) (h : slices_Min_int64_int64.f k l0 = some r) :
    Calls Try.prog 41 #[.slice A0 l0.length c0] w fun e w' => e = .returned (.int .i64 r) ∧ Below w.heap.size w w' := by
  have HR0 := Aside0.mk hr0
  have HC0 := Aside0.mk hc0
  clear hr0 hc0
  have HB := Aside0.mk (Below.refl w.heap.size w)
  have H : (if (l0.length : Int) < 1 then (none) else (if 0 < (l0.length : Int) then (slices_Min_int64_int64.l0 k l0 (rd l0 0) 1) else (none))) = some r := h
  clear h
  by_cases c2 : (l0.length : Int) < 1
  · rw [if_pos c2] at H
    exact absurd H (by simp)
  · rw [if_neg c2] at H
    have c2b0 : decide ((l0.length : Int) < 1) = false := decide_eq_false c2
    have c2b1 : decide (l0.length < 1) = false := decide_eq_false (by omega)
    clear c2
    by_cases c3 : 0 < (l0.length : Int)
    · rw [if_pos c3] at H
      have c3b0 : decide (0 < (l0.length : Int)) = true := decide_eq_true c3
      have c3b1 : decide (0 < l0.length) = true := decide_eq_true (by omega)
      clear c3
      have H' := Aside0.mk H
      clear H
      have p141 : 0 ≤ (0 : Int) := (by omega)
      have q141 : 0 < (l0.length : Int) := of_decide_eq_true (by first | (with_reducible assumption) | assumption)
      obtain ⟨ad141, e141, hx141_0⟩ := Kd.at_int HR0.out 0 p141 q141
      cases e141
      have qi141 : (0 < l0.length) = True := eq_true (by omega)
      (try rw [show ((0 : Int)).toNat = 0 from rfl] at hx141_0)
      (try rw [Addr.add_zero'] at hx141_0)
      replace p141 := eq_true p141
      replace q141 := eq_true q141
      go_enter Try.func41, Try.ntmps41
      go_wp2
      go_loopg [3, 4] k (fun kq v3 v4 w' => ∃ (x3_1 : Int) (x4_1 : Int), v3 = .int .i64 x3_1 ∧ v4 = .int .i64 x4_1 ∧ Aside0 (slices_Min_int64_int64.l0 kq l0 x3_1 x4_1 = some r) ∧ Aside0 (kq ≤ k) ∧ Aside0 (Below w.heap.size w w'))
      case atStart => exact ⟨(rd l0 0), (1), (by first | rfl | (simp; done) | (simp [*]; done)), (by first | rfl | (simp; done) | (simp [*]; done)), H', ⟨Nat.le_refl _⟩, ⟨by repeat (first | (with_reducible first | exact HB.out | apply below_alloc | apply pw_below_drewN | apply below_drew1) | exact HB.out)⟩⟩
      case round =>
        clear H'
        try clear p1
        try clear q1
        try clear hx1
        try clear qi1
        try clear c2
        try clear c2b0
        try clear c2b1
        try clear p2
        try clear c3
        try clear c3b0
        try clear c3b1
        try clear hx141_0
        try clear p141
        try clear q141
        obtain ⟨x3_1, x4_1, rfl, rfl, HA, HK1, HB⟩ := hrel
        cases gk with
        | zero => exact absurd HA.out (by simp [slices_Min_int64_int64.l0])
        | succ k1 =>
          have H := HA.out
          clear HA
          simp only [slices_Min_int64_int64.l0] at H
          by_cases c4 : x4_1 < (l0.length : Int)
          · rw [if_pos c4] at H
            have c4b0 : decide (x4_1 < (l0.length : Int)) = true := decide_eq_true c4
            clear c4
            by_cases c5 : 0 ≤ x4_1
            · rw [if_pos c5] at H
              have c5b0 : decide (0 ≤ x4_1) = true := decide_eq_true c5
              clear c5
              obtain ⟨ji6, hji6⟩ : ∃ j_ : Int, (mn x3_1 (rd l0 x4_1)) = j_ := ⟨_, rfl⟩
              replace H : (slices_Min_int64_int64.l0 k1 l0 ji6 (wrap64 (x4_1 + 1))) = some r := by first | (rw [hji6] at H; exact H) | (simp only [hji6] at H ⊢; exact H)
              have hji6_ : (if (rd l0 x4_1) < x3_1 then (rd l0 x4_1) else x3_1) = ji6 := hji6
              have H' := Aside0.mk H
              clear H
              have p142 : 0 ≤ (x4_1 : Int) := of_decide_eq_true (by first | (with_reducible assumption) | assumption)
              have q142 : x4_1 < (l0.length : Int) := of_decide_eq_true (by first | (with_reducible assumption) | assumption)
              obtain ⟨ad142, e142, hx142_0⟩ := Kd.at_int HR0.out x4_1 p142 q142
              obtain rfl : ad141 = ad142 := (by injection e142)
              replace hx142_0 := (HB.out.cell (World.block_lt_of_cell? w _ hx142_0)).trans hx142_0
              replace p142 := eq_true p142
              replace q142 := eq_true q142
              go_wp2
              go_roundg k1
              case measure => have := HK1.out; omega
              case rel => exact ⟨(ji6), (wrap64 (x4_1 + 1)), (by first | rfl | (simp; done) | (simp only [← hji6] <;> (first | rfl | simp)) | (simp [*]; done)), (by first | rfl | (simp; done) | (simp [*]; done)), H', ⟨by have := HK1.out; omega⟩, ⟨by repeat (first | (with_reducible first | exact HB.out | apply below_alloc | apply pw_below_drewN | apply below_drew1) | exact HB.out)⟩⟩
            · rw [if_neg c5] at H
              exact absurd H (by simp)
          · rw [if_neg c4] at H
            have c4b0 : decide (x4_1 < (l0.length : Int)) = false := decide_eq_false c4
            clear c4
            obtain rfl := Option.some.inj H
            go_wp2
            go_ret
            exact ⟨by first | rfl | (simp [errW_none, errW_some] <;> rfl) | (simp [*, errW_none, errW_some] <;> rfl), by repeat (first | (with_reducible first | exact HB.out | apply below_alloc | apply pw_below_drewN | apply below_drew1) | exact HB.out)⟩
    · rw [if_neg c3] at H
      exact absurd H (by simp)

/-! ### slices_Max_int64_int64: function 42 -/
def slices_Max_int64_int64.l0 : Nat → List Int → Int → Int → Option (Int)
  | 0, _, _, _ => none
  | k + 1, x0, x3, x4 => if x4 < (x0.length : Int) then (if 0 ≤ x4 then (slices_Max_int64_int64.l0 k x0 (mx x3 (rd x0 x4)) (wrap64 (x4 + 1))) else (none)) else (some x3)
def slices_Max_int64_int64.f (k : Nat) (l0 : List Int) : Option (Int) := if (l0.length : Int) < 1 then (none) else (if 0 < (l0.length : Int) then (slices_Max_int64_int64.l0 k l0 (rd l0 0) 1) else (none))
theorem slices_Max_int64_int64.mono_l : ∀ k, (∀ y0 y1 y2, LeO (slices_Max_int64_int64.l0 k y0 y1 y2) (slices_Max_int64_int64.l0 (k + 1) y0 y1 y2))
  | 0 => fun _ _ _ r h => by simp [slices_Max_int64_int64.l0] at h
  | k + 1 => by
    have ih0 := slices_Max_int64_int64.mono_l k
    · intro y0 y1 y2
      unfold slices_Max_int64_int64.l0
      repeat' first
      | (with_reducible exact ih0 _ _ _)
      | (with_reducible exact LeO.refl _)
      | (with_reducible exact LeO.none _)
      | (with_reducible refine LeO.ite ?_ ?_)
      | (with_reducible refine LeO.bind ?_ (fun _ => ?_))
      | exact ih0 _ _ _
      | exact LeO.none _
      | refine LeO.ite ?_ ?_
      | refine LeO.bind ?_ (fun _ => ?_)
theorem slices_Max_int64_int64.mono : ∀ a0 k, LeO (slices_Max_int64_int64.f k a0) (slices_Max_int64_int64.f (k + 1) a0) := by
  intro a0 k
  have ih0 := slices_Max_int64_int64.mono_l k
  unfold slices_Max_int64_int64.f
  repeat' first
      | (with_reducible exact ih0 _ _ _)
      | (with_reducible exact LeO.refl _)
      | (with_reducible exact LeO.none _)
      | (with_reducible refine LeO.ite ?_ ?_)
      | (with_reducible refine LeO.bind ?_ (fun _ => ?_))
      | exact ih0 _ _ _
      | exact LeO.none _
      | refine LeO.ite ?_ ?_
      | refine LeO.bind ?_ (fun _ => ?_)
set_option maxHeartbeats 8000000 in
set_option maxRecDepth 100000 in
theorem slices_Max_int64_int64.calls (k : Nat) (A0 : Option Addr) (c0 : Nat) (l0 : List Int) (r : Int) (w : World) (hr0 : Kd.C (Kd.int .i64) w A0 l0.length l0) (hc0 : l0.length ≤ c0) (h : slices_Max_int64_int64.f k l0 = some r) :
    Calls Try.prog 42 #[.slice A0 l0.length c0] w fun e w' => e = .returned (.int .i64 r) ∧ Below w.heap.size w w' := by
  have HR0 := Aside0.mk hr0
  have HC0 := Aside0.mk hc0
  clear hr0 hc0
  have HB := Aside0.mk (Below.refl w.heap.size w)
  have H : (if (l0.length : Int) < 1 then (none) else (if 0 < (l0.length : Int) then (slices_Max_int64_int64.l0 k l0 (rd l0 0) 1) else (none))) = some r := h
  clear h
  by_cases c2 : (l0.length : Int) < 1
  · rw [if_pos c2] at H
    exact absurd H (by simp)
  · rw [if_neg c2] at H
    have c2b0 : decide ((l0.length : Int) < 1) = false := decide_eq_false c2
    have c2b1 : decide (l0.length < 1) = false := decide_eq_false (by omega)
    clear c2
    by_cases c3 : 0 < (l0.length : Int)
    · rw [if_pos c3] at H
      have c3b0 : decide (0 < (l0.length : Int)) = true := decide_eq_true c3
      have c3b1 : decide (0 < l0.length) = true := decide_eq_true (by omega)
      clear c3
      have H' := Aside0.mk H
      clear H
      have p143 : 0 ≤ (0 : Int) := (by omega)
      have q143 : 0 < (l0.length : Int) := of_decide_eq_true (by first | (with_reducible assumption) | assumption)
      obtain ⟨ad143, e143, hx143_0⟩ := Kd.at_int HR0.out 0 p143 q143
      cases e143
      have qi143 : (0 < l0.length) = True := eq_true (by omega)
      (try rw [show ((0 : Int)).toNat = 0 from rfl] at hx143_0)
      (try rw [Addr.add_zero'] at hx143_0)
      replace p143 := eq_true p143
      replace q143 := eq_true q143
      go_enter Try.func42, Try.ntmps42
      go_wp2
      go_loopg [3, 4] k (fun kq v3 v4 w' => ∃ (x3_1 : Int) (x4_1 : Int), v3 = .int .i64 x3_1 ∧ v4 = .int .i64 x4_1 ∧ Aside0 (slices_Max_int64_int64.l0 kq l0 x3_1 x4_1 = some r) ∧ Aside0 (kq ≤ k) ∧ Aside0 (Below w.heap.size w w'))
      case atStart => exact ⟨(rd l0 0), (1), (by first | rfl | (simp; done) | (simp [*]; done)), (by first | rfl | (simp; done) | (simp [*]; done)), H', ⟨Nat.le_refl _⟩, ⟨by repeat (first | (with_reducible first | exact HB.out | apply below_alloc | apply pw_below_drewN | apply below_drew1) | exact HB.out)⟩⟩
      case round =>
        clear H'
        try clear p1
        try clear q1
        try clear hx1
        try clear qi1
        try clear c2
        try clear c2b0
        try clear c2b1
        try clear p2
        try clear c3
        try clear c3b0
        try clear c3b1
        try clear hx143_0
        try clear p143
        try clear q143
        obtain ⟨x3_1, x4_1, rfl, rfl, HA, HK1, HB⟩ := hrel
        cases gk with
        | zero => exact absurd HA.out (by simp [slices_Max_int64_int64.l0])
        | succ k1 =>
          have H := HA.out
          clear HA
          simp only [slices_Max_int64_int64.l0] at H
          by_cases c4 : x4_1 < (l0.length : Int)
          · rw [if_pos c4] at H
            have c4b0 : decide (x4_1 < (l0.length : Int)) = true := decide_eq_true c4
            clear c4
            by_cases c5 : 0 ≤ x4_1
            · rw [if_pos c5] at H
              have c5b0 : decide (0 ≤ x4_1) = true := decide_eq_true c5
              clear c5
              obtain ⟨ji6, hji6⟩ : ∃ j_ : Int, (mx x3_1 (rd l0 x4_1)) = j_ := ⟨_, rfl⟩
              replace H : (slices_Max_int64_int64.l0 k1 l0 ji6 (wrap64 (x4_1 + 1))) = some r := by first | (rw [hji6] at H; exact H) | (simp only [hji6] at H ⊢; exact H)
              have hji6_ : (if x3_1 < (rd l0 x4_1) then (rd l0 x4_1) else x3_1) = ji6 := hji6
              have H' := Aside0.mk H
              clear H
              have p144 : 0 ≤ (x4_1 : Int) := of_decide_eq_true (by first | (with_reducible assumption) | assumption)
              have q144 : x4_1 < (l0.length : Int) := of_decide_eq_true (by first | (with_reducible assumption) | assumption)
              obtain ⟨ad144, e144, hx144_0⟩ := Kd.at_int HR0.out x4_1 p144 q144
              obtain rfl : ad143 = ad144 := (by injection e144)
              replace hx144_0 := (HB.out.cell (World.block_lt_of_cell? w _ hx144_0)).trans hx144_0
              replace p144 := eq_true p144
              replace q144 := eq_true q144
              go_wp2
              go_roundg k1
              case measure => have := HK1.out; omega
              case rel => exact ⟨(ji6), (wrap64 (x4_1 + 1)), (by first | rfl | (simp; done) | (simp only [← hji6] <;> (first | rfl | simp)) | (simp [*]; done)), (by first | rfl | (simp; done) | (simp [*]; done)), H', ⟨by have := HK1.out; omega⟩, ⟨by repeat (first | (with_reducible first | exact HB.out | apply below_alloc | apply pw_below_drewN | apply below_drew1) | exact HB.out)⟩⟩
            · rw [if_neg c5] at H
              exact absurd H (by simp)
          · rw [if_neg c4] at H
            have c4b0 : decide (x4_1 < (l0.length : Int)) = false := decide_eq_false c4
            clear c4
            obtain rfl := Option.some.inj H
            go_wp2
            go_ret
            exact ⟨by first | rfl | (simp [errW_none, errW_some] <;> rfl) | (simp [*, errW_none, errW_some] <;> rfl), by repeat (first | (with_reducible first | exact HB.out | apply below_alloc | apply pw_below_drewN | apply below_drew1) | exact HB.out)⟩
    · rw [if_neg c3] at H
      exact absurd H (by simp)

end Go.Proofs.Ytbbffnlefmogbaa.X
-- Printed for this claim by a program of this session (wip/xprint.py) over the kit's printer; Lean checks it.
namespace Go.Proofs.Ytbbffnlefmogbaa.X
open Go.RowKit Go.Proofs.YtbbffnlefmogbaaW.PrintWords Go.Proofs.YtbbffnlefmogbaaW.PrintLast Go.Proofs.YtbbffnlefmogbaaW.PrintMore
attribute [local go_sem] max2_int min2_int max_two min_two max_three min_three max_four min_four   -- for this text's walks alone
set_option linter.unusedVariables false
set_option linter.unusedSimpArgs false

/-! ### vint_Num: function 64 -/
def vint_Num.l0 : Nat → Int → Int → List Int → Int → Int → Option (List Int)
  | 0, _, _, _, _, _ => none
  | k + 1, x0, x3, x4, x15, x16 => if x16 < x15 then (if 0 ≤ (wrap64 (7 * x16)) then (if 0 ≤ x16 then (if x16 < (x4.length : Int) then (vint_Num.l0 k x0 x3 (x4.set (x16 : Int).toNat (Go.bits .or .u8 (Go.bits .andNot .u8 ((shr .u64 x0 (wrap64 (7 * x16))) % 256) 128) 128)) x15 (wrap64 (x16 + 1))) else (none)) else (none)) else (none)) else (if 0 ≤ (wrap64 (x3 - 1)) then (if (wrap64 (x3 - 1)) < (x4.length : Int) then (some (x4.set ((wrap64 (x3 - 1)) : Int).toNat (Go.bits .andNot .u8 (rd x4 (wrap64 (x3 - 1))) 128))) else (none)) else (none))
def vint_Num.f (k : Nat) (a0 : Int) : Option (List Int) := (bits_Len64.f a0).bind fun t145 => (if 0 ≤ (mx 1 (wrap64 (Int.tdiv (wrap64 ((wrap64 (t145 + 7)) - 1)) 7))) then (if (mx 1 (wrap64 (Int.tdiv (wrap64 ((wrap64 (t145 + 7)) - 1)) 7)) : Int).toNat ≤ 281474976710656 then ((some (List.replicate (mx 1 (wrap64 (Int.tdiv (wrap64 ((wrap64 (t145 + 7)) - 1)) 7)) : Int).toNat 0 : List Int)).bind fun y146 => (vint_Num.l0 k a0 (mx 1 (wrap64 (Int.tdiv (wrap64 ((wrap64 (t145 + 7)) - 1)) 7))) y146 (y146.length : Int) 0)) else (none)) else (none))
theorem vint_Num.mono_l : ∀ k, (∀ y0 y1 y2 y3 y4, LeO (vint_Num.l0 k y0 y1 y2 y3 y4) (vint_Num.l0 (k + 1) y0 y1 y2 y3 y4))
  | 0 => fun _ _ _ _ _ r h => by simp [vint_Num.l0] at h
  | k + 1 => by
    have ih0 := vint_Num.mono_l k
    · intro y0 y1 y2 y3 y4
      unfold vint_Num.l0
      repeat' first
      | (with_reducible exact ih0 _ _ _ _ _)
      | (with_reducible exact LeO.refl _)
      | (with_reducible exact LeO.none _)
      | (with_reducible refine LeO.ite ?_ ?_)
      | (with_reducible refine LeO.bind ?_ (fun _ => ?_))
      | exact ih0 _ _ _ _ _
      | exact LeO.none _
      | refine LeO.ite ?_ ?_
      | refine LeO.bind ?_ (fun _ => ?_)
theorem vint_Num.mono : ∀ a0 k, LeO (vint_Num.f k a0) (vint_Num.f (k + 1) a0) := by
  intro a0 k
  have ih0 := vint_Num.mono_l k
  unfold vint_Num.f
  repeat' first
      | (with_reducible exact ih0 _ _ _ _ _)
      | (with_reducible exact LeO.refl _)
      | (with_reducible exact LeO.none _)
      | (with_reducible refine LeO.ite ?_ ?_)
      | (with_reducible refine LeO.bind ?_ (fun _ => ?_))
      | exact ih0 _ _ _ _ _
      | exact LeO.none _
      | refine LeO.ite ?_ ?_
      | refine LeO.bind ?_ (fun _ => ?_)
set_option maxHeartbeats 8000000 in
set_option maxRecDepth 100000 in
theorem vint_Num.calls (k : Nat) (a0 : Int) (r : List Int) (w : World) (h : vint_Num.f k a0 = some r) :
    Calls Try.prog 64 #[.int .u64 a0] w fun e w' => ∃ v0_ : Value, e = .returned (v0_) ∧ Kd.R (Kd.int .u8) 5 w' w.heap.size (fun _ => True) v0_ r ∧ Below w.heap.size w w' := by
  have HB := Aside0.mk (Below.refl w.heap.size w)
  have H : ((bits_Len64.f a0).bind fun t145 => (if 0 ≤ (mx 1 (wrap64 (Int.tdiv (wrap64 ((wrap64 (t145 + 7)) - 1)) 7))) then (if (mx 1 (wrap64 (Int.tdiv (wrap64 ((wrap64 (t145 + 7)) - 1)) 7)) : Int).toNat ≤ 281474976710656 then ((some (List.replicate (mx 1 (wrap64 (Int.tdiv (wrap64 ((wrap64 (t145 + 7)) - 1)) 7)) : Int).toNat 0 : List Int)).bind fun y146 => (vint_Num.l0 k a0 (mx 1 (wrap64 (Int.tdiv (wrap64 ((wrap64 (t145 + 7)) - 1)) 7))) y146 (y146.length : Int) 0)) else (none)) else (none))) = some r := h
  clear h
  replace H := Option.bind_eq_some_iff.mp H
  obtain ⟨t145, A20, H⟩ := H
  replace H : (if 0 ≤ (mx 1 (wrap64 (Int.tdiv (wrap64 ((wrap64 (t145 + 7)) - 1)) 7))) then (if (mx 1 (wrap64 (Int.tdiv (wrap64 ((wrap64 (t145 + 7)) - 1)) 7)) : Int).toNat ≤ 281474976710656 then ((some (List.replicate (mx 1 (wrap64 (Int.tdiv (wrap64 ((wrap64 (t145 + 7)) - 1)) 7)) : Int).toNat 0 : List Int)).bind fun y146 => (vint_Num.l0 k a0 (mx 1 (wrap64 (Int.tdiv (wrap64 ((wrap64 (t145 + 7)) - 1)) 7))) y146 (y146.length : Int) 0)) else (none)) else (none)) = some r := H
  have A2 := Aside0.mk A20
  clear A20
  obtain ⟨ji3, hji3⟩ : ∃ j_ : Int, (mx 1 (wrap64 (Int.tdiv (wrap64 ((wrap64 (t145 + 7)) - 1)) 7))) = j_ := ⟨_, rfl⟩
  replace H : (if 0 ≤ (ji3) then (if (ji3 : Int).toNat ≤ 281474976710656 then ((some (List.replicate (ji3 : Int).toNat 0 : List Int)).bind fun y146 => (vint_Num.l0 k a0 ji3 y146 (y146.length : Int) 0)) else (none)) else (none)) = some r := by first | (rw [hji3] at H; exact H) | (simp only [hji3] at H ⊢; exact H)
  (try rw [hji3] at A2)
  (try (have hji3l : 1 ≤ ji3 := by (rw [← hji3]; unfold mx; (repeat' split) <;> omega)))
  (try (have hji3m : 0 ≤ ji3 := by omega))
  have hji3_ : (if 1 < (wrap64 (Int.tdiv (wrap64 ((wrap64 (t145 + 7)) - 1)) 7)) then (wrap64 (Int.tdiv (wrap64 ((wrap64 (t145 + 7)) - 1)) 7)) else 1) = ji3 := hji3
  by_cases c4 : 0 ≤ (ji3)
  · rw [if_pos c4] at H
    have c4b0 := eq_true c4
    have c4b1 : decide (0 ≤ (ji3)) = true := decide_eq_true c4
    clear c4
    by_cases c5 : (ji3 : Int).toNat ≤ 281474976710656
    · rw [if_pos c5] at H
      have c5b0 := eq_true c5
      have c5b1 : decide ((ji3 : Int).toNat ≤ 281474976710656) = true := decide_eq_true c5
      clear c5
      obtain ⟨y146, hy146⟩ : ∃ y_ : List Int, y_ = (List.replicate (ji3 : Int).toNat 0) := ⟨_, rfl⟩
      replace H : (vint_Num.l0 k a0 ji3 y146 (y146.length : Int) 0) = some r := by first | (rw [hy146]; with_reducible exact H) | (have H2_ := (Option.bind_some _ _).symm.trans H; rw [hy146]; with_reducible exact H2_) | (have H2_ := (Option.bind_some _ _).symm.trans H; with_reducible exact H2_) | with_reducible exact H | (rw [hy146]; exact H) | exact H
      have Ny146 := Aside0.mk hy146
      clear hy146
      have H' := Aside0.mk H
      clear H
      go_enter Try.func64, Try.ntmps64
      go_wp2_with (first | ((with_reducible refine gate_callee (f := 43) rfl ?_); refine goesL_ (some 7) rfl rfl Try.func43 (by kernel_rfl) rfl #[.int .u64 a0] rfl (by (try simp only [List.map_toArray, List.map_cons, List.map_nil]); first | done | rfl | (simp only [List.length_drop, List.length_take]; rfl)) ?_; (with_reducible refine (bits_Len64.calls a0 t145 _ A2.out).mono ?_); rintro e w' ⟨rfl, ⟨nd, rfl⟩⟩; refine ⟨_, rfl, ?_⟩) | ((with_reducible refine gate_dst (N := 13) rfl ?_); refine Kd.R_make (Kd.int .u8) _ 5 rfl (N := 13) rfl 24 _ _ rfl ji3 rfl rfl Try.underlying24 (.int .u8 0) 1 info5 rfl (by decide) (by omega) 0 (ok := fun _ => True) (okp := fun _ => True) rfl (fun _ hk => hk) trivial (of_decide_eq_true (by first | (with_reducible assumption) | assumption)) (Nat.le_trans (Nat.mul_le_mul_right _ (of_decide_eq_true (by first | (with_reducible assumption) | assumption) : ji3.toNat ≤ 281474976710656)) (by omega)) (Below.refl _ _) (Nat.le_refl _) ?_; intro v147 w6 ho7 hb hg_ hnew_; clear hg_ hnew_; (first | rw [← Ny146.out] at ho7 | (simp only [Int.reduceToNat] at ho7; rw [← Ny146.out] at ho7)); have n0_ := Aside0.mk (Kd.R_lower ho7 (below_size (by repeat (first | (with_reducible first | exact HB.out | apply below_alloc | apply pw_below_drewN | apply below_drew1) | exact HB.out)))); have n1_ := Aside0.mk (below_step (by repeat (first | (with_reducible first | exact HB.out | apply below_alloc | apply pw_below_drewN | apply below_drew1) | exact HB.out)) hb); clear HB; have HO148 := n0_; have HB := n1_; clear n0_ n1_; clear hb ho7; obtain ⟨Ao8, co8, eo8⟩ := Kd.R_slice HO148.out; subst eo8))
      go_loopg [16] k (fun kq v16 w' => ∃ (x4_1 : List Int) (x16_1 : Int), v16 = .int .i64 x16_1 ∧ Aside0 (vint_Num.l0 kq a0 ji3 x4_1 (y146.length : Int) x16_1 = some r) ∧ Aside0 (kq ≤ k) ∧ Aside0 (Kd.R (Kd.int .u8) 5 w' w.heap.size (fun _ => True) (.slice Ao8 y146.length co8) x4_1) ∧ Aside0 (Below w.heap.size w w'))
      case atStart => exact ⟨(y146), (0), (by first | rfl | (simp; done) | (simp [*]; done)), H', ⟨Nat.le_refl _⟩, ⟨by (with_reducible repeat (first | apply Kd.R_alloc | apply Kd.R_drewN | apply Kd.R_drew)); exact HO148.out⟩, ⟨by repeat (first | (with_reducible first | exact HB.out | apply below_alloc | apply pw_below_drewN | apply below_drew1) | exact HB.out)⟩⟩
      case round =>
        clear H'
        try clear p2
        try clear c4
        try clear c4b0
        try clear c4b1
        try clear c5
        try clear c5b0
        try clear c5b1
        try clear c6
        try clear p6
        obtain ⟨x4_1, x16_1, rfl, HA, HK1, HO_4, HB⟩ := hrel
        have hl4_1 := (Kd.R_reads' HO_4.out).1
        rw [hl4_1] at HO_4
        (try simp only [hl4_1])
        cases gk with
        | zero => exact absurd HA.out (by simp [vint_Num.l0])
        | succ k1 =>
          have H := HA.out
          clear HA
          simp only [vint_Num.l0] at H
          by_cases c9 : x16_1 < (y146.length : Int)
          · rw [if_pos c9] at H
            have c9b0 : decide (x16_1 < (y146.length : Int)) = true := decide_eq_true c9
            have c9b0l := c9b0
            (try simp only [hl4_1] at c9b0l)
            clear c9
            obtain ⟨ji10, hji10⟩ : ∃ j_ : Int, (wrap64 (7 * x16_1)) = j_ := ⟨_, rfl⟩
            replace H : (if 0 ≤ (ji10) then (if 0 ≤ x16_1 then (if x16_1 < (x4_1.length : Int) then (vint_Num.l0 k1 a0 ji3 (x4_1.set (x16_1 : Int).toNat (Go.bits .or .u8 (Go.bits .andNot .u8 ((shr .u64 a0 (ji10)) % 256) 128) 128)) (y146.length : Int) (wrap64 (x16_1 + 1))) else (none)) else (none)) else (none)) = some r := by first | (rw [hji10] at H; exact H) | (simp only [hji10] at H ⊢; exact H)
            have hji10w : (IntKind.i64.wrap (7 * x16_1)) = ji10 := (i64_w _).trans hji10
            by_cases c11 : 0 ≤ (ji10)
            · rw [if_pos c11] at H
              have c11b0 := eq_true c11
              have c11b1 : decide (0 ≤ (ji10)) = true := decide_eq_true c11
              clear c11
              obtain ⟨ji12, hji12⟩ : ∃ j_ : Int, (shr .u64 a0 (ji10)) = j_ := ⟨_, rfl⟩
              replace H : (if 0 ≤ x16_1 then (if x16_1 < (x4_1.length : Int) then (vint_Num.l0 k1 a0 ji3 (x4_1.set (x16_1 : Int).toNat (Go.bits .or .u8 (Go.bits .andNot .u8 ((ji12) % 256) 128) 128)) (y146.length : Int) (wrap64 (x16_1 + 1))) else (none)) else (none)) = some r := by first | (rw [hji12] at H; exact H) | (simp only [hji12] at H ⊢; exact H)
              have hji12_ : (a0 / 2 ^ min (ji10).toNat 64) = ji12 := hji12
              have hji12z : (ji10) ≤ 64 → (a0 / 2 ^ (ji10).toNat) = ji12 := shr_small hji12
              by_cases c13 : 0 ≤ x16_1
              · rw [if_pos c13] at H
                have c13b0 : decide (0 ≤ x16_1) = true := decide_eq_true c13
                clear c13
                by_cases c14 : x16_1 < (x4_1.length : Int)
                · rw [if_pos c14] at H
                  have c14b0 : decide (x16_1 < (x4_1.length : Int)) = true := decide_eq_true c14
                  have c14b0l := c14b0
                  (try simp only [hl4_1] at c14b0l)
                  clear c14
                  obtain ⟨y149, hy149⟩ : ∃ y_ : List Int, y_ = (x4_1.set (x16_1 : Int).toNat (Go.bits .or .u8 (Go.bits .andNot .u8 ((ji12) % 256) 128) 128)) := ⟨_, rfl⟩
                  replace H : (vint_Num.l0 k1 a0 ji3 y149 (y146.length : Int) (wrap64 (x16_1 + 1))) = some r := by first | (rw [hy149]; with_reducible exact H) | (have H2_ := (Option.bind_some _ _).symm.trans H; rw [hy149]; with_reducible exact H2_) | (have H2_ := (Option.bind_some _ _).symm.trans H; with_reducible exact H2_) | with_reducible exact H | (rw [hy149]; exact H) | exact H
                  have Ny149 := Aside0.mk hy149
                  clear hy149
                  have H' := Aside0.mk H
                  clear H
                  have p15 : 0 ≤ (x16_1 : Int) := of_decide_eq_true (by first | (with_reducible assumption) | assumption)
                  have q15 : (x16_1 : Int) < ((x4_1.length : Int) : Int) := of_decide_eq_true (by first | (with_reducible assumption) | assumption)
                  obtain ⟨go15, co15, eo15, gb15, gl15, cl15, HG15⟩ := Kd.R_form HO_4.out (by omega)
                  (first | cases eo15 | (injection eo15 with ea_ en_ ec_; (first | subst ea_ | (injection ea_ with ea_; subst ea_)); subst ec_; clear en_))
                  have GB15 := Aside0.mk gb15
                  have GG15 := Aside0.mk HG15
                  clear gb15 gl15 HG15
                  obtain ⟨hx15_0, hf15_0⟩ := Kd.R_celln 0 HO_4.out (x16_1 : Int) p15 q15
                  replace p15 := eq_true p15
                  replace q15 := eq_true q15
                  have HP16 := Kd.R_putg HO_4.out (x16_1 : Int) (Go.bits .or .u8 (Go.bits .andNot .u8 ((ji12) % 256) 128) 128)
                  go_wp2_with (first | ((with_reducible refine gate_store (t := 5) (p := 28) rfl ?_); refine store_event (t := 5) (p := 28) (v := ?vo_w17) (w1 := (wr.setCell ⟨go15, (x16_1 : Int).toNat, none⟩ (.int .u8 (Go.bits .or .u8 (Go.bits .andNot .u8 ((ji12) % 256) 128) 128)))) ?hg ?ho ?hn ?hr ?_; (case ho => rfl); (case hg => rfl); (case hn => rfl); (case hr => first | (go_simp; done) | (go_simp; rfl)); intro w17 hw; have hg : wr.grownBy w17 (some go15) := (by rw [hw]; exact HP16.2); have hp_ : Kd.R (Kd.int .u8) 5 w17 w.heap.size (fun _ => True) (.slice (some ⟨go15, 0, none⟩) x4_1.length co8) y149 := (by rw [hw, Ny149.out]; exact HP16.1); clear HP16; have n0_ := Aside0.mk (hp_); have n1_ := Aside0.mk ((by rw [hw]; exact below_set (HB.out) GB15.out : Below w.heap.size w w17)); clear HO_4; clear HB; have HO_4 := n0_; have HB := n1_; clear n0_ n1_; clear hg hw hp_))
                  (try simp only [← hl4_1])
                  go_roundg k1
                  case measure => have := HK1.out; omega
                  case rel => exact ⟨(y149), (wrap64 (x16_1 + 1)), (by first | rfl | (simp; done) | (simp [*]; done)), H', ⟨by have := HK1.out; omega⟩, ⟨by (try simp only [hl4_1]); (with_reducible repeat (first | apply Kd.R_alloc | apply Kd.R_drewN | apply Kd.R_drew)); exact HO_4.out⟩, ⟨by repeat (first | (with_reducible first | exact HB.out | apply below_alloc | apply pw_below_drewN | apply below_drew1) | exact HB.out)⟩⟩
                · rw [if_neg c14] at H
                  exact absurd H (by simp)
              · rw [if_neg c13] at H
                exact absurd H (by simp)
            · rw [if_neg c11] at H
              exact absurd H (by simp)
          · rw [if_neg c9] at H
            have c9b0 : decide (x16_1 < (y146.length : Int)) = false := decide_eq_false c9
            have c9b0l := c9b0
            (try simp only [hl4_1] at c9b0l)
            clear c9
            obtain ⟨ji18, hji18⟩ : ∃ j_ : Int, (wrap64 (ji3 - 1)) = j_ := ⟨_, rfl⟩
            replace H : (if 0 ≤ (ji18) then (if (ji18) < (x4_1.length : Int) then (some (x4_1.set ((ji18) : Int).toNat (Go.bits .andNot .u8 (rd x4_1 (ji18)) 128))) else (none)) else (none)) = some r := by first | (rw [hji18] at H; exact H) | (simp only [hji18] at H ⊢; exact H)
            have hji18w : (IntKind.i64.wrap (ji3 - 1)) = ji18 := (i64_w _).trans hji18
            by_cases c19 : 0 ≤ (ji18)
            · rw [if_pos c19] at H
              have c19b0 : decide (0 ≤ (ji18)) = true := decide_eq_true c19
              clear c19
              by_cases c20 : (ji18) < (x4_1.length : Int)
              · rw [if_pos c20] at H
                have c20b0 : decide ((ji18) < (x4_1.length : Int)) = true := decide_eq_true c20
                have c20b0l := c20b0
                (try simp only [hl4_1] at c20b0l)
                clear c20
                obtain ⟨y151, hy151⟩ : ∃ y_ : List Int, y_ = (x4_1.set ((ji18) : Int).toNat (Go.bits .andNot .u8 (rd x4_1 (ji18)) 128)) := ⟨_, rfl⟩
                replace H : (some y151) = some r := by first | (rw [hy151]; with_reducible exact H) | (have H2_ := (Option.bind_some _ _).symm.trans H; rw [hy151]; with_reducible exact H2_) | (have H2_ := (Option.bind_some _ _).symm.trans H; with_reducible exact H2_) | with_reducible exact H | (rw [hy151]; exact H) | exact H
                have Ny151 := Aside0.mk hy151
                clear hy151
                obtain rfl := Option.some.inj H
                have p150 : 0 ≤ ((ji18) : Int) := of_decide_eq_true (by first | (with_reducible assumption) | assumption)
                have q150 : (ji18) < (x4_1.length : Int) := of_decide_eq_true (by first | (with_reducible assumption) | assumption)
                obtain ⟨ad150, e150, hx150_0⟩ := Kd.at_int (Kd.R_reads' HO_4.out).2.2 (ji18) p150 q150
                cases e150
                replace p150 := eq_true p150
                replace q150 := eq_true q150
                have p21 : 0 ≤ ((ji18) : Int) := of_decide_eq_true (by first | (with_reducible assumption) | assumption)
                have q21 : ((ji18) : Int) < ((x4_1.length : Int) : Int) := of_decide_eq_true (by first | (with_reducible assumption) | assumption)
                obtain ⟨go21, co21, eo21, gb21, gl21, cl21, HG21⟩ := Kd.R_form HO_4.out (by omega)
                (first | cases eo21 | (injection eo21 with ea_ en_ ec_; (first | subst ea_ | (injection ea_ with ea_; subst ea_)); subst ec_; clear en_))
                have GB21 := Aside0.mk gb21
                have GG21 := Aside0.mk HG21
                clear gb21 gl21 HG21
                (first | simp only [add_plain] at hx150_0 | skip)
                obtain ⟨hx21_0, hf21_0⟩ := Kd.R_celln 0 HO_4.out ((ji18) : Int) p21 q21
                replace p21 := eq_true p21
                replace q21 := eq_true q21
                have HP22 := Kd.R_putg HO_4.out ((ji18) : Int) (Go.bits .andNot .u8 (rd x4_1 (ji18)) 128)
                go_wp2_with (first | ((with_reducible refine gate_store (t := 5) (p := 36) rfl ?_); refine store_event (t := 5) (p := 36) (v := ?vo_w23) (w1 := (wr.setCell ⟨go21, ((ji18) : Int).toNat, none⟩ (.int .u8 (Go.bits .andNot .u8 (rd x4_1 (ji18)) 128)))) ?hg ?ho ?hn ?hr ?_; (case ho => rfl); (case hg => rfl); (case hn => rfl); (case hr => first | (go_simp; done) | (go_simp; rfl)); intro w23 hw; have hg : wr.grownBy w23 (some go21) := (by rw [hw]; exact HP22.2); have hp_ : Kd.R (Kd.int .u8) 5 w23 w.heap.size (fun _ => True) (.slice (some ⟨go21, 0, none⟩) x4_1.length co8) y151 := (by rw [hw, Ny151.out]; exact HP22.1); clear HP22; have n0_ := Aside0.mk (hp_); have n1_ := Aside0.mk ((by rw [hw]; exact below_set (HB.out) GB21.out : Below w.heap.size w w23)); clear HO_4; clear HB; have HO_4 := n0_; have HB := n1_; clear n0_ n1_; clear hg hw hp_))
                go_ret
                exact ⟨_, by first | rfl | (simp [errW_none, errW_some] <;> rfl) | (simp only [← hji3, ← hji18]; first | rfl | (simp [errW_none, errW_some] <;> rfl)) | (simp [*, errW_none, errW_some] <;> rfl), by (with_reducible repeat (first | apply Kd.R_alloc | apply Kd.R_drewN | apply Kd.R_drew)); exact HO_4.out, by repeat (first | (with_reducible first | exact HB.out | apply below_alloc | apply pw_below_drewN | apply below_drew1) | exact HB.out)⟩
              · rw [if_neg c20] at H
                exact absurd H (by simp)
            · rw [if_neg c19] at H
              exact absurd H (by simp)
    · rw [if_neg c5] at H
      exact absurd H (by simp)
  · rw [if_neg c4] at H
    exact absurd H (by simp)

/-! ### vint_Int: function 46 -/
def vint_Int.f (k : Nat) (a0 : Int) : Option (List Int) := (vint_Num.f k (Go.bits .xor .u64 (IntKind.u64.wrap ((IntKind.u64.wrap (a0)) * 2)) (IntKind.u64.wrap (a0 / 9223372036854775808)))).bind fun t152 => (some t152)
theorem vint_Int.mono : ∀ a0 k, LeO (vint_Int.f k a0) (vint_Int.f (k + 1) a0) := by
  intro a0 k
  unfold vint_Int.f
  repeat' first
      | (with_reducible exact vint_Num.mono _ _)
      | (with_reducible exact LeO.refl _)
      | (with_reducible exact LeO.none _)
      | (with_reducible refine LeO.ite ?_ ?_)
      | (with_reducible refine LeO.bind ?_ (fun _ => ?_))
      | exact vint_Num.mono _ _
      | exact LeO.none _
      | refine LeO.ite ?_ ?_
      | refine LeO.bind ?_ (fun _ => ?_)
set_option maxHeartbeats 8000000 in
set_option maxRecDepth 100000 in
theorem vint_Int.calls (k : Nat) (a0 : Int) (r : List Int) (w : World) (h : vint_Int.f k a0 = some r) :
    Calls Try.prog 46 #[.int .i64 a0] w fun e w' => ∃ v0_ : Value, e = .returned (v0_) ∧ Kd.R (Kd.int .u8) 5 w' w.heap.size (fun _ => True) v0_ r ∧ Below w.heap.size w w' := by
  have HB := Aside0.mk (Below.refl w.heap.size w)
  have H : ((vint_Num.f k (Go.bits .xor .u64 (IntKind.u64.wrap ((IntKind.u64.wrap (a0)) * 2)) (IntKind.u64.wrap (a0 / 9223372036854775808)))).bind fun t152 => (some t152)) = some r := h
  clear h
  replace H := Option.bind_eq_some_iff.mp H
  obtain ⟨t152, A20, H⟩ := H
  replace H : (some t152) = some r := H
  have A2 := Aside0.mk A20
  clear A20
  obtain rfl := Option.some.inj H
  go_enter Try.func46, Try.ntmps46
  go_wp2_with (first | ((with_reducible refine gate_callee (f := 64) rfl ?_); refine goesL_ (some 10) rfl rfl Try.func64 (by kernel_rfl) rfl #[.int .u64 (Go.bits .xor .u64 (IntKind.u64.wrap ((IntKind.u64.wrap (a0)) * 2)) (IntKind.u64.wrap (a0 / 9223372036854775808)))] rfl (by (try simp only [List.map_toArray, List.map_cons, List.map_nil]); first | done | rfl | (simp only [List.length_drop, List.length_take]; rfl)) ?_; (with_reducible refine (vint_Num.calls k (Go.bits .xor .u64 (IntKind.u64.wrap ((IntKind.u64.wrap (a0)) * 2)) (IntKind.u64.wrap (a0 / 9223372036854775808))) t152 _ A2.out).mono ?_); rintro e w3 ⟨v153, rfl, ho0, hb⟩; refine ⟨_, rfl, ?_⟩; have n0_ := Aside0.mk (Kd.R_lower ho0 (below_size (by repeat (first | (with_reducible first | exact HB.out | apply below_alloc | apply pw_below_drewN | apply below_drew1) | exact HB.out)))); have n1_ := Aside0.mk (below_step (by repeat (first | (with_reducible first | exact HB.out | apply below_alloc | apply pw_below_drewN | apply below_drew1) | exact HB.out)) hb); clear HB; have HO154 := n0_; have HB := n1_; clear n0_ n1_; (try clear hb); (try clear hb2); (try clear hk); (try clear hi); (try clear ho0)))
  go_ret
  exact ⟨_, by first | rfl | (simp [errW_none, errW_some] <;> rfl) | (simp [*, errW_none, errW_some] <;> rfl), by (with_reducible repeat (first | apply Kd.R_alloc | apply Kd.R_drewN | apply Kd.R_drew)); exact HO154.out, by repeat (first | (with_reducible first | exact HB.out | apply below_alloc | apply pw_below_drewN | apply below_drew1) | exact HB.out)⟩

end Go.Proofs.Ytbbffnlefmogbaa.X
/- The contract of tight.Put: numbers in as few bits as can be. -/
namespace Go.Proofs.Ytbbffnlefmogbaa.X
open Go.RowKit Go.Proofs.YtbbffnlefmogbaaW.PrintWords Go.Proofs.YtbbffnlefmogbaaW.PrintLast Go.Proofs.YtbbffnlefmogbaaW.PrintMore
set_option linter.unusedVariables false
set_option linter.unusedSimpArgs false
/-- All numbers, one behind the other. -/
def putGo (low : Int) (n : Nat) : List Int → List Int → Nat → List Int
  | [], b, _ => b
  | x :: l, b, at_ => putGo low n l (bitsGo (above x low) n 0 b at_) (at_ + n)
theorem bitsGo_len (u : Int) : ∀ (d k : Nat) (b : List Int) (a : Nat), b.length = (a + 7) / 8 → (bitsGo u d k b a).length = (a + d + 7) / 8
  | 0, _, b, a, h => by rw [bitsGo, h, Nat.add_zero]
  | d + 1, k, b, a, h => by rw [bitsGo, bitsGo_len u d (k + 1) _ (a + 1) (bitStep_len u b a k h), show a + 1 + d = a + (d + 1) by omega]
def tight_Put.f (k : Nat) (l0 : List Int) : Option (List Int) :=
  if l0 = [] then some [] else (slices_Min_int64_int64.f k l0).bind fun lo => (slices_Max_int64_int64.f k l0).bind fun hi => (bits_Len64.f (above hi lo)).bind fun n => (vint_Int.f k lo).bind fun v =>
    if l0.length < 1000000 ∧ 0 ≤ n ∧ n ≤ 64 then slices_Concat_byte.f [v, [IntKind.u8.wrap n], putGo lo n.toNat l0 [] 0] else none
theorem tight_Put.mono : ∀ a0 k, LeO (tight_Put.f k a0) (tight_Put.f (k + 1) a0) := by
  intro a0 k
  unfold tight_Put.f
  repeat' first
      | (with_reducible exact slices_Min_int64_int64.mono _ _)
      | (with_reducible exact slices_Max_int64_int64.mono _ _)
      | (with_reducible exact vint_Int.mono _ _)
      | (with_reducible exact LeO.refl _)
      | (with_reducible exact LeO.none _)
      | (with_reducible refine LeO.ite ?_ ?_)
      | (with_reducible refine LeO.bind ?_ (fun _ => ?_))
theorem IsP.new (w0 w : World) (low wide : Int) (hB : Below w0.heap.size w0 w) : IsP w0 (w.alloc (.cells #[.slice none 0 0, .int .i64 0, .int .i64 low, .int .i64 wide] 60)) w.heap.size [] 0 low wide :=
  ⟨none, 0, Mem.alloc_new _ _, below_size hB, Kd.R_nil _ _ _ _ _⟩
theorem IsP.low {w0 w1 W : World} {g : Nat} {b : List Int} {at_ : Nat} {low wide : Int} (h : IsP w1 W g b at_ low wide) (hs : w0.heap.size ≤ w1.heap.size) : IsP w0 W g b at_ low wide := by
  obtain ⟨A, c, h1, h2, h3⟩ := h
  exact ⟨A, c, h1, Nat.le_trans hs h2, Kd.R_lower h3 hs⟩
theorem three_rows {W : World} {A0 A1 A2 : Option Addr} {c0 c1 c2 G : Nat} {x z : List Int} {q : Int} (hG : G = W.heap.size) (h0 : x.length ≤ c0) (C0 : Kd.C (Kd.int .u8) W A0 x.length x) (h1 : 1 ≤ c1) (C1 : Kd.C (Kd.int .u8) W A1 1 [q]) (h2 : z.length ≤ c2) (C2 : Kd.C (Kd.int .u8) W A2 z.length z) :
    Kd.C (Kd.slice 5 (Kd.int .u8)) (W.alloc (.cells #[.slice A0 x.length c0, .slice A1 1 c1, .slice A2 z.length c2] 24)) (some ⟨G, 0, none⟩) 3 [x, [q], z] := by
  subst hG
  refine Mem.C_rows (xs := [x, [q], z]) (Mem.alloc_new _ _) (by simp) (fun i hi => ?_)
  match i, hi with
  | 0, _ => exact ⟨A0, c0, rfl, h0, Kd.C_alloc C0 _⟩
  | 1, _ => exact ⟨A1, c1, rfl, h1, Kd.C_alloc C1 _⟩
  | 2, _ => exact ⟨A2, c2, rfl, h2, Kd.C_alloc C2 _⟩
set_option maxHeartbeats 8000000 in
set_option maxRecDepth 1000000 in
theorem tight_Put.calls (k : Nat) (A0 : Option Addr) (c0 : Nat) (l0 : List Int) (r : List Int) (w : World) (hr0 : Kd.C (Kd.int .i64) w A0 l0.length l0) (hc0 : l0.length ≤ c0) (h : tight_Put.f k l0 = some r) :
    Calls Try.prog 11 #[.slice A0 l0.length c0] w fun e w' => ∃ v0_ : Value, e = .returned v0_ ∧ Kd.R (Kd.int .u8) 5 w' w.heap.size (fun _ => True) v0_ r ∧ Below w.heap.size w w' := by
  unfold tight_Put.f at h
  have HR0 := Aside0.mk hr0
  clear hr0
  by_cases hz : l0 = []
  · rw [if_pos hz] at h
    obtain rfl := Option.some.inj h
    subst hz
    go_enter Try.func11, Try.ntmps11
    go_wp2_with fail
    go_ret
    exact ⟨_, rfl, Kd.R_nil _ _ _ _ _, Below.refl _ _⟩
  rw [if_neg hz] at h
  obtain ⟨lo, e1, h⟩ := Option.bind_eq_some_iff.mp h
  obtain ⟨hi, e2, h⟩ := Option.bind_eq_some_iff.mp h
  obtain ⟨n0, e3, h⟩ := Option.bind_eq_some_iff.mp h
  obtain ⟨v, e4, h⟩ := Option.bind_eq_some_iff.mp h
  by_cases hg : l0.length < 1000000 ∧ 0 ≤ n0 ∧ n0 ≤ 64
  case neg => rw [if_neg hg] at h; cases h
  rw [if_pos hg] at h
  obtain ⟨n, rfl⟩ : ∃ n : Nat, n0 = (n : Int) := ⟨n0.toNat, by omega⟩
  rw [Int.toNat_natCast] at h
  have HH := Aside0.mk h
  have E1 := Aside0.mk e1
  have E2 := Aside0.mk e2
  have E3 := Aside0.mk e3
  have E4 := Aside0.mk e4
  have HG := Aside0.mk hg
  have hlz : 0 < l0.length := List.length_pos_iff.mpr hz
  have c1 : ((l0.length : Int) == 0) = false := beq_eq_false_iff_ne.mpr (by omega)
  have c1b : (l0.length == 0) = false := beq_eq_false_iff_ne.mpr (by omega)
  have c1c : decide (l0 = []) = false := decide_eq_false hz
  have HLZ := Aside0.mk hlz
  clear hz h e1 e2 e3 e4 hg hlz
  go_enter Try.func11, Try.ntmps11
  go_wp2_with fail
  refine (slices_Min_int64_int64.calls k A0 c0 l0 lo w HR0.out hc0 E1.out).mono ?_
  rintro e w1 ⟨rfl, B1⟩
  have HB1 := Aside0.mk B1
  have HR1 := Aside0.mk (Kd.C_below HR0.out B1)
  clear B1
  go_wp2_with fail
  refine (slices_Max_int64_int64.calls k A0 c0 l0 hi w1 HR1.out hc0 E2.out).mono ?_
  rintro e w2 ⟨rfl, B2⟩
  have HB2 := Aside0.mk (below_step HB1.out B2)
  have HR2 := Aside0.mk (Kd.C_below HR1.out B2)
  clear B2 HR1 HB1
  go_wp2_with fail
  refine (bits_Len64.calls (above hi lo) (n : Int) w2 E3.out).mono ?_
  rintro e w3 ⟨rfl, D3⟩
  obtain ⟨nd, rfl⟩ := D3
  have HB3 := Aside0.mk (pw_below_drewN HB2.out nd)
  have HR3 := Aside0.mk (Kd.C_drewN HR2.out nd)
  clear HB2 HR2
  generalize w2.drewN nd = w3 at HB3 HR3 ⊢
  have HI3 := Aside0.mk (IsP.new w w3 lo (n : Int) HB3.out)
  have HB4 := Aside0.mk (below_alloc HB3.out (.cells #[.slice none 0 0, .int .i64 0, .int .i64 lo, .int .i64 (n : Int)] 60))
  have HR4 := Aside0.mk (Kd.C_alloc HR3.out (.cells #[.slice none 0 0, .int .i64 0, .int .i64 lo, .int .i64 (n : Int)] 60))
  go_wp2_with fail
  obtain ⟨g, hg⟩ : ∃ g, w3.heap.size = g := ⟨_, rfl⟩
  rw [hg] at HI3 ⊢
  have HGE : Aside0 (w.heap.size ≤ g) := ⟨by rw [← hg]; exact below_size HB3.out⟩
  clear HB3 HR3 HR4 hg
  generalize w3.alloc (.cells #[.slice none 0 0, .int .i64 0, .int .i64 lo, .int .i64 (n : Int)] 60) = w4 at HI3 HB4 ⊢
  go_loopg [26] (l0.length + 1) (fun kq v26 w' => ∃ (i : Nat) (b : List Int), v26 = .int .i64 (i : Int) ∧ Aside0 (kq + i = l0.length + 1) ∧ Aside0 (i ≤ l0.length) ∧ Aside0 (b.length = (i * n + 7) / 8) ∧ Aside0 (putGo lo n (l0.drop i) b (i * n) = putGo lo n l0 [] 0) ∧ Aside0 (IsP w w' g b (i * n) lo (n : Int)) ∧ Aside0 (Below w.heap.size w w'))
  case atStart => exact ⟨0, [], rfl, ⟨by omega⟩, ⟨by omega⟩, ⟨by simp⟩, ⟨by simp⟩, ⟨by rw [Nat.zero_mul]; exact HI3.out⟩, HB4⟩
  case round =>
    clear HI3 HB4
    obtain ⟨i, b, rfl, HK, HI, HL, HP, HIS, HB⟩ := hrel
    cases gk with
    | zero => have h1 := HK.out; have h2 := HI.out; omega
    | succ k2 =>
    by_cases hi' : i < l0.length
    · have d1 : decide ((i : Int) < (l0.length : Int)) = true := decide_eq_true (by omega)
      have d1b : decide (i < l0.length) = true := decide_eq_true hi'
      have hi0 : (0 : Int) ≤ (i : Int) := Int.natCast_nonneg _
      have hi1 : (i : Int) < (l0.length : Int) := by omega
      obtain ⟨ad, ea, hx0⟩ := Kd.at_int (Kd.C_below HR0.out HB.out) (i : Int) hi0 hi1
      subst ea
      rw [Int.toNat_natCast] at hx0
      obtain ⟨x, hx⟩ : ∃ x, rd l0 (i : Int) = x := ⟨_, rfl⟩
      rw [hx] at hx0
      have hex : l0.drop i = x :: l0.drop (i + 1) := by
        rw [List.drop_eq_getElem_cons hi', ← hx]; unfold rd; simp [hi']
      have HX := Aside0.mk hex
      have HIL := Aside0.mk hi'
      have HBN : Aside0 (i * n ≤ 64000000) := ⟨by have h1 := HG.out; exact Nat.le_trans (Nat.mul_le_mul (show i ≤ 1000000 by omega) (show n ≤ 64 by omega)) (by decide)⟩
      clear hi' hx hex
      go_wp2_with fail
      refine (tight_packed_add.calls g b (i * n) lo n x (bitsGo (above x lo) n 0 b (i * n)) w _ HIS.out HB.out (by unfold tight_row_write.f; rw [if_pos ⟨HL.out, by have := HBN.out; omega, by have := HG.out; omega⟩])).mono ?_
      rintro e w6 ⟨rfl, i6, b6⟩
      have HI6 := Aside0.mk i6
      have HB6 := Aside0.mk b6
      have HW : Aside0 (wrap64 ((i : Int) + 1) = ((i + 1 : Nat) : Int)) := ⟨by have h1 := HG.out; have h2 := HIL.out; unfold wrap64; omega⟩
      have HL6 : Aside0 ((bitsGo (above x lo) n 0 b (i * n)).length = ((i + 1) * n + 7) / 8) := ⟨by rw [bitsGo_len _ _ _ _ _ HL.out, Nat.succ_mul]⟩
      have HP6 : Aside0 (putGo lo n (l0.drop (i + 1)) (bitsGo (above x lo) n 0 b (i * n)) ((i + 1) * n) = putGo lo n l0 [] 0) := ⟨by
        have h1 := HP.out
        rw [HX.out, putGo] at h1
        rw [Nat.succ_mul]; exact h1⟩
      clear i6 b6 HIS HB HL HP hx0
      go_wp2_with fail
      rw [HW.out]
      go_roundg k2
      case measure => omega
      case rel => exact ⟨i + 1, _, rfl, ⟨by have := HK.out; omega⟩, ⟨by have := HIL.out; omega⟩, HL6, HP6, ⟨by rw [Nat.succ_mul]; exact HI6.out⟩, HB6⟩
    · have hie : i = l0.length := by have := HI.out; omega
      have d1 : decide ((i : Int) < (l0.length : Int)) = false := decide_eq_false (by omega)
      have d1b : decide (i < l0.length) = false := decide_eq_false hi'
      have hbe : b = putGo lo n l0 [] 0 := by
        have h1 := HP.out
        rw [hie, List.drop_length, putGo] at h1
        exact h1
      obtain ⟨A, c, hb, hg, hR⟩ := HIS.out
      have h0 : wr.cell? ⟨g, 0, none⟩ = some (.slice A b.length c) := (blk_cell hb 0).trans rfl
      have h3 : wr.cell? ⟨g, 3, none⟩ = some (.int .i64 (n : Int)) := (blk_cell hb 3).trans rfl
      have HBE := Aside0.mk hbe
      have HBK := Aside0.mk hb
      have HRB := Aside0.mk hR
      clear hi' hie hbe hb hg hR
      go_wp2_with fail
      have HHB : Aside0 (slices_Concat_byte.f [v, [IntKind.u8.wrap (n : Int)], b] = some r) := ⟨by rw [HBE.out]; exact HH.out⟩
      have HB0 := Aside0.mk (Below.refl wr.heap.size wr)
      have HCB := Aside0.mk (Kd.R_reads' HRB.out).2.2
      have HCC := Aside0.mk (Kd.R_reads' HRB.out).2.1
      go_region_held3 (fun w' => w'.cell? ⟨g, 0, none⟩ = some (.slice A b.length c) ∧ w'.cell? ⟨g, 3, none⟩ = some (.int .i64 (n : Int))) (first | exact ⟨(blk_cell (blk_below HBK.out (by first | ((with_reducible repeat (first | exact HB0.out | apply below_alloc | apply below_drew1)); done) | fail)) 0).trans rfl, (blk_cell (blk_below HBK.out (by first | ((with_reducible repeat (first | exact HB0.out | apply below_alloc | apply below_drew1)); done) | fail)) 3).trans rfl⟩ | go_keep)
        (first
          | (go_at_call 46; refine (vint_Int.calls k lo v _ E4.out).mono ?_; rintro e w5 ⟨v5, rfl, R5, B5⟩; obtain ⟨A5, c5, rfl, hc5, C5⟩ := Kd.R_reads R5; have HC5 := Aside0.mk C5; have HCC5 := Aside0.mk hc5; (try (have HC41 := Aside0.mk (Kd.C_below (Kd.C_drew (Kd.R_reads' (lit_u8 wr 0 wr.heap.size (IntKind.u8.wrap (n : Int)) rfl (Nat.zero_le _))).2.2) B5))); have n0_ := Aside0.mk (below_step (show Below wr.heap.size wr _ from by first | ((with_reducible repeat (first | exact HB0.out | apply below_alloc | apply below_drew1)); done) | fail) B5); clear HB0; have HB0 := n0_; clear n0_ R5 C5 B5 hc5)
          | (go_at_call 45; refine (slices_Concat_byte.calls _ 3 [v, [IntKind.u8.wrap (n : Int)], b] r _ (three_rows (W := w5.alloc (.cells #[.int .u8 (IntKind.u8.wrap (n : Int))] 5)) (by first | (simp; done) | fail) HCC5.out (Kd.C_alloc HC5.out _) (Nat.le_refl _) (Kd.R_reads' (lit_u8 w5 0 w5.heap.size (IntKind.u8.wrap (n : Int)) rfl (Nat.zero_le _))).2.2 HCC.out (Kd.C_alloc (Kd.C_below HCB.out HB0.out) _)) (Nat.le_refl _) HHB.out).mono ?_; rintro e w8 ⟨v8, rfl, R8, B8⟩; have HB8 := Aside0.mk (below_step (below_step HB.out (show Below wr.heap.size wr _ from by first | ((with_reducible repeat (first | exact HB0.out | apply below_alloc | apply below_drew1)); done) | fail)) B8); have HR8 := Aside0.mk (Kd.R_lower R8 (below_size (below_step HB.out (show Below wr.heap.size wr _ from by first | ((with_reducible repeat (first | exact HB0.out | apply below_alloc | apply below_drew1)); done) | fail)))); have n0_ := Aside0.mk (below_step (show Below wr.heap.size wr _ from by first | ((with_reducible repeat (first | exact HB0.out | apply below_alloc | apply below_drew1)); done) | fail) B8); clear HB0; have HB0 := n0_; clear n0_ R8 B8)
          | (go_at_call 45; refine (slices_Concat_byte.calls _ 3 [v, [IntKind.u8.wrap (n : Int)], b] r _ (three_rows (W := w5) rfl HCC5.out HC5.out (Nat.le_refl _) HC41.out HCC.out (Kd.C_below HCB.out HB0.out)) (Nat.le_refl _) HHB.out).mono ?_; rintro e w8 ⟨v8, rfl, R8, B8⟩; have HB8 := Aside0.mk (below_step (below_step HB.out (show Below wr.heap.size wr _ from by first | ((with_reducible repeat (first | exact HB0.out | apply below_alloc | apply below_drew1)); done) | fail)) B8); have HR8 := Aside0.mk (Kd.R_lower R8 (below_size (below_step HB.out (show Below wr.heap.size wr _ from by first | ((with_reducible repeat (first | exact HB0.out | apply below_alloc | apply below_drew1)); done) | fail)))); have n0_ := Aside0.mk (below_step (show Below wr.heap.size wr _ from by first | ((with_reducible repeat (first | exact HB0.out | apply below_alloc | apply below_drew1)); done) | fail) B8); clear HB0; have HB0 := n0_; clear n0_ R8 B8)
          | fail)
      all_goals (go_wp2_with fail; go_ret; exact ⟨_, rfl, HR8.out, HB8.out⟩)
end Go.Proofs.Ytbbffnlefmogbaa.X
-- Printed for this claim by a program of this session (wip/xprint.py) over the kit's printer; Lean checks it.
namespace Go.Proofs.Ytbbffnlefmogbaa.X
open Go.RowKit Go.Proofs.YtbbffnlefmogbaaW.PrintWords Go.Proofs.YtbbffnlefmogbaaW.PrintLast Go.Proofs.YtbbffnlefmogbaaW.PrintMore
attribute [local go_sem] max2_int min2_int max_two min_two max_three min_three max_four min_four   -- for this text's walks alone
set_option linter.unusedVariables false
set_option linter.unusedSimpArgs false

/-! ### firkinref01_Same: function 13 -/
def firkinref01_Same.f (l0 : List Int) (l1 : List Int) : Option (Bool) := some ((strOfNums l0).toList == (strOfNums l1).toList)
set_option maxHeartbeats 8000000 in
set_option maxRecDepth 100000 in
theorem firkinref01_Same.calls (A0 : Option Addr) (c0 : Nat) (l0 : List Int) (A1 : Option Addr) (c1 : Nat) (l1 : List Int) (r : Bool) (w : World) (hr0 : Kd.C (Kd.int .u8) w A0 l0.length l0) (hc0 : l0.length ≤ c0) (hr1 : Kd.C (Kd.int .u8) w A1 l1.length l1) (hc1 : l1.length ≤ c1) (h : firkinref01_Same.f l0 l1 = some r) :
    Calls Try.prog 13 #[.slice A0 l0.length c0, .slice A1 l1.length c1] w fun e w' => e = .returned (.bool r) ∧ Drawn0 w w' := by
  have HR0 := Aside0.mk hr0
  have HC0 := Aside0.mk hc0
  clear hr0 hc0
  have HR1 := Aside0.mk hr1
  have HC1 := Aside0.mk hc1
  clear hr1 hc1
  have H : (some ((strOfNums l0).toList == (strOfNums l1).toList)) = some r := h
  clear h
  obtain rfl := Option.some.inj H
  have hcv3 := Kd.C_string (P := Try.prog) (A := A0) (c := c0) Try.underlying24 Try.underlying5 Try.underlying9 HR0.out
  have hcv4 := Kd.C_string (P := Try.prog) (A := A1) (c := c1) Try.underlying24 Try.underlying5 Try.underlying9 HR1.out
  go_enter Try.func13, Try.ntmps13
  go_wp2
  go_ret
  exact ⟨by first | rfl | (simp; done) | (simp [*]; done), by repeat (first | exact Drawn0.refl _ | apply Drawn0.step)⟩

/-! ### firkinlaw07_live: function 10 -/
def firkinlaw07_live.f (k : Nat)  : Option (Bool) := (tight_Put.f k (([5, 6, 8] : List Int))).bind fun t158 => ((firkinref01_Same.f t158 (([10, 2, 52] : List Int))).bind fun t164 => (some t164))
theorem firkinlaw07_live.mono : ∀ k, LeO (firkinlaw07_live.f k ) (firkinlaw07_live.f (k + 1) ) := by
  intro  k
  unfold firkinlaw07_live.f
  repeat' first
      | (with_reducible exact tight_Put.mono _ _)
      | (with_reducible exact LeO.refl _)
      | (with_reducible exact LeO.none _)
      | (with_reducible refine LeO.ite ?_ ?_)
      | (with_reducible refine LeO.bind ?_ (fun _ => ?_))
      | exact tight_Put.mono _ _
      | exact LeO.none _
      | refine LeO.ite ?_ ?_
      | refine LeO.bind ?_ (fun _ => ?_)
set_option maxHeartbeats 8000000 in
set_option maxRecDepth 100000 in
theorem firkinlaw07_live.calls (k : Nat)  (r : Bool) (w : World) (h : firkinlaw07_live.f k  = some r) :
    Calls Try.prog 10 #[] w fun e w' => e = .returned (.bool r) ∧ Below w.heap.size w w' := by
  have HB := Aside0.mk (Below.refl w.heap.size w)
  have H : ((tight_Put.f k (([5, 6, 8] : List Int))).bind fun t158 => ((firkinref01_Same.f t158 (([10, 2, 52] : List Int))).bind fun t164 => (some t164))) = some r := h
  clear h
  obtain ⟨y155, hy155⟩ : ∃ y_ : List Int, y_ = (([5, 6, 8] : List Int)) := ⟨_, rfl⟩
  replace H : ((tight_Put.f k y155).bind fun t158 => ((firkinref01_Same.f t158 (([10, 2, 52] : List Int))).bind fun t164 => (some t164))) = some r := by first | (rw [hy155]; with_reducible exact H) | (have H2_ := (Option.bind_some _ _).symm.trans H; rw [hy155]; with_reducible exact H2_) | (have H2_ := (Option.bind_some _ _).symm.trans H; with_reducible exact H2_) | with_reducible exact H | (rw [hy155]; exact H) | exact H
  have Ny155 := Aside0.mk hy155
  clear hy155
  replace H := Option.bind_eq_some_iff.mp H
  obtain ⟨t158, A10, H⟩ := H
  replace H : ((firkinref01_Same.f t158 (([10, 2, 52] : List Int))).bind fun t164 => (some t164)) = some r := H
  have A1 := Aside0.mk A10
  clear A10
  obtain ⟨y161, hy161⟩ : ∃ y_ : List Int, y_ = (([10, 2, 52] : List Int)) := ⟨_, rfl⟩
  replace H : ((firkinref01_Same.f t158 y161).bind fun t164 => (some t164)) = some r := by first | (rw [hy161]; with_reducible exact H) | (have H2_ := (Option.bind_some _ _).symm.trans H; rw [hy161]; with_reducible exact H2_) | (have H2_ := (Option.bind_some _ _).symm.trans H; with_reducible exact H2_) | with_reducible exact H | (rw [hy161]; exact H) | exact H
  have Ny161 := Aside0.mk hy161
  clear hy161
  replace H := Option.bind_eq_some_iff.mp H
  obtain ⟨t164, A20, H⟩ := H
  replace H : (some t164) = some r := H
  have A2 := Aside0.mk A20
  clear A20
  obtain rfl := Option.some.inj H
  go_enter Try.func10, Try.ntmps10
  go_wp2_with (first | ((with_reducible refine gate_dst (N := 1) rfl ?_); refine Kd.R_lit (Kd.int .i64) _ 2 ?hg (N := 1) ?hd (xs := ([5, 6, 8] : List Int)) (inner := [.int .i64 5, .int .i64 6, .int .i64 8]) (ok := fun _ => True) (okp := fun _ => True) ?hr ?hp (fun _ hk => hk) trivial (Below.refl _ _) (Nat.le_refl _) (by simp) ?_; (case hd => rfl); (case hg => rfl); (case hr => first | (go_simp; done) | (go_simp; rfl)); (case hp => exact (Reps.one (show Kd.M (Kd.int .i64) _ _ _ 5 [.int .i64 5] from rfl) (Reps.one (show Kd.M (Kd.int .i64) _ _ _ 6 [.int .i64 6] from rfl) (Reps.one (show Kd.M (Kd.int .i64) _ _ _ 8 [.int .i64 8] from rfl) (Reps.none _ _))))); intro v156 w3 ho4 hb hg_ hnew_; clear hg_ hnew_; (first | rw [← Ny155.out] at ho4 | (simp only [Int.reduceToNat] at ho4; rw [← Ny155.out] at ho4)); have n0_ := Aside0.mk (Kd.R_lower ho4 (below_size (by repeat (first | (with_reducible first | exact HB.out | apply below_alloc | apply pw_below_drewN | apply below_drew1) | exact HB.out)))); have n1_ := Aside0.mk (below_step (by repeat (first | (with_reducible first | exact HB.out | apply below_alloc | apply pw_below_drewN | apply below_drew1) | exact HB.out)) hb); clear HB; have HO157 := n0_; have HB := n1_; clear n0_ n1_; clear hb ho4; obtain ⟨Ao5, co5, eo5⟩ := Kd.R_slice HO157.out; subst eo5) | ((with_reducible refine gate_callee (f := 11) rfl ?_); refine goesL_ (some 2) rfl rfl Try.func11 (by kernel_rfl) rfl #[.slice Ao5 y155.length co5] rfl (by (try simp only [List.map_toArray, List.map_cons, List.map_nil]); first | done | rfl | (simp only [List.length_drop, List.length_take]; rfl)) ?_; (with_reducible refine (tight_Put.calls k _ _ y155 t158 _ ?side1 ?side2 A1.out).mono ?_); (case side1 => repeat (first | exact (Kd.R_reads' HO157.out).2.2 | (with_reducible refine Kd.C_alloc ?_ _) | (with_reducible refine Kd.C_drewN ?_ _) | (with_reducible refine Kd.C_drew ?_))); (case side2 => exact (Kd.R_reads' HO157.out).2.1); rintro e w6 ⟨v159, rfl, ho0, hb⟩; refine ⟨_, rfl, ?_⟩; have n0_ := Aside0.mk (Kd.R_below (by (with_reducible repeat (first | apply Kd.R_alloc | apply Kd.R_drewN | apply Kd.R_drew)); exact HO157.out) hb); have n1_ := Aside0.mk (Kd.R_lower ho0 (below_size (by repeat (first | (with_reducible first | exact HB.out | apply below_alloc | apply pw_below_drewN | apply below_drew1) | exact HB.out)))); have n2_ := Aside0.mk (below_step (by repeat (first | (with_reducible first | exact HB.out | apply below_alloc | apply pw_below_drewN | apply below_drew1) | exact HB.out)) hb); clear HO157; clear HB; have HO157 := n0_; have HO160 := n1_; have HB := n2_; clear n0_ n1_ n2_; (try clear hb); (try clear hb2); (try clear hk); (try clear hi); (try clear ho0)) | ((with_reducible refine gate_dst (N := 3) rfl ?_); refine Kd.R_lit (Kd.int .u8) _ 5 ?hg (N := 3) ?hd (xs := ([10, 2, 52] : List Int)) (inner := [.int .u8 10, .int .u8 2, .int .u8 52]) (ok := fun _ => True) (okp := fun _ => True) ?hr ?hp (fun _ hk => hk) trivial (Below.refl _ _) (Nat.le_refl _) (by simp) ?_; (case hd => rfl); (case hg => rfl); (case hr => first | (go_simp; done) | (go_simp; rfl)); (case hp => exact (Reps.one (show Kd.M (Kd.int .u8) _ _ _ 10 [.int .u8 10] from rfl) (Reps.one (show Kd.M (Kd.int .u8) _ _ _ 2 [.int .u8 2] from rfl) (Reps.one (show Kd.M (Kd.int .u8) _ _ _ 52 [.int .u8 52] from rfl) (Reps.none _ _))))); intro v162 w7 ho8 hb hg_ hnew_; clear hg_ hnew_; (first | rw [← Ny161.out] at ho8 | (simp only [Int.reduceToNat] at ho8; rw [← Ny161.out] at ho8)); have n0_ := Aside0.mk (Kd.R_below (by (with_reducible repeat (first | apply Kd.R_alloc | apply Kd.R_drewN | apply Kd.R_drew)); exact HO157.out) hb); have n1_ := Aside0.mk (Kd.R_elder' (by (with_reducible repeat (first | apply Kd.R_alloc | apply Kd.R_drewN | apply Kd.R_drew)); exact HO160.out) (Kd.R_base ho8) hb); have n2_ := Aside0.mk (Kd.R_lower (Kd.R_new' ho8 (Kd.R_lt (by (with_reducible repeat (first | apply Kd.R_alloc | apply Kd.R_drewN | apply Kd.R_drew)); exact HO160.out))) (below_size (by repeat (first | (with_reducible first | exact HB.out | apply below_alloc | apply pw_below_drewN | apply below_drew1) | exact HB.out)))); have n3_ := Aside0.mk (below_step (by repeat (first | (with_reducible first | exact HB.out | apply below_alloc | apply pw_below_drewN | apply below_drew1) | exact HB.out)) hb); clear HO157; clear HO160; clear HB; have HO157 := n0_; have HO160 := n1_; have HO163 := n2_; have HB := n3_; clear n0_ n1_ n2_ n3_; clear hb ho8; obtain ⟨Ao9, co9, eo9⟩ := Kd.R_slice HO160.out; subst eo9; obtain ⟨Ao10, co10, eo10⟩ := Kd.R_slice HO163.out; subst eo10) | ((with_reducible refine gate_callee (f := 13) rfl ?_); refine goesL_ (some 4) rfl rfl Try.func13 (by kernel_rfl) rfl #[.slice Ao9 t158.length co9, .slice Ao10 y161.length co10] rfl (by (try simp only [List.map_toArray, List.map_cons, List.map_nil]); first | done | rfl | (simp only [List.length_drop, List.length_take]; rfl)) ?_; (with_reducible refine (firkinref01_Same.calls _ _ t158 _ _ y161 t164 _ ?side1 ?side2 ?side3 ?side4 A2.out).mono ?_); (case side1 => repeat (first | exact (Kd.R_reads' HO160.out).2.2 | (with_reducible refine Kd.C_alloc ?_ _) | (with_reducible refine Kd.C_drewN ?_ _) | (with_reducible refine Kd.C_drew ?_))); (case side2 => exact (Kd.R_reads' HO160.out).2.1); (case side3 => repeat (first | exact (Kd.R_reads' HO163.out).2.2 | (with_reducible refine Kd.C_alloc ?_ _) | (with_reducible refine Kd.C_drewN ?_ _) | (with_reducible refine Kd.C_drew ?_))); (case side4 => exact (Kd.R_reads' HO163.out).2.1); rintro e w' ⟨rfl, ⟨nd, rfl⟩⟩; refine ⟨_, rfl, ?_⟩))
  go_ret
  exact ⟨by first | rfl | (simp [errW_none, errW_some] <;> rfl) | (simp [*, errW_none, errW_some] <;> rfl), by repeat (first | (with_reducible first | exact HB.out | apply below_alloc | apply pw_below_drewN | apply below_drew1) | exact HB.out)⟩

end Go.Proofs.Ytbbffnlefmogbaa.X
-- Printed for this claim by a program of this session (wip/xprint.py) over the kit's printer; Lean checks it.
namespace Go.Proofs.Ytbbffnlefmogbaa.X
open Go.RowKit Go.Proofs.YtbbffnlefmogbaaW.PrintWords Go.Proofs.YtbbffnlefmogbaaW.PrintLast Go.Proofs.YtbbffnlefmogbaaW.PrintMore
attribute [local go_sem] max2_int min2_int max_two min_two max_three min_three max_four min_four   -- for this text's walks alone
set_option linter.unusedVariables false
set_option linter.unusedSimpArgs false

/-! ### firkinref07_Same: function 15 -/
def firkinref07_Same.l0 : Nat → List Int → List Int → Int → Option (Bool)
  | 0, _, _, _ => none
  | k + 1, x0, x1, x5 => if x5 < (x0.length : Int) then (if 0 ≤ x5 then (if x5 < (x1.length : Int) then (if (rd x0 x5) = (rd x1 x5) then (firkinref07_Same.l0 k x0 x1 (wrap64 (x5 + 1))) else (some false)) else (none)) else (none)) else (some true)
def firkinref07_Same.f (k : Nat) (l0 : List Int) (l1 : List Int) : Option (Bool) := if (l0.length : Int) = (l1.length : Int) then (firkinref07_Same.l0 k l0 l1 0) else (some false)
theorem firkinref07_Same.mono_l : ∀ k, (∀ y0 y1 y2, LeO (firkinref07_Same.l0 k y0 y1 y2) (firkinref07_Same.l0 (k + 1) y0 y1 y2))
  | 0 => fun _ _ _ r h => by simp [firkinref07_Same.l0] at h
  | k + 1 => by
    have ih0 := firkinref07_Same.mono_l k
    · intro y0 y1 y2
      unfold firkinref07_Same.l0
      repeat' first
      | (with_reducible exact ih0 _ _ _)
      | (with_reducible exact LeO.refl _)
      | (with_reducible exact LeO.none _)
      | (with_reducible refine LeO.ite ?_ ?_)
      | (with_reducible refine LeO.bind ?_ (fun _ => ?_))
      | exact ih0 _ _ _
      | exact LeO.none _
      | refine LeO.ite ?_ ?_
      | refine LeO.bind ?_ (fun _ => ?_)
theorem firkinref07_Same.mono : ∀ a0 a1 k, LeO (firkinref07_Same.f k a0 a1) (firkinref07_Same.f (k + 1) a0 a1) := by
  intro a0 a1 k
  have ih0 := firkinref07_Same.mono_l k
  unfold firkinref07_Same.f
  repeat' first
      | (with_reducible exact ih0 _ _ _)
      | (with_reducible exact LeO.refl _)
      | (with_reducible exact LeO.none _)
      | (with_reducible refine LeO.ite ?_ ?_)
      | (with_reducible refine LeO.bind ?_ (fun _ => ?_))
      | exact ih0 _ _ _
      | exact LeO.none _
      | refine LeO.ite ?_ ?_
      | refine LeO.bind ?_ (fun _ => ?_)
set_option maxHeartbeats 8000000 in
set_option maxRecDepth 100000 in
theorem firkinref07_Same.calls (k : Nat) (A0 : Option Addr) (c0 : Nat) (l0 : List Int) (A1 : Option Addr) (c1 : Nat) (l1 : List Int) (r : Bool) (w : World) (hr0 : Kd.C (Kd.int .i64) w A0 l0.length l0) (hc0 : l0.length ≤ c0) (hr1 : Kd.C (Kd.int .i64) w A1 l1.length l1) (hc1 : l1.length ≤ c1) (h : firkinref07_Same.f k l0 l1 = some r) :
    Calls Try.prog 15 #[.slice A0 l0.length c0, .slice A1 l1.length c1] w fun e w' => e = .returned (.bool r) ∧ Drawn0 w w' := by
  have HR0 := Aside0.mk hr0
  have HC0 := Aside0.mk hc0
  clear hr0 hc0
  have HR1 := Aside0.mk hr1
  have HC1 := Aside0.mk hc1
  clear hr1 hc1
  have H : (if (l0.length : Int) = (l1.length : Int) then (firkinref07_Same.l0 k l0 l1 0) else (some false)) = some r := h
  clear h
  by_cases c3 : (l0.length : Int) = (l1.length : Int)
  · rw [if_pos c3] at H
    have c3b0 : ((l0.length : Int) == (l1.length : Int)) = true := beq_iff_eq.mpr c3
    have c3b1 : ((l0.length : Int) != (l1.length : Int)) = false := bne_eq_false_iff_eq.mpr c3
    have c3b2 : (l0.length == l1.length) = true := by first | simpa using c3 | (simp at c3 ⊢; omega)
    clear c3
    have H' := Aside0.mk H
    clear H
    go_enter Try.func15, Try.ntmps15
    go_wp2
    repeat (go_quiet (fail); try go_wp2)
    go_loopg [5] k (fun kq v5 w' => ∃ (x5_1 : Int), v5 = .int .i64 x5_1 ∧ Aside0 (firkinref07_Same.l0 kq l0 l1 x5_1 = some r) ∧ Aside0 (kq ≤ k) ∧ Drawn0 w w')
    case atStart => exact ⟨(0), (by first | rfl | (simp; done) | (simp [*]; done)), H', ⟨Nat.le_refl _⟩, by repeat (first | exact Drawn0.refl _ | apply Drawn0.step)⟩
    case round =>
      clear H'
      try clear c1
      try clear p2
      try clear c3
      try clear c3b0
      try clear c3b1
      try clear c3b2
      obtain ⟨x5_1, rfl, HA, HK1, ⟨m1, rfl⟩⟩ := hrel
      cases gk with
      | zero => exact absurd HA.out (by simp [firkinref07_Same.l0])
      | succ k1 =>
        have H := HA.out
        clear HA
        simp only [firkinref07_Same.l0] at H
        by_cases c4 : x5_1 < (l0.length : Int)
        · rw [if_pos c4] at H
          have c4b0 : decide (x5_1 < (l0.length : Int)) = true := decide_eq_true c4
          clear c4
          by_cases c5 : 0 ≤ x5_1
          · rw [if_pos c5] at H
            have c5b0 : decide (0 ≤ x5_1) = true := decide_eq_true c5
            clear c5
            by_cases c6 : x5_1 < (l1.length : Int)
            · rw [if_pos c6] at H
              have c6b0 : decide (x5_1 < (l1.length : Int)) = true := decide_eq_true c6
              clear c6
              by_cases c7 : (rd l0 x5_1) = (rd l1 x5_1)
              · rw [if_pos c7] at H
                have c7b0 : ((rd l0 x5_1) == (rd l1 x5_1)) = true := beq_iff_eq.mpr c7
                have c7b1 : ((rd l0 x5_1) != (rd l1 x5_1)) = false := bne_eq_false_iff_eq.mpr c7
                clear c7
                have H' := Aside0.mk H
                clear H
                have p171 : 0 ≤ (x5_1 : Int) := of_decide_eq_true (by first | (with_reducible assumption) | assumption)
                have q171 : x5_1 < (l0.length : Int) := of_decide_eq_true (by first | (with_reducible assumption) | assumption)
                obtain ⟨ad171, e171, hx171_0⟩ := Kd.at_int HR0.out x5_1 p171 q171
                cases e171
                replace p171 := eq_true p171
                replace q171 := eq_true q171
                have p172 : 0 ≤ (x5_1 : Int) := of_decide_eq_true (by first | (with_reducible assumption) | assumption)
                have q172 : x5_1 < (l1.length : Int) := of_decide_eq_true (by first | (with_reducible assumption) | assumption)
                obtain ⟨ad172, e172, hx172_0⟩ := Kd.at_int HR1.out x5_1 p172 q172
                cases e172
                replace p172 := eq_true p172
                replace q172 := eq_true q172
                go_wp2
                repeat (go_quiet (fail); try go_wp2)
                go_roundg k1
                case measure => have := HK1.out; omega
                case rel => exact ⟨(wrap64 (x5_1 + 1)), (by first | rfl | (simp; done) | (simp [*]; done)), H', ⟨by have := HK1.out; omega⟩, by repeat (first | exact Drawn0.refl _ | apply Drawn0.step)⟩
              · rw [if_neg c7] at H
                have c7b0 : ((rd l0 x5_1) == (rd l1 x5_1)) = false := beq_eq_false_iff_ne.mpr c7
                have c7b1 : ((rd l0 x5_1) != (rd l1 x5_1)) = true := bne_iff_ne.mpr c7
                obtain rfl := Option.some.inj H
                have p171 : 0 ≤ (x5_1 : Int) := of_decide_eq_true (by first | (with_reducible assumption) | assumption)
                have q171 : x5_1 < (l0.length : Int) := of_decide_eq_true (by first | (with_reducible assumption) | assumption)
                obtain ⟨ad171, e171, hx171_0⟩ := Kd.at_int HR0.out x5_1 p171 q171
                cases e171
                replace p171 := eq_true p171
                replace q171 := eq_true q171
                have p172 : 0 ≤ (x5_1 : Int) := of_decide_eq_true (by first | (with_reducible assumption) | assumption)
                have q172 : x5_1 < (l1.length : Int) := of_decide_eq_true (by first | (with_reducible assumption) | assumption)
                obtain ⟨ad172, e172, hx172_0⟩ := Kd.at_int HR1.out x5_1 p172 q172
                cases e172
                replace p172 := eq_true p172
                replace q172 := eq_true q172
                go_wp2
                repeat (go_quiet (fail); try go_wp2)
                go_ret
                exact ⟨by first | rfl | (simp; done) | (simp [*]; done), by repeat (first | exact Drawn0.refl _ | apply Drawn0.step)⟩
            · rw [if_neg c6] at H
              exact absurd H (by simp)
          · rw [if_neg c5] at H
            exact absurd H (by simp)
        · rw [if_neg c4] at H
          have c4b0 : decide (x5_1 < (l0.length : Int)) = false := decide_eq_false c4
          clear c4
          obtain rfl := Option.some.inj H
          go_wp2
          repeat (go_quiet (fail); try go_wp2)
          go_ret
          exact ⟨by first | rfl | (simp; done) | (simp [*]; done), by repeat (first | exact Drawn0.refl _ | apply Drawn0.step)⟩
  · rw [if_neg c3] at H
    have c3b0 : ((l0.length : Int) == (l1.length : Int)) = false := beq_eq_false_iff_ne.mpr c3
    have c3b1 : ((l0.length : Int) != (l1.length : Int)) = true := bne_iff_ne.mpr c3
    have c3b2 : (l0.length == l1.length) = false := by first | simpa using c3 | (simp at c3 ⊢; omega)
    obtain rfl := Option.some.inj H
    go_enter Try.func15, Try.ntmps15
    go_wp2
    repeat (go_quiet (fail); try go_wp2)
    go_ret
    exact ⟨by first | rfl | (simp; done) | (simp [*]; done), by repeat (first | exact Drawn0.refl _ | apply Drawn0.step)⟩

/-! ### firkinref07_need: function 50 -/
def firkinref07_need.l0 : Nat → Int → Int → Option (Int)
  | 0, _, _ => none
  | k + 1, x0, x3 => if x0 > 0 then (firkinref07_need.l0 k (IntKind.u64.wrap (Int.tdiv x0 2)) (wrap64 (x3 + 1))) else (some x3)
def firkinref07_need.f (k : Nat) (a0 : Int) : Option (Int) := firkinref07_need.l0 k a0 0
theorem firkinref07_need.mono_l : ∀ k, (∀ y0 y1, LeO (firkinref07_need.l0 k y0 y1) (firkinref07_need.l0 (k + 1) y0 y1))
  | 0 => fun _ _ r h => by simp [firkinref07_need.l0] at h
  | k + 1 => by
    have ih0 := firkinref07_need.mono_l k
    · intro y0 y1
      unfold firkinref07_need.l0
      repeat' first
      | (with_reducible exact ih0 _ _)
      | (with_reducible exact LeO.refl _)
      | (with_reducible exact LeO.none _)
      | (with_reducible refine LeO.ite ?_ ?_)
      | (with_reducible refine LeO.bind ?_ (fun _ => ?_))
      | exact ih0 _ _
      | exact LeO.none _
      | refine LeO.ite ?_ ?_
      | refine LeO.bind ?_ (fun _ => ?_)
theorem firkinref07_need.mono : ∀ a0 k, LeO (firkinref07_need.f k a0) (firkinref07_need.f (k + 1) a0) := by
  intro a0 k
  have ih0 := firkinref07_need.mono_l k
  unfold firkinref07_need.f
  repeat' first
      | (with_reducible exact ih0 _ _)
      | (with_reducible exact LeO.refl _)
      | (with_reducible exact LeO.none _)
      | (with_reducible refine LeO.ite ?_ ?_)
      | (with_reducible refine LeO.bind ?_ (fun _ => ?_))
      | exact ih0 _ _
      | exact LeO.none _
      | refine LeO.ite ?_ ?_
      | refine LeO.bind ?_ (fun _ => ?_)
set_option maxHeartbeats 8000000 in
set_option maxRecDepth 100000 in
theorem firkinref07_need.calls (k : Nat) (a0 : Int) (r : Int) (w : World) (h : firkinref07_need.f k a0 = some r) :
    Calls Try.prog 50 #[.int .u64 a0] w fun e w' => e = .returned (.int .i64 r) ∧ Drawn0 w w' := by
  have H : (firkinref07_need.l0 k a0 0) = some r := h
  clear h
  have H' := Aside0.mk H
  clear H
  go_enter Try.func50, Try.ntmps50
  go_wp2
  go_loopg [0, 3] k (fun kq v0 v3 w' => ∃ (x0_1 : Int) (x3_1 : Int), v0 = .int .u64 x0_1 ∧ v3 = .int .i64 x3_1 ∧ Aside0 (firkinref07_need.l0 kq x0_1 x3_1 = some r) ∧ Aside0 (kq ≤ k) ∧ Drawn0 w w')
  case atStart => exact ⟨(a0), (0), (by first | rfl | (simp; done) | (simp [*]; done)), (by first | rfl | (simp; done) | (simp [*]; done)), H', ⟨Nat.le_refl _⟩, by repeat (first | exact Drawn0.refl _ | apply Drawn0.step)⟩
  case round =>
    clear H'
    obtain ⟨x0_1, x3_1, rfl, rfl, HA, HK1, ⟨m1, rfl⟩⟩ := hrel
    cases gk with
    | zero => exact absurd HA.out (by simp [firkinref07_need.l0])
    | succ k1 =>
      have H := HA.out
      clear HA
      simp only [firkinref07_need.l0] at H
      by_cases c2 : x0_1 > 0
      · rw [if_pos c2] at H
        have c2b0 : decide (0 < x0_1) = true := decide_eq_true c2
        clear c2
        have H' := Aside0.mk H
        clear H
        go_wp2
        go_roundg k1
        case measure => have := HK1.out; omega
        case rel => exact ⟨(IntKind.u64.wrap (Int.tdiv x0_1 2)), (wrap64 (x3_1 + 1)), (by first | rfl | (simp; done) | (simp [*]; done)), (by first | rfl | (simp; done) | (simp [*]; done)), H', ⟨by have := HK1.out; omega⟩, by repeat (first | exact Drawn0.refl _ | apply Drawn0.step)⟩
      · rw [if_neg c2] at H
        have c2b0 : decide (0 < x0_1) = false := decide_eq_false c2
        clear c2
        obtain rfl := Option.some.inj H
        go_wp2
        go_ret
        exact ⟨by first | rfl | (simp; done) | (simp [*]; done), by repeat (first | exact Drawn0.refl _ | apply Drawn0.step)⟩

end Go.Proofs.Ytbbffnlefmogbaa.X
/- The contract of (*firkinref01.S).Take: the first bytes, in memory of their own; or it failed. -/
namespace Go.Proofs.Ytbbffnlefmogbaa.X
open Go.RowKit Go.Proofs.YtbbffnlefmogbaaW.PrintWords Go.Proofs.YtbbffnlefmogbaaW.PrintLast Go.Proofs.YtbbffnlefmogbaaW.PrintMore
set_option linter.unusedVariables false
set_option linter.unusedSimpArgs false
def rtakeS (l : List Int) (bad : Bool) (n : Int) : List Int × List Int × Bool :=
  if bad = true ∨ n < 0 ∨ (l.length : Int) < n then ([], [], true) else (l.take n.toNat, l.drop n.toNat, false)
def firkinref01_S_Take.f (l : List Int) (bad : Bool) (n : Int) : Option (List Int × List Int × Bool) := if l.length < 1000000000000 then some (rtakeS l bad n) else none
set_option maxHeartbeats 8000000 in
set_option maxRecDepth 100000 in
theorem firkinref01_S_Take.calls (g : Nat) (s0_0 : List Int) (s0_1 : Bool) (a1 : Int) (r1 : List Int) (r2 : List Int) (r3 : Bool) (w0 w : World) (hI : IsS39 w0 w g s0_0 s0_1) (hB : Below w0.heap.size w0 w) (h : firkinref01_S_Take.f s0_0 s0_1 a1 = some (r1, r2, r3)) :
    Calls Try.prog 53 #[.pointer (some ⟨g, 0, none⟩), .int .i64 a1] w fun e w' => ∃ v0_ : Value, e = .returned v0_ ∧ Kd.R (Kd.int .u8) 5 w' w.heap.size (fun _ => True) v0_ r1 ∧ IsS39 w0 w' g r2 r3 ∧ Below w0.heap.size w0 w' ∧ KeepBut w w' g none := by
  unfold firkinref01_S_Take.f at h
  by_cases hf : s0_0.length < 1000000000000
  case neg => rw [if_neg hf] at h; cases h
  rw [if_pos hf] at h
  have h := Option.some.inj h
  unfold rtakeS at h
  have HF := Aside0.mk hf
  have HI := Aside0.mk hI
  obtain ⟨A1, c1, hb1, hg1, hr1, hc1⟩ := hI
  have h0 : w.cell? ⟨g, 0, none⟩ = some (.slice A1 s0_0.length c1) := (blk_cell hb1 0).trans rfl
  have h1 : w.cell? ⟨g, 1, none⟩ = some (.bool s0_1) := (blk_cell hb1 1).trans rfl
  have HB1 := Aside0.mk hb1
  clear hf hb1
  have hu := Try.underlying39
  by_cases ht : s0_1 = true ∨ a1 < 0 ∨ (s0_0.length : Int) < a1
  · rw [if_pos ht] at h
    simp only [Prod.mk.injEq] at h
    obtain ⟨rfl, rfl, rfl⟩ := h
    obtain ⟨bn, hbn⟩ : ∃ b_ : Bool, decide (a1 < 0) = b_ := ⟨_, rfl⟩
    obtain ⟨bl, hbl⟩ : ∃ b_ : Bool, decide ((s0_0.length : Int) < a1) = b_ := ⟨_, rfl⟩
    have hx : (s0_1 || bn || bl) = true := by rw [← hbn, ← hbl]; simp only [Bool.or_eq_true, decide_eq_true_eq]; exact (or_assoc).mpr ht
    clear ht
    cases s0_1 <;> cases bn <;> cases bl <;> first
      | (exact absurd hx (by decide))
      | (clear hx
         go_enter Try.func53, Try.ntmps53
         go_wp2_with fail
         refine (firkinref01_S_Fail.calls g s0_0 _ [] true w0 _ HI.out hB rfl).mono ?_
         rintro e w2 ⟨rfl, hI2, hB2, hK2⟩
         go_wp2_with fail
         go_ret
         exact ⟨_, rfl, Kd.R_nil _ _ _ _ _, hI2, hB2, hK2⟩)
  · rw [if_neg ht] at h
    simp only [Prod.mk.injEq] at h
    obtain ⟨rfl, rfl, rfl⟩ := h
    have hbad : s0_1 = false := by cases s0_1 <;> simp_all
    subst hbad
    obtain ⟨m, rfl⟩ : ∃ m : Nat, a1 = (m : Int) := ⟨a1.toNat, by omega⟩
    rw [Int.toNat_natCast]
    have hm : m ≤ s0_0.length := by omega
    have hbn : decide ((m : Int) < 0) = false := decide_eq_false (by omega)
    have hbl : decide ((s0_0.length : Int) < (m : Int)) = false := decide_eq_false (by omega)
    have hbl2 : decide (s0_0.length < m) = false := decide_eq_false (by omega)
    have hlm : (s0_0.take m).length = m := by rw [List.length_take]; omega
    have HCT : Aside0 (Kd.C (Kd.int .u8) w A1 m (s0_0.take m)) := ⟨by have := Kd.C_take (Kd.C_below hr1 hB) hm; rwa [hlm] at this⟩
    have HLM := Aside0.mk hlm
    clear ht hlm
    obtain ⟨i5, hi5, hsz5⟩ : ∃ i, Try.prog.info? 5 = some i ∧ i.size = (Kd.int .u8).sz := by
      obtain ⟨i, hi, hz⟩ := Option.map_eq_some_iff.1 info5
      simp only [Prod.mk.injEq] at hz
      exact ⟨i, hi, hz.2.1⟩
    obtain ⟨A', hcut, hCd, hld, hcd⟩ := Mem.cut_from' (P := Try.prog) (d := Kd.int .u8) 24 5 .i64 Try.underlying24 hi5 hsz5 (m := m) hr1 hm hc1
    have HD := Aside0.mk hCd
    have HLD := Aside0.mk hld
    clear hCd hld hi5
    go_enter Try.func53, Try.ntmps53
    go_wp2_with (first | ((with_reducible refine gate_dst (N := 25) rfl ?_); refine Kd.R_lit (Kd.int .u8) _ 5 ?hg (N := 25) ?hd (xs := ([] : List Int)) (inner := []) (ok := fun _ => True) (okp := fun _ => True) ?hr ?hp (fun _ hk => hk) trivial (Below.refl _ _) (Nat.le_refl _) (by simp) ?_; (case hd => rfl); (case hg => rfl); (case hr => first | (go_simp; done) | (go_simp; rfl)); (case hp => exact (Reps.none _ _)); intro v205 w2 ho3 hb hg_ hnew_; clear hg_ hnew_; have HO := Aside0.mk ho3; have HB := Aside0.mk hb; have h0b : w2.cell? ⟨g, 0, none⟩ = some (.slice A1 s0_0.length c1) := (blk_cell (blk_below HB1.out hb) 0).trans rfl; clear ho3 hb) | ((with_reducible refine gate_builtin (b := .append) (xs := #[.tmp 25, .tmp 31]) rfl ?_); at_builtin; refine Kd.R_append_rows (Kd.int .u8) (w0 := w) w.heap.size rfl (.tmp 25) (.tmp 31) 24 5 (.int .u8 0) 1 rfl Try.underlying24 info5 rfl (by decide) (by omega) v205 [] (s0_0.take m) _ _ _ (fun _ => True) (fun _ => False) rfl rfl HO.out (Kd.C_below HCT.out HB.out) (fun _ _ h => h) (fun _ h => h.elim) (fun _ _ => trivial) HB.out (below_size HB.out) (by have := HF.out; rw [List.length_nil]; omega) ?_; intro v4 w4 ho hb hg hat; have HO4 := Aside0.mk ho; have HB4 := Aside0.mk hb; have h0c : w4.cell? ⟨g, 0, none⟩ = some (.slice A1 s0_0.length c1) := (blk_cell (blk_below HB1.out hb) 0).trans rfl; have f0c := blk_frozen (blk_below HB1.out hb) 0; clear HO HB ho hb hg hat))
    go_ret
    have h2 := blk_set (blk_below HB1.out HB4.out) 0 (.slice A' (s0_0.length - m) (c1 - m))
    have HG : Aside0 (g < w.heap.size) := ⟨blk_lt HB1.out⟩
    refine ⟨_, rfl, ?_, ⟨A', c1 - m, ?_, hg1, ?_, ?_⟩, below_set (below_step hB HB4.out) hg1, KeepBut.set_ (KeepBut.of_below HB4.out g none) 0 _⟩
    · have h5 := Kd.R_far (p := ⟨g, 0, none⟩) (Kd.R_bound HO4.out) (fun k hk => by have := HG.out; have := hk.2.1; show k ≠ g; omega) (.slice A' (s0_0.length - m) (c1 - m))
      rw [List.nil_append] at h5
      exact Kd.R_mono h5 (fun _ _ => trivial)
    · rw [HLD.out]; simpa using h2
    · rw [HLD.out]; exact HD.out
    · rw [HLD.out]; exact hcd
end Go.Proofs.Ytbbffnlefmogbaa.X
