/- The contract of firkinref11.Of: cells' zone, by the document's loop. -/
import Derived.Test.YtkdlfejokahohaaZoneLaw
import Derived.Test.YtkdlfejokahohaaCellOrdR
import Derived.Deep.QuietTactic
import Derived.BigQuiet
namespace Go.Proofs.Ytkdlfejokahohaa.X
open Go.RowKit Go.Proofs.Ytkdlfejokahohaa.CellPlain Go.Proofs.Ytkdlfejokahohaa.ZoneLaw Go.Proofs.YtkdlfejokahohaaW.PrintWords Go.Proofs.YtkdlfejokahohaaW.PrintLast Go.Proofs.YtkdlfejokahohaaW.PrintMore
set_option linter.unusedVariables false
set_option linter.unusedSimpArgs false
theorem wrap_sm {x : Int} (h : -9223372036854775808 ≤ x) (h2 : x < 9223372036854775808) : wrap64 x = x := by unfold wrap64; omega
theorem below_low {g : Nat} {w W : World} (hb : Below w.heap.size w W) (hg : w.heap.size ≤ g) (c : S23) : Below w.heap.size w (((W.setCell ⟨g, 2, none⟩ (.bool c.f0)).setCell ⟨g, 3, none⟩ (.int .i64 c.f1)).setCell ⟨g, 4, none⟩ (.string c.f2)) := below_set (below_set (below_set hb hg) hg) hg
theorem below_hi {g : Nat} {w W : World} (hb : Below w.heap.size w W) (hg : w.heap.size ≤ g) (c : S23) : Below w.heap.size w (((W.setCell ⟨g, 5, none⟩ (.bool c.f0)).setCell ⟨g, 6, none⟩ (.int .i64 c.f1)).setCell ⟨g, 7, none⟩ (.string c.f2)) := below_set (below_set (below_set hb hg) hg) hg
theorem far3 {W : World} {k g : Nat} {o : Obj} (i j m : Nat) (u v x : Value) (hk : k ≠ g) (ho : W.heap[k]? = some o) : (((W.setCell ⟨g, i, none⟩ u).setCell ⟨g, j, none⟩ v).setCell ⟨g, m, none⟩ x).heap[k]? = some o := by
  rw [Below.heap_setCell _ ⟨g, m, none⟩ _ k hk, Below.heap_setCell _ ⟨g, j, none⟩ _ k hk, Below.heap_setCell _ ⟨g, i, none⟩ _ k hk, ho]
/-- What lies where, while the document's Of runs. -/
def RO (w : World) (len n : Int) (lo hi : S23) (W : World) : Prop :=
  W.heap[w.heap.size]? = some (.cells (zv 0 0 ⟨false, 0, ByteArray.empty⟩ ⟨false, 0, ByteArray.empty⟩) 25 (0, 0)) ∧ W.heap[w.heap.size + 1]? = some (.cells (zv len n lo hi) 25 (0, 0)) ∧ Below w.heap.size w W
theorem RO.below {w : World} {len n : Int} {lo hi : S23} {W W' : World} (h : RO w len n lo hi W) (hb : Below W.heap.size W W') : RO w len n lo hi W' := ⟨blk_below h.1 hb, blk_below h.2.1 hb, below_step h.2.2 hb⟩
theorem RO.drew {w : World} {len n : Int} {lo hi : S23} {W : World} (h : RO w len n lo hi W) : RO w len n lo hi W.drew := ⟨h.1, h.2.1, below_drew h.2.2⟩
theorem RO.drewN {w : World} {len n : Int} {lo hi : S23} {W : World} (h : RO w len n lo hi W) (m : Nat) : RO w len n lo hi (W.drewN m) := ⟨h.1, h.2.1, pw_below_drewN h.2.2 m⟩
theorem RO.low {w : World} {len n : Int} {lo hi : S23} {W : World} (h : RO w len n lo hi W) (c : S23) : RO w len n c hi (((W.setCell ⟨w.heap.size + 1, 2, none⟩ (.bool c.f0)).setCell ⟨w.heap.size + 1, 3, none⟩ (.int .i64 c.f1)).setCell ⟨w.heap.size + 1, 4, none⟩ (.string c.f2)) :=
  ⟨far3 _ _ _ _ _ _ (by omega) h.1, set_low _ _ _ _ _ _ c _ h.2.1, below_low h.2.2 (by omega) c⟩
theorem RO.hi {w : World} {len n : Int} {lo hi : S23} {W : World} (h : RO w len n lo hi W) (c : S23) : RO w len n lo c (((W.setCell ⟨w.heap.size + 1, 5, none⟩ (.bool c.f0)).setCell ⟨w.heap.size + 1, 6, none⟩ (.int .i64 c.f1)).setCell ⟨w.heap.size + 1, 7, none⟩ (.string c.f2)) :=
  ⟨far3 _ _ _ _ _ _ (by omega) h.1, set_hi _ _ _ _ _ _ c _ h.2.1, below_hi h.2.2 (by omega) c⟩
theorem RO.null {w : World} {len n : Int} {lo hi : S23} {W : World} (h : RO w len n lo hi W) (m : Int) : RO w len m lo hi (W.setCell ⟨w.heap.size + 1, 1, none⟩ (.int .i64 m)) :=
  ⟨blk_far h.1 (p := ⟨w.heap.size + 1, 1, none⟩) (by show w.heap.size ≠ w.heap.size + 1; omega) _, blk_set h.2.1 1 (.int .i64 m), below_set h.2.2 (by omega)⟩
set_option maxHeartbeats 8000000 in
set_option maxRecDepth 100000 in
theorem firkinref11_Of.note (A0 : Option Addr) (c0 : Nat) (l0 : List S23) (w : World) (hr0 : Kd.C k23 w A0 l0.length l0) (hc0 : l0.length ≤ c0) (hmax : l0.length < 1000000) :
    Calls Try.prog 58 #[.slice A0 l0.length c0] w fun e w' => e = .returned (.agg (zv (l0.length : Int) (noteAll zc0 l0).2.1 (noteAll zc0 l0).2.2.1 (noteAll zc0 l0).2.2.2)) ∧ Below w.heap.size w w' := by
  have hu1 := Try.underlying23
  have hu2 := Try.underlying25
  have HR0 := Aside0.mk hr0
  clear hr0
  have HN : Aside0 (RO w (l0.length : Int) 0 ⟨false, 0, ByteArray.empty⟩ ⟨false, 0, ByteArray.empty⟩ ((w.alloc (.cells (zv 0 0 ⟨false, 0, ByteArray.empty⟩ ⟨false, 0, ByteArray.empty⟩) 25)).alloc (.cells (zv (l0.length : Int) 0 ⟨false, 0, ByteArray.empty⟩ ⟨false, 0, ByteArray.empty⟩) 25))) := by
    have h1 := Mem.alloc_new (w.alloc (.cells (zv 0 0 ⟨false, 0, ByteArray.empty⟩ ⟨false, 0, ByteArray.empty⟩) 25)) (.cells (zv (l0.length : Int) 0 ⟨false, 0, ByteArray.empty⟩ ⟨false, 0, ByteArray.empty⟩) 25)
    rw [Mem.alloc_size] at h1
    exact ⟨blk_alloc (Mem.alloc_new w _) _, h1, below_alloc (below_alloc (Below.refl _ _) _) _⟩
  generalize hZ : noteAll zc0 l0 = Z
  have HZ := Lib.hid hZ
  clear hZ
  obtain ⟨Z1, Z2, Zl, Zh⟩ := Z
  simp only
  go_enter Try.func58, Try.ntmps58
  go_upto_block 0 with (fail)
  rw [show (Value.string ⟨#[]⟩) = Value.string ByteArray.empty from rfl]
  generalize World.alloc (World.alloc w _) _ = W2 at HN ⊢
  go_wp2_with fail
  go_loopg [4] l0.length (fun kq v4 w' => ∃ (i : Nat) (n : Int) (lo hi : S23), v4 = .int .i64 (i : Int) ∧ kq + i = l0.length ∧ Aside0 (Inv ((i : Int), n, lo, hi)) ∧ Aside0 (noteAll ((i : Int), n, lo, hi) (l0.drop i) = (Z1, Z2, Zl, Zh)) ∧ Aside0 (RO w (l0.length : Int) n lo hi w'))
  case atStart => exact ⟨0, 0, _, _, rfl, rfl, ⟨inv0⟩, ⟨HZ.out⟩, HN⟩
  case round =>
    clear HN
    obtain ⟨i, n, lo, hi, rfl, hi0, HI, HE, HO⟩ := hrel
    obtain ⟨lo0, lo1, lo2⟩ := lo
    obtain ⟨hi1, hi2, hi3⟩ := hi
    cases gk with
    | zero =>
      obtain rfl : i = l0.length := by omega
      have hb : decide ((l0.length : Int) < (l0.length : Int)) = false := decide_eq_false (by omega)
      have hE2 := HE.out
      rw [List.drop_length, all_nil] at hE2
      simp only [Prod.mk.injEq] at hE2
      obtain ⟨rfl, rfl, rfl, rfl⟩ := hE2
      have p0 : wr.cell? ⟨w.heap.size + 1, 0, none⟩ = some (.int .i64 (l0.length : Int)) := (blk_cell HO.out.2.1 0).trans rfl
      have p1 : wr.cell? ⟨w.heap.size + 1, 1, none⟩ = some (.int .i64 n) := (blk_cell HO.out.2.1 1).trans rfl
      have p2 : wr.cell? ⟨w.heap.size + 1, 2, none⟩ = some (.bool lo0) := (blk_cell HO.out.2.1 2).trans rfl
      have p3 : wr.cell? ⟨w.heap.size + 1, 3, none⟩ = some (.int .i64 lo1) := (blk_cell HO.out.2.1 3).trans rfl
      have p4 : wr.cell? ⟨w.heap.size + 1, 4, none⟩ = some (.string lo2) := (blk_cell HO.out.2.1 4).trans rfl
      have p5 : wr.cell? ⟨w.heap.size + 1, 5, none⟩ = some (.bool hi1) := (blk_cell HO.out.2.1 5).trans rfl
      have p6 : wr.cell? ⟨w.heap.size + 1, 6, none⟩ = some (.int .i64 hi2) := (blk_cell HO.out.2.1 6).trans rfl
      have p7 : wr.cell? ⟨w.heap.size + 1, 7, none⟩ = some (.string hi3) := (blk_cell HO.out.2.1 7).trans rfl
      have q0 : wr.cell? ⟨w.heap.size, 0, none⟩ = some (.int .i64 0) := (blk_cell HO.out.1 0).trans rfl
      have q1 : wr.cell? ⟨w.heap.size, 1, none⟩ = some (.int .i64 0) := (blk_cell HO.out.1 1).trans rfl
      have q2 : wr.cell? ⟨w.heap.size, 2, none⟩ = some (.bool false) := (blk_cell HO.out.1 2).trans rfl
      have q3 : wr.cell? ⟨w.heap.size, 3, none⟩ = some (.int .i64 0) := (blk_cell HO.out.1 3).trans rfl
      have q4 : wr.cell? ⟨w.heap.size, 4, none⟩ = some (.string ByteArray.empty) := (blk_cell HO.out.1 4).trans rfl
      have q5 : wr.cell? ⟨w.heap.size, 5, none⟩ = some (.bool false) := (blk_cell HO.out.1 5).trans rfl
      have q6 : wr.cell? ⟨w.heap.size, 6, none⟩ = some (.int .i64 0) := (blk_cell HO.out.1 6).trans rfl
      have q7 : wr.cell? ⟨w.heap.size, 7, none⟩ = some (.string ByteArray.empty) := (blk_cell HO.out.1 7).trans rfl
      have f0 := blk_frozen HO.out.1 0
      have f1 := blk_frozen HO.out.1 1
      have f2 := blk_frozen HO.out.1 2
      have f3 := blk_frozen HO.out.1 3
      have f4 := blk_frozen HO.out.1 4
      have f5 := blk_frozen HO.out.1 5
      have f6 := blk_frozen HO.out.1 6
      have f7 := blk_frozen HO.out.1 7
      go_wp2_with fail
      have hW := set_all wr w.heap.size 0 0 (l0.length : Int) n ⟨false, 0, ByteArray.empty⟩ ⟨false, 0, ByteArray.empty⟩ ⟨lo0, lo1, lo2⟩ ⟨hi1, hi2, hi3⟩ _ HO.out.1
      have hB9 := below_all (g := w.heap.size) HO.out.2.2 (Nat.le_refl _) (l0.length : Int) n ⟨lo0, lo1, lo2⟩ ⟨hi1, hi2, hi3⟩
      clear p0 p1 p2 p3 p4 p5 p6 p7 q0 q1 q2 q3 q4 q5 q6 q7 f0 f1 f2 f3 f4 f5 f6 f7 HO
      generalize World.setCell _ _ _ = W8 at hB9 hW ⊢
      exact bodyPost_ret (results_cell_row rfl _ _ w.heap.size 25 _ (0, 0) _ rfl hW hu2 rfl (by kernel_rfl)) rfl ⟨rfl, hB9⟩
    | succ k2 =>
      have hlt : i < l0.length := by omega
      have hb : decide ((i : Int) < (l0.length : Int)) = true := decide_eq_true (by omega)
      have hb2 : decide (i < l0.length) = true := decide_eq_true hlt
      have hrd : rd_T23 l0 (i : Int) = l0.getD i z23 := by rw [rd_T23, Int.toNat_natCast]
      have HAT : Aside0 (∀ W, Below w.heap.size w W → ∃ ad, A0 = some ad ∧ W.cell? (ad.add (i * 3)) = some (.bool (l0.getD i z23).f0) ∧ W.cell? ⟨(ad.add (i * 3)).block, (ad.add (i * 3)).off + 1, none⟩ = some (.int .i64 (l0.getD i z23).f1) ∧ W.cell? ⟨(ad.add (i * 3)).block, (ad.add (i * 3)).off + 2, none⟩ = some (.string (l0.getD i z23).f2)) := ⟨fun W hW => by
        obtain ⟨ad, e1, hx0, hx1, hx2⟩ := at_T23 (Kd.C_below HR0.out hW) (i : Int) (by omega) (by omega)
        rw [hrd, Int.toNat_natCast] at hx0 hx1 hx2
        exact ⟨ad, e1, hx0, hx1, hx2⟩⟩
      have hE2 := HE.out
      rw [show l0.drop i = l0.getD i z23 :: l0.drop (i + 1) by rw [List.drop_eq_getElem_cons hlt]; simp [List.getD, hlt], all_cons] at hE2
      have hI2 := note_inv HI.out (l0.getD i z23)
      rw [note_is] at hE2 hI2
      simp only at hE2 hI2
      generalize l0.getD i z23 = x at HAT hE2 hI2
      obtain ⟨x0, x1, x2⟩ := x
      clear hrd HE
      obtain ⟨ad, rfl, hx0, hx1, hx2⟩ := HAT.out wr HO.out.2.2
      have hiw : wrap64 ((i : Int) + 1) = (i : Int) + 1 := wrap_sm (by omega) (by omega)
      have hin := HI.out
      obtain ⟨hn0, hn1, hn2, hn3⟩ := hin
      simp only at hn0 hn1 hn2 hn3
      have ei : (i : Int) + 1 = ((i + 1 : Nat) : Int) := by omega
      have p0 : wr.cell? ⟨w.heap.size + 1, 0, none⟩ = some (.int .i64 (l0.length : Int)) := (blk_cell HO.out.2.1 0).trans rfl
      have p1 : wr.cell? ⟨w.heap.size + 1, 1, none⟩ = some (.int .i64 n) := (blk_cell HO.out.2.1 1).trans rfl
      have p2 : wr.cell? ⟨w.heap.size + 1, 2, none⟩ = some (.bool lo0) := (blk_cell HO.out.2.1 2).trans rfl
      have p3 : wr.cell? ⟨w.heap.size + 1, 3, none⟩ = some (.int .i64 lo1) := (blk_cell HO.out.2.1 3).trans rfl
      have p4 : wr.cell? ⟨w.heap.size + 1, 4, none⟩ = some (.string lo2) := (blk_cell HO.out.2.1 4).trans rfl
      have p5 : wr.cell? ⟨w.heap.size + 1, 5, none⟩ = some (.bool hi1) := (blk_cell HO.out.2.1 5).trans rfl
      have p6 : wr.cell? ⟨w.heap.size + 1, 6, none⟩ = some (.int .i64 hi2) := (blk_cell HO.out.2.1 6).trans rfl
      have p7 : wr.cell? ⟨w.heap.size + 1, 7, none⟩ = some (.string hi3) := (blk_cell HO.out.2.1 7).trans rfl
      have f0 := blk_frozen HO.out.2.1 0
      have f1 := blk_frozen HO.out.2.1 1
      have f2 := blk_frozen HO.out.2.1 2
      have f3 := blk_frozen HO.out.2.1 3
      have f4 := blk_frozen HO.out.2.1 4
      have f5 := blk_frozen HO.out.2.1 5
      have f6 := blk_frozen HO.out.2.1 6
      have f7 := blk_frozen HO.out.2.1 7
      by_cases hx : x0 = true
      · subst hx
        rw [if_pos rfl, ei] at hE2 hI2
        have HE2 := Aside0.mk hE2
        have HI2 := Aside0.mk hI2
        have hnw : wrap64 (n + 1) = n + 1 := wrap_sm (by omega) (by omega)
        clear hE2 hI2 hn3 ei
        go_wp2_with fail
        go_roundg k2
        case measure => omega
        case rel => exact ⟨i + 1, n + 1, _, _, by go_num, by omega, HI2, HE2, ⟨HO.out.null (n + 1)⟩⟩
      obtain rfl : x0 = false := by cases x0 with | true => exact absurd rfl hx | false => rfl
      simp only [Bool.false_eq_true, if_false] at hE2 hI2
      by_cases c1 : n = (i : Int)
      · rw [if_pos (show (i : Int) ≤ n by omega), ei] at hE2 hI2
        have HE2 := Aside0.mk hE2
        have HI2 := Aside0.mk hI2
        have hq1 : (n == (i : Int)) = true := beq_iff_eq.mpr c1
        clear hE2 hI2 hn3 ei hn2 c1
        go_upto_region 8 with (fail)
        go_quiet (fail)
        go_upto_region 10 with (fail)
        have HO2 := Aside0.mk ((HO.out.drewN nq).low ⟨false, x1, x2⟩)
        clear p0 p1 p2 p3 p4 p5 p6 p7 f0 f1 f2 f3 f4 f5 f6 f7 hx0 hx1 hx2
        clear HO
        generalize World.setCell (World.setCell (World.setCell (wr.drewN nq) _ _) _ _) _ _ = w10 at HO2 ⊢
        obtain ⟨ad', e_, hx0, hx1, hx2⟩ := HAT.out w10 HO2.out.2.2
        cases e_
        have f0 := blk_frozen HO2.out.2.1 0
        have f1 := blk_frozen HO2.out.2.1 1
        have f2 := blk_frozen HO2.out.2.1 2
        have f3 := blk_frozen HO2.out.2.1 3
        have f4 := blk_frozen HO2.out.2.1 4
        have f5 := blk_frozen HO2.out.2.1 5
        have f6 := blk_frozen HO2.out.2.1 6
        have f7 := blk_frozen HO2.out.2.1 7
        have p0 : w10.cell? ⟨w.heap.size + 1, 0, none⟩ = some (.int .i64 (l0.length : Int)) := (blk_cell HO2.out.2.1 0).trans rfl
        have p1 : w10.cell? ⟨w.heap.size + 1, 1, none⟩ = some (.int .i64 n) := (blk_cell HO2.out.2.1 1).trans rfl
        have p2 : w10.cell? ⟨w.heap.size + 1, 2, none⟩ = some (.bool false) := (blk_cell HO2.out.2.1 2).trans rfl
        have p3 : w10.cell? ⟨w.heap.size + 1, 3, none⟩ = some (.int .i64 x1) := (blk_cell HO2.out.2.1 3).trans rfl
        have p4 : w10.cell? ⟨w.heap.size + 1, 4, none⟩ = some (.string x2) := (blk_cell HO2.out.2.1 4).trans rfl
        have p5 : w10.cell? ⟨w.heap.size + 1, 5, none⟩ = some (.bool hi1) := (blk_cell HO2.out.2.1 5).trans rfl
        have p6 : w10.cell? ⟨w.heap.size + 1, 6, none⟩ = some (.int .i64 hi2) := (blk_cell HO2.out.2.1 6).trans rfl
        have p7 : w10.cell? ⟨w.heap.size + 1, 7, none⟩ = some (.string hi3) := (blk_cell HO2.out.2.1 7).trans rfl
        go_quiet (fail)
        go_wp2_with fail
        go_roundg k2
        case measure => omega
        case rel => exact ⟨i + 1, n, _, _, by go_num, by omega, HI2, HE2, ⟨(HO2.out.drewN _).hi ⟨false, x1, x2⟩⟩⟩
      have hq1 : (n == (i : Int)) = false := beq_eq_false_iff_ne.mpr c1
      rw [if_neg (show ¬ (i : Int) ≤ n by omega)] at hE2 hI2
      have hlh := hn2 (by omega)
      obtain ⟨v1, hv1e⟩ : ∃ v, oc ⟨false, x1, x2⟩ ⟨lo0, lo1, lo2⟩ = v := ⟨_, rfl⟩
      obtain ⟨v2, hv2e⟩ : ∃ v, oc ⟨false, x1, x2⟩ ⟨hi1, hi2, hi3⟩ = v := ⟨_, rfl⟩
      have EO1 := Lib.hid ((rorder_is false x1 x2 lo0 lo1 lo2 5).trans (congrArg some hv1e))
      have EO2 := Lib.hid ((rorder_is false x1 x2 hi1 hi2 hi3 5).trans (congrArg some hv2e))
      have HLT : Aside0 (v1 < 0 → v2 < 0) := ⟨fun h => by have := oc_lt_le (a := ⟨false, x1, x2⟩) (b := ⟨lo0, lo1, lo2⟩) (c := ⟨hi1, hi2, hi3⟩) (by rw [hv1e]; exact h) hlh; rw [hv2e] at this; exact this⟩
      have HV1 := Lib.hid hv1e
      have HV2 := Lib.hid hv2e
      clear hv1e hv2e
      have HE3 := Aside0.mk hE2
      have HI3 := Aside0.mk hI2
      clear hE2 hI2 hlh hn2 hn3 c1
      go_upto_region 8 with (fail)
      go_still_tail 8, (by kernel_rfl)
      change wpList _ _ _ _ _ wr.drew
      have HO3 := Aside0.mk HO.out.drew
      clear p0 p1 p2 p3 p4 p5 p6 p7 f0 f1 f2 f3 f4 f5 f6 f7 hx0 hx1 hx2
      clear HO
      generalize wr.drew = w3 at HO3 ⊢
      obtain ⟨ad', e_, hx0, hx1, hx2⟩ := HAT.out w3 HO3.out.2.2
      cases e_
      have p0 : w3.cell? ⟨w.heap.size + 1, 0, none⟩ = some (.int .i64 (l0.length : Int)) := (blk_cell HO3.out.2.1 0).trans rfl
      have p1 : w3.cell? ⟨w.heap.size + 1, 1, none⟩ = some (.int .i64 n) := (blk_cell HO3.out.2.1 1).trans rfl
      have p2 : w3.cell? ⟨w.heap.size + 1, 2, none⟩ = some (.bool lo0) := (blk_cell HO3.out.2.1 2).trans rfl
      have p3 : w3.cell? ⟨w.heap.size + 1, 3, none⟩ = some (.int .i64 lo1) := (blk_cell HO3.out.2.1 3).trans rfl
      have p4 : w3.cell? ⟨w.heap.size + 1, 4, none⟩ = some (.string lo2) := (blk_cell HO3.out.2.1 4).trans rfl
      have p5 : w3.cell? ⟨w.heap.size + 1, 5, none⟩ = some (.bool hi1) := (blk_cell HO3.out.2.1 5).trans rfl
      have p6 : w3.cell? ⟨w.heap.size + 1, 6, none⟩ = some (.int .i64 hi2) := (blk_cell HO3.out.2.1 6).trans rfl
      have p7 : w3.cell? ⟨w.heap.size + 1, 7, none⟩ = some (.string hi3) := (blk_cell HO3.out.2.1 7).trans rfl
      go_wp2_with fail
      refine (firkinref09_Order.calls 6 false x1 x2 lo0 lo1 lo2 v1 _ EO1.out).mono ?_
      rintro e w4 ⟨rfl, b4⟩
      have HO4 := Aside0.mk (HO3.out.below b4)
      clear p0 p1 p2 p3 p4 p5 p6 p7 hx0 hx1 hx2
      clear HO3 b4
      by_cases hv1 : v1 < 0
      · have hd1 : decide (v1 < 0) = true := decide_eq_true hv1
        have hE2 := HE3.out
        have hI2 := HI3.out
        rw [if_pos (show oc ⟨false, x1, x2⟩ ⟨lo0, lo1, lo2⟩ < 0 by rw [HV1.out]; exact hv1), ei] at hE2 hI2
        have HE2 := Aside0.mk hE2
        have HI2 := Aside0.mk hI2
        have hv2 : v2 < 0 := HLT.out hv1
        have hd2 : decide (v2 > 0) = false := decide_eq_false (by omega)
        have hd3 : decide (0 < v2) = false := decide_eq_false (by omega)
        clear hE2 hI2 HE3 HI3 hv1 hv2 HLT ei
        obtain ⟨ad', e_, hx0, hx1, hx2⟩ := HAT.out w4 HO4.out.2.2
        cases e_
        have p0 : w4.cell? ⟨w.heap.size + 1, 0, none⟩ = some (.int .i64 (l0.length : Int)) := (blk_cell HO4.out.2.1 0).trans rfl
        have p1 : w4.cell? ⟨w.heap.size + 1, 1, none⟩ = some (.int .i64 n) := (blk_cell HO4.out.2.1 1).trans rfl
        have p2 : w4.cell? ⟨w.heap.size + 1, 2, none⟩ = some (.bool lo0) := (blk_cell HO4.out.2.1 2).trans rfl
        have p3 : w4.cell? ⟨w.heap.size + 1, 3, none⟩ = some (.int .i64 lo1) := (blk_cell HO4.out.2.1 3).trans rfl
        have p4 : w4.cell? ⟨w.heap.size + 1, 4, none⟩ = some (.string lo2) := (blk_cell HO4.out.2.1 4).trans rfl
        have p5 : w4.cell? ⟨w.heap.size + 1, 5, none⟩ = some (.bool hi1) := (blk_cell HO4.out.2.1 5).trans rfl
        have p6 : w4.cell? ⟨w.heap.size + 1, 6, none⟩ = some (.int .i64 hi2) := (blk_cell HO4.out.2.1 6).trans rfl
        have p7 : w4.cell? ⟨w.heap.size + 1, 7, none⟩ = some (.string hi3) := (blk_cell HO4.out.2.1 7).trans rfl
        have f0 := blk_frozen HO4.out.2.1 0
        have f1 := blk_frozen HO4.out.2.1 1
        have f2 := blk_frozen HO4.out.2.1 2
        have f3 := blk_frozen HO4.out.2.1 3
        have f4 := blk_frozen HO4.out.2.1 4
        have f5 := blk_frozen HO4.out.2.1 5
        have f6 := blk_frozen HO4.out.2.1 6
        have f7 := blk_frozen HO4.out.2.1 7
        go_upto_region 10 with (fail)
        have HO5 := Aside0.mk (HO4.out.low ⟨false, x1, x2⟩)
        clear p0 p1 p2 p3 p4 p5 p6 p7 f0 f1 f2 f3 f4 f5 f6 f7 hx0 hx1 hx2
        clear HO4
        generalize World.setCell (World.setCell (World.setCell w4 _ _) _ _) _ _ = w5 at HO5 ⊢
        obtain ⟨ad', e_, hx0, hx1, hx2⟩ := HAT.out w5 HO5.out.2.2
        cases e_
        have p0 : w5.cell? ⟨w.heap.size + 1, 0, none⟩ = some (.int .i64 (l0.length : Int)) := (blk_cell HO5.out.2.1 0).trans rfl
        have p1 : w5.cell? ⟨w.heap.size + 1, 1, none⟩ = some (.int .i64 n) := (blk_cell HO5.out.2.1 1).trans rfl
        have p2 : w5.cell? ⟨w.heap.size + 1, 2, none⟩ = some (.bool false) := (blk_cell HO5.out.2.1 2).trans rfl
        have p3 : w5.cell? ⟨w.heap.size + 1, 3, none⟩ = some (.int .i64 x1) := (blk_cell HO5.out.2.1 3).trans rfl
        have p4 : w5.cell? ⟨w.heap.size + 1, 4, none⟩ = some (.string x2) := (blk_cell HO5.out.2.1 4).trans rfl
        have p5 : w5.cell? ⟨w.heap.size + 1, 5, none⟩ = some (.bool hi1) := (blk_cell HO5.out.2.1 5).trans rfl
        have p6 : w5.cell? ⟨w.heap.size + 1, 6, none⟩ = some (.int .i64 hi2) := (blk_cell HO5.out.2.1 6).trans rfl
        have p7 : w5.cell? ⟨w.heap.size + 1, 7, none⟩ = some (.string hi3) := (blk_cell HO5.out.2.1 7).trans rfl
        go_still_tail 8, (by kernel_rfl)
        change wpList _ _ _ _ _ w5.drew
        have HO6 := Aside0.mk HO5.out.drew
        clear p0 p1 p2 p3 p4 p5 p6 p7 hx0 hx1 hx2
        clear HO5
        generalize w5.drew = w6 at HO6 ⊢
        obtain ⟨ad', e_, hx0, hx1, hx2⟩ := HAT.out w6 HO6.out.2.2
        cases e_
        have p0 : w6.cell? ⟨w.heap.size + 1, 0, none⟩ = some (.int .i64 (l0.length : Int)) := (blk_cell HO6.out.2.1 0).trans rfl
        have p1 : w6.cell? ⟨w.heap.size + 1, 1, none⟩ = some (.int .i64 n) := (blk_cell HO6.out.2.1 1).trans rfl
        have p2 : w6.cell? ⟨w.heap.size + 1, 2, none⟩ = some (.bool false) := (blk_cell HO6.out.2.1 2).trans rfl
        have p3 : w6.cell? ⟨w.heap.size + 1, 3, none⟩ = some (.int .i64 x1) := (blk_cell HO6.out.2.1 3).trans rfl
        have p4 : w6.cell? ⟨w.heap.size + 1, 4, none⟩ = some (.string x2) := (blk_cell HO6.out.2.1 4).trans rfl
        have p5 : w6.cell? ⟨w.heap.size + 1, 5, none⟩ = some (.bool hi1) := (blk_cell HO6.out.2.1 5).trans rfl
        have p6 : w6.cell? ⟨w.heap.size + 1, 6, none⟩ = some (.int .i64 hi2) := (blk_cell HO6.out.2.1 6).trans rfl
        have p7 : w6.cell? ⟨w.heap.size + 1, 7, none⟩ = some (.string hi3) := (blk_cell HO6.out.2.1 7).trans rfl
        go_wp2_with fail
        refine (firkinref09_Order.calls 6 false x1 x2 hi1 hi2 hi3 v2 _ EO2.out).mono ?_
        rintro e w7 ⟨rfl, b7⟩
        have HO7 := Aside0.mk (HO6.out.below b7)
        clear p0 p1 p2 p3 p4 p5 p6 p7 hx0 hx1 hx2
        clear HO6 b7
        go_wp2_with fail
        go_roundg k2
        case measure => omega
        case rel => exact ⟨i + 1, n, _, _, by go_num, by omega, HI2, HE2, HO7⟩
      · have hd1 : decide (v1 < 0) = false := decide_eq_false hv1
        have hE2 := HE3.out
        have hI2 := HI3.out
        rw [if_neg (show ¬ oc ⟨false, x1, x2⟩ ⟨lo0, lo1, lo2⟩ < 0 by rw [HV1.out]; exact hv1)] at hE2 hI2
        have HE2 := Aside0.mk hE2
        have HI2 := Aside0.mk hI2
        clear hE2 hI2 HE3 HI3 hv1 HLT
        obtain ⟨ad', e_, hx0, hx1, hx2⟩ := HAT.out w4 HO4.out.2.2
        cases e_
        have p0 : w4.cell? ⟨w.heap.size + 1, 0, none⟩ = some (.int .i64 (l0.length : Int)) := (blk_cell HO4.out.2.1 0).trans rfl
        have p1 : w4.cell? ⟨w.heap.size + 1, 1, none⟩ = some (.int .i64 n) := (blk_cell HO4.out.2.1 1).trans rfl
        have p2 : w4.cell? ⟨w.heap.size + 1, 2, none⟩ = some (.bool lo0) := (blk_cell HO4.out.2.1 2).trans rfl
        have p3 : w4.cell? ⟨w.heap.size + 1, 3, none⟩ = some (.int .i64 lo1) := (blk_cell HO4.out.2.1 3).trans rfl
        have p4 : w4.cell? ⟨w.heap.size + 1, 4, none⟩ = some (.string lo2) := (blk_cell HO4.out.2.1 4).trans rfl
        have p5 : w4.cell? ⟨w.heap.size + 1, 5, none⟩ = some (.bool hi1) := (blk_cell HO4.out.2.1 5).trans rfl
        have p6 : w4.cell? ⟨w.heap.size + 1, 6, none⟩ = some (.int .i64 hi2) := (blk_cell HO4.out.2.1 6).trans rfl
        have p7 : w4.cell? ⟨w.heap.size + 1, 7, none⟩ = some (.string hi3) := (blk_cell HO4.out.2.1 7).trans rfl
        go_upto_region 10 with (fail)
        go_still_tail 8, (by kernel_rfl)
        change wpList _ _ _ _ _ w4.drew
        have HO6 := Aside0.mk HO4.out.drew
        clear p0 p1 p2 p3 p4 p5 p6 p7 hx0 hx1 hx2
        clear HO4
        generalize w4.drew = w6 at HO6 ⊢
        obtain ⟨ad', e_, hx0, hx1, hx2⟩ := HAT.out w6 HO6.out.2.2
        cases e_
        have p0 : w6.cell? ⟨w.heap.size + 1, 0, none⟩ = some (.int .i64 (l0.length : Int)) := (blk_cell HO6.out.2.1 0).trans rfl
        have p1 : w6.cell? ⟨w.heap.size + 1, 1, none⟩ = some (.int .i64 n) := (blk_cell HO6.out.2.1 1).trans rfl
        have p2 : w6.cell? ⟨w.heap.size + 1, 2, none⟩ = some (.bool lo0) := (blk_cell HO6.out.2.1 2).trans rfl
        have p3 : w6.cell? ⟨w.heap.size + 1, 3, none⟩ = some (.int .i64 lo1) := (blk_cell HO6.out.2.1 3).trans rfl
        have p4 : w6.cell? ⟨w.heap.size + 1, 4, none⟩ = some (.string lo2) := (blk_cell HO6.out.2.1 4).trans rfl
        have p5 : w6.cell? ⟨w.heap.size + 1, 5, none⟩ = some (.bool hi1) := (blk_cell HO6.out.2.1 5).trans rfl
        have p6 : w6.cell? ⟨w.heap.size + 1, 6, none⟩ = some (.int .i64 hi2) := (blk_cell HO6.out.2.1 6).trans rfl
        have p7 : w6.cell? ⟨w.heap.size + 1, 7, none⟩ = some (.string hi3) := (blk_cell HO6.out.2.1 7).trans rfl
        go_wp2_with fail
        refine (firkinref09_Order.calls 6 false x1 x2 hi1 hi2 hi3 v2 _ EO2.out).mono ?_
        rintro e w7 ⟨rfl, b7⟩
        have HO7 := Aside0.mk (HO6.out.below b7)
        clear p0 p1 p2 p3 p4 p5 p6 p7 hx0 hx1 hx2
        clear HO6 b7
        by_cases hv2 : 0 < v2
        · have hd2 : decide (v2 > 0) = true := decide_eq_true hv2
          have hd3 : decide (0 < v2) = true := decide_eq_true hv2
          have hE2 := HE2.out
          have hI2 := HI2.out
          rw [if_pos (show 0 < oc ⟨false, x1, x2⟩ ⟨hi1, hi2, hi3⟩ by rw [HV2.out]; exact hv2), ei] at hE2 hI2
          have HE5 := Aside0.mk hE2
          have HI5 := Aside0.mk hI2
          clear hE2 hI2 HE2 HI2 hv2 ei
          obtain ⟨ad', e_, hx0, hx1, hx2⟩ := HAT.out w7 HO7.out.2.2
          cases e_
          have p0 : w7.cell? ⟨w.heap.size + 1, 0, none⟩ = some (.int .i64 (l0.length : Int)) := (blk_cell HO7.out.2.1 0).trans rfl
          have p1 : w7.cell? ⟨w.heap.size + 1, 1, none⟩ = some (.int .i64 n) := (blk_cell HO7.out.2.1 1).trans rfl
          have p2 : w7.cell? ⟨w.heap.size + 1, 2, none⟩ = some (.bool lo0) := (blk_cell HO7.out.2.1 2).trans rfl
          have p3 : w7.cell? ⟨w.heap.size + 1, 3, none⟩ = some (.int .i64 lo1) := (blk_cell HO7.out.2.1 3).trans rfl
          have p4 : w7.cell? ⟨w.heap.size + 1, 4, none⟩ = some (.string lo2) := (blk_cell HO7.out.2.1 4).trans rfl
          have p5 : w7.cell? ⟨w.heap.size + 1, 5, none⟩ = some (.bool hi1) := (blk_cell HO7.out.2.1 5).trans rfl
          have p6 : w7.cell? ⟨w.heap.size + 1, 6, none⟩ = some (.int .i64 hi2) := (blk_cell HO7.out.2.1 6).trans rfl
          have p7 : w7.cell? ⟨w.heap.size + 1, 7, none⟩ = some (.string hi3) := (blk_cell HO7.out.2.1 7).trans rfl
          have f0 := blk_frozen HO7.out.2.1 0
          have f1 := blk_frozen HO7.out.2.1 1
          have f2 := blk_frozen HO7.out.2.1 2
          have f3 := blk_frozen HO7.out.2.1 3
          have f4 := blk_frozen HO7.out.2.1 4
          have f5 := blk_frozen HO7.out.2.1 5
          have f6 := blk_frozen HO7.out.2.1 6
          have f7 := blk_frozen HO7.out.2.1 7
          go_wp2_with fail
          go_roundg k2
          case measure => omega
          case rel => exact ⟨i + 1, n, _, _, by go_num, by omega, HI5, HE5, ⟨HO7.out.hi ⟨false, x1, x2⟩⟩⟩
        · have hd2 : decide (v2 > 0) = false := decide_eq_false hv2
          have hd3 : decide (0 < v2) = false := decide_eq_false hv2
          have hE2 := HE2.out
          have hI2 := HI2.out
          rw [if_neg (show ¬ 0 < oc ⟨false, x1, x2⟩ ⟨hi1, hi2, hi3⟩ by rw [HV2.out]; exact hv2), ei] at hE2 hI2
          have HE5 := Aside0.mk hE2
          have HI5 := Aside0.mk hI2
          clear hE2 hI2 HE2 HI2 hv2 ei
          go_wp2_with fail
          go_roundg k2
          case measure => omega
          case rel => exact ⟨i + 1, n, _, _, by go_num, by omega, HI5, HE5, HO7⟩
def firkinref11_Of.f (l0 : List S23) : Option (Int × Int × Bool × Int × ByteArray × Bool × Int × ByteArray) := if l0.length < 1000000 then some ((l0.length : Int), (noteAll zc0 l0).2.1, (noteAll zc0 l0).2.2.1.f0, (noteAll zc0 l0).2.2.1.f1, (noteAll zc0 l0).2.2.1.f2, (noteAll zc0 l0).2.2.2.f0, (noteAll zc0 l0).2.2.2.f1, (noteAll zc0 l0).2.2.2.f2) else none
theorem firkinref11_Of.calls (A0 : Option Addr) (c0 : Nat) (l0 : List S23) (r1 r2 : Int) (r3 : Bool) (r4 : Int) (r5 : ByteArray) (r6 : Bool) (r7 : Int) (r8 : ByteArray) (w : World) (hr0 : Kd.C k23 w A0 l0.length l0) (hc0 : l0.length ≤ c0) (h : firkinref11_Of.f l0 = some (r1, r2, r3, r4, r5, r6, r7, r8)) :
    Calls Try.prog 58 #[.slice A0 l0.length c0] w fun e w' => e = .returned (.agg #[.int .i64 r1, .int .i64 r2, .bool r3, .int .i64 r4, .string r5, .bool r6, .int .i64 r7, .string r8]) ∧ Below w.heap.size w w' := by
  unfold firkinref11_Of.f at h
  by_cases hl : l0.length < 1000000
  · rw [if_pos hl] at h
    simp only [Option.some.injEq, Prod.mk.injEq] at h
    obtain ⟨rfl, rfl, rfl, rfl, rfl, rfl, rfl, rfl⟩ := h
    exact firkinref11_Of.note A0 c0 l0 w hr0 hc0 hl
  · rw [if_neg hl] at h; cases h
end Go.Proofs.Ytkdlfejokahohaa.X
