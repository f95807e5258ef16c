/- The contract of zone.Join: the zone of two zones' cells. -/
import Derived.Test.YtkdlfejokahohaaZoneMinMax
import Derived.Test.YtkdlfejokahohaaX4
import Derived.RegionTactic
import Derived.Laws.Rows
namespace Go.Proofs.Ytkdlfejokahohaa.X
open Go.RowKit Go.Proofs.Ytkdlfejokahohaa.CellPlain Go.Proofs.YtkdlfejokahohaaW.PrintWords Go.Proofs.YtkdlfejokahohaaW.PrintLast Go.Proofs.YtkdlfejokahohaaW.PrintMore
set_option linter.unusedVariables false
set_option linter.unusedSimpArgs false
/-- The lowest and the greatest cell of two zones together. -/
def joinLH (a0 a1 : Int) (al ah : S23) (b0 b1 : Int) (bl bh : S23) : S23 × S23 :=
  if a0 ≤ a1 then (bl, bh) else if b0 ≤ b1 then (al, ah)
  else (if ordC bl.f0 bl.f1 bl.f2 al.f0 al.f1 al.f2 < 0 then bl else al, if 0 < ordC bh.f0 bh.f1 bh.f2 ah.f0 ah.f1 ah.f2 then bh else ah)
abbrev zv (z0 z1 : Int) (l h : S23) : Array Value := #[.int .i64 z0, .int .i64 z1, .bool l.f0, .int .i64 l.f1, .string l.f2, .bool h.f0, .int .i64 h.f1, .string h.f2]
/-- What lies where, while zone.Join runs: its two zones, its result, and its variable. -/
def JW (w : World) (a0 a1 : Int) (al ah : S23) (b0 b1 : Int) (bl bh : S23) (zl zh : S23) (W : World) : Prop :=
  W.heap[w.heap.size]? = some (.cells (zv a0 a1 al ah) 25 (0, 0)) ∧ W.heap[w.heap.size + 1]? = some (.cells (zv b0 b1 bl bh) 25 (0, 0)) ∧ W.heap[w.heap.size + 1 + 1]? = some (.cells (zv 0 0 ⟨false, 0, ByteArray.empty⟩ ⟨false, 0, ByteArray.empty⟩) 25 (0, 0)) ∧ W.heap[w.heap.size + 1 + 1 + 1]? = some (.cells (zv (wrap64 (a0 + b0)) (wrap64 (a1 + b1)) zl zh) 25 (0, 0)) ∧ Below w.heap.size w W
theorem JW.below {w : World} {a0 a1 : Int} {al ah : S23} {b0 b1 : Int} {bl bh : S23} {zl zh : S23} {W W' : World} (h : JW w a0 a1 al ah b0 b1 bl bh zl zh W) (hb : Below W.heap.size W W') : JW w a0 a1 al ah b0 b1 bl bh zl zh W' :=
  ⟨blk_below h.1 hb, blk_below h.2.1 hb, blk_below h.2.2.1 hb, blk_below h.2.2.2.1 hb, below_step h.2.2.2.2 hb⟩
theorem set_low (w : World) (g : Nat) (z0 z1 : Int) (l h c : S23) (t : TypeId) (hh : w.heap[g]? = some (.cells (zv z0 z1 l h) t (0, 0))) :
    (((w.setCell ⟨g, 2, none⟩ (.bool c.f0)).setCell ⟨g, 3, none⟩ (.int .i64 c.f1)).setCell ⟨g, 4, none⟩ (.string c.f2)).heap[g]? = some (.cells (zv z0 z1 c h) t (0, 0)) :=
  blk_set (blk_set (blk_set hh 2 (.bool c.f0)) 3 (.int .i64 c.f1)) 4 (.string c.f2)
theorem set_hi (w : World) (g : Nat) (z0 z1 : Int) (l h c : S23) (t : TypeId) (hh : w.heap[g]? = some (.cells (zv z0 z1 l h) t (0, 0))) :
    (((w.setCell ⟨g, 5, none⟩ (.bool c.f0)).setCell ⟨g, 6, none⟩ (.int .i64 c.f1)).setCell ⟨g, 7, none⟩ (.string c.f2)).heap[g]? = some (.cells (zv z0 z1 l c) t (0, 0)) :=
  blk_set (blk_set (blk_set hh 5 (.bool c.f0)) 6 (.int .i64 c.f1)) 7 (.string c.f2)
theorem set_all (w : World) (g : Nat) (z0 z1 y0 y1 : Int) (l h c d : S23) (t : TypeId) (hh : w.heap[g]? = some (.cells (zv z0 z1 l h) t (0, 0))) :
    ((((((((w.setCell ⟨g, 0, none⟩ (.int .i64 y0)).setCell ⟨g, 1, none⟩ (.int .i64 y1)).setCell ⟨g, 2, none⟩ (.bool c.f0)).setCell ⟨g, 3, none⟩ (.int .i64 c.f1)).setCell ⟨g, 4, none⟩ (.string c.f2)).setCell ⟨g, 5, none⟩ (.bool d.f0)).setCell ⟨g, 6, none⟩ (.int .i64 d.f1)).setCell ⟨g, 7, none⟩ (.string d.f2)).heap[g]? = some (.cells (zv y0 y1 c d) t (0, 0)) :=
  set_hi _ _ _ _ _ _ d _ (set_low _ _ _ _ _ _ c _ (blk_set (blk_set hh 0 (.int .i64 y0)) 1 (.int .i64 y1)))
theorem below_all {g : Nat} {w W : World} (hb : Below w.heap.size w W) (hg : w.heap.size ≤ g) (y0 y1 : Int) (c d : S23) : Below w.heap.size w ((((((((W.setCell ⟨g, 0, none⟩ (.int .i64 y0)).setCell ⟨g, 1, none⟩ (.int .i64 y1)).setCell ⟨g, 2, none⟩ (.bool c.f0)).setCell ⟨g, 3, none⟩ (.int .i64 c.f1)).setCell ⟨g, 4, none⟩ (.string c.f2)).setCell ⟨g, 5, none⟩ (.bool d.f0)).setCell ⟨g, 6, none⟩ (.int .i64 d.f1)).setCell ⟨g, 7, none⟩ (.string d.f2)) :=
  below_set (below_set (below_set (below_set (below_set (below_set (below_set (below_set hb hg) hg) hg) hg) hg) hg) hg) hg
theorem JW.low {w : World} {a0 a1 : Int} {al ah : S23} {b0 b1 : Int} {bl bh : S23} {zl zh : S23} {W : World} (h : JW w a0 a1 al ah b0 b1 bl bh zl zh W) (c : S23) :
    JW w a0 a1 al ah b0 b1 bl bh c zh (((W.setCell ⟨w.heap.size + 1 + 1 + 1, 2, none⟩ (.bool c.f0)).setCell ⟨w.heap.size + 1 + 1 + 1, 3, none⟩ (.int .i64 c.f1)).setCell ⟨w.heap.size + 1 + 1 + 1, 4, none⟩ (.string c.f2)) := by
  have far : ∀ (k : Nat) (o : Obj), k ≠ w.heap.size + 1 + 1 + 1 → W.heap[k]? = some o → (((W.setCell ⟨w.heap.size + 1 + 1 + 1, 2, none⟩ (.bool c.f0)).setCell ⟨w.heap.size + 1 + 1 + 1, 3, none⟩ (.int .i64 c.f1)).setCell ⟨w.heap.size + 1 + 1 + 1, 4, none⟩ (.string c.f2)).heap[k]? = some o := by
    intro k o hk ho
    rw [Below.heap_setCell _ ⟨w.heap.size + 1 + 1 + 1, 4, none⟩ _ k hk, Below.heap_setCell _ ⟨w.heap.size + 1 + 1 + 1, 3, none⟩ _ k hk, Below.heap_setCell _ ⟨w.heap.size + 1 + 1 + 1, 2, none⟩ _ k hk, ho]
  exact ⟨far _ _ (by omega) h.1, far _ _ (by omega) h.2.1, far _ _ (by omega) h.2.2.1, set_low _ _ _ _ _ _ c _ h.2.2.2.1, below_set (below_set (below_set h.2.2.2.2 (by omega)) (by omega)) (by omega)⟩
theorem JW.hi {w : World} {a0 a1 : Int} {al ah : S23} {b0 b1 : Int} {bl bh : S23} {zl zh : S23} {W : World} (h : JW w a0 a1 al ah b0 b1 bl bh zl zh W) (c : S23) :
    JW w a0 a1 al ah b0 b1 bl bh zl c (((W.setCell ⟨w.heap.size + 1 + 1 + 1, 5, none⟩ (.bool c.f0)).setCell ⟨w.heap.size + 1 + 1 + 1, 6, none⟩ (.int .i64 c.f1)).setCell ⟨w.heap.size + 1 + 1 + 1, 7, none⟩ (.string c.f2)) := by
  have far : ∀ (k : Nat) (o : Obj), k ≠ w.heap.size + 1 + 1 + 1 → W.heap[k]? = some o → (((W.setCell ⟨w.heap.size + 1 + 1 + 1, 5, none⟩ (.bool c.f0)).setCell ⟨w.heap.size + 1 + 1 + 1, 6, none⟩ (.int .i64 c.f1)).setCell ⟨w.heap.size + 1 + 1 + 1, 7, none⟩ (.string c.f2)).heap[k]? = some o := by
    intro k o hk ho
    rw [Below.heap_setCell _ ⟨w.heap.size + 1 + 1 + 1, 7, none⟩ _ k hk, Below.heap_setCell _ ⟨w.heap.size + 1 + 1 + 1, 6, none⟩ _ k hk, Below.heap_setCell _ ⟨w.heap.size + 1 + 1 + 1, 5, none⟩ _ k hk, ho]
  exact ⟨far _ _ (by omega) h.1, far _ _ (by omega) h.2.1, far _ _ (by omega) h.2.2.1, set_hi _ _ _ _ _ _ c _ h.2.2.2.1, below_set (below_set (below_set h.2.2.2.2 (by omega)) (by omega)) (by omega)⟩
theorem JW.drew {w : World} {a0 a1 : Int} {al ah : S23} {b0 b1 : Int} {bl bh : S23} {zl zh : S23} {W : World} (h : JW w a0 a1 al ah b0 b1 bl bh zl zh W) : JW w a0 a1 al ah b0 b1 bl bh zl zh W.drew := ⟨h.1, h.2.1, h.2.2.1, h.2.2.2.1, below_drew h.2.2.2.2⟩
set_option maxHeartbeats 8000000 in
set_option maxRecDepth 100000 in
theorem zone_Join.calls' (a0 a1 : Int) (al ah : S23) (b0 b1 : Int) (bl bh : S23) (w : World) :
    Calls Try.prog 60 #[.agg (zv a0 a1 al ah), .agg (zv b0 b1 bl bh)] w fun e w' => e = .returned (.agg (zv (wrap64 (a0 + b0)) (wrap64 (a1 + b1)) (joinLH a0 a1 al ah b0 b1 bl bh).1 (joinLH a0 a1 al ah b0 b1 bl bh).2)) ∧ Below w.heap.size w w' := by
  have hu1 := Try.underlying23
  have hu2 := Try.underlying25
  obtain ⟨l0, l1, l2⟩ := al
  obtain ⟨h0, h1, h2⟩ := ah
  obtain ⟨m0, m1, m2⟩ := bl
  obtain ⟨g0, g1, g2⟩ := bh
  simp only [zv]
  generalize hlh : joinLH a0 a1 ⟨l0, l1, l2⟩ ⟨h0, h1, h2⟩ b0 b1 ⟨m0, m1, m2⟩ ⟨g0, g1, g2⟩ = r
  have HLH := Lib.hid hlh
  clear hlh
  obtain ⟨⟨rl0, rl1, rl2⟩, ⟨rh0, rh1, rh2⟩⟩ := r
  simp only
  obtain ⟨ba, hba⟩ : ∃ b_ : Bool, decide (a0 > a1) = b_ := ⟨_, rfl⟩
  obtain ⟨bb, hbb⟩ : ∃ b_ : Bool, decide (b0 > b1) = b_ := ⟨_, rfl⟩
  have EA := Lib.hid (show zone_some.f a0 a1 l0 l1 l2 h0 h1 h2 = some ba by rw [← hba]; rfl)
  have EB := Lib.hid (show zone_some.f b0 b1 m0 m1 m2 g0 g1 g2 = some bb by rw [← hbb]; rfl)
  have HA := Aside0.mk hba
  have HBb := Aside0.mk hbb
  clear hba hbb
  have HBl := Aside0.mk (below_alloc (below_alloc (below_alloc (Below.refl w.heap.size w) (.cells #[.int .i64 a0, .int .i64 a1, .bool l0, .int .i64 l1, .string l2, .bool h0, .int .i64 h1, .string h2] 25)) (.cells #[.int .i64 b0, .int .i64 b1, .bool m0, .int .i64 m1, .string m2, .bool g0, .int .i64 g1, .string g2] 25)) (.cells #[.int .i64 0, .int .i64 0, .bool false, .int .i64 0, .string ByteArray.empty, .bool false, .int .i64 0, .string ByteArray.empty] 25))
  have s1 := Mem.alloc_size w (.cells #[.int .i64 a0, .int .i64 a1, .bool l0, .int .i64 l1, .string l2, .bool h0, .int .i64 h1, .string h2] 25)
  have s2 := Mem.alloc_size (w.alloc (.cells #[.int .i64 a0, .int .i64 a1, .bool l0, .int .i64 l1, .string l2, .bool h0, .int .i64 h1, .string h2] 25)) (.cells #[.int .i64 b0, .int .i64 b1, .bool m0, .int .i64 m1, .string m2, .bool g0, .int .i64 g1, .string g2] 25)
  have HAb := blk_alloc (blk_alloc (Mem.alloc_new w (.cells #[.int .i64 a0, .int .i64 a1, .bool l0, .int .i64 l1, .string l2, .bool h0, .int .i64 h1, .string h2] 25)) (.cells #[.int .i64 b0, .int .i64 b1, .bool m0, .int .i64 m1, .string m2, .bool g0, .int .i64 g1, .string g2] 25)) (.cells #[.int .i64 0, .int .i64 0, .bool false, .int .i64 0, .string ByteArray.empty, .bool false, .int .i64 0, .string ByteArray.empty] 25)
  have HBb2 := blk_alloc (Mem.alloc_new (w.alloc (.cells #[.int .i64 a0, .int .i64 a1, .bool l0, .int .i64 l1, .string l2, .bool h0, .int .i64 h1, .string h2] 25)) (.cells #[.int .i64 b0, .int .i64 b1, .bool m0, .int .i64 m1, .string m2, .bool g0, .int .i64 g1, .string g2] 25)) (.cells #[.int .i64 0, .int .i64 0, .bool false, .int .i64 0, .string ByteArray.empty, .bool false, .int .i64 0, .string ByteArray.empty] 25)
  have HRb := Mem.alloc_new ((w.alloc (.cells #[.int .i64 a0, .int .i64 a1, .bool l0, .int .i64 l1, .string l2, .bool h0, .int .i64 h1, .string h2] 25)).alloc (.cells #[.int .i64 b0, .int .i64 b1, .bool m0, .int .i64 m1, .string m2, .bool g0, .int .i64 g1, .string g2] 25)) (.cells #[.int .i64 0, .int .i64 0, .bool false, .int .i64 0, .string ByteArray.empty, .bool false, .int .i64 0, .string ByteArray.empty] 25)
  have s3 := Mem.alloc_size ((w.alloc (.cells #[.int .i64 a0, .int .i64 a1, .bool l0, .int .i64 l1, .string l2, .bool h0, .int .i64 h1, .string h2] 25)).alloc (.cells #[.int .i64 b0, .int .i64 b1, .bool m0, .int .i64 m1, .string m2, .bool g0, .int .i64 g1, .string g2] 25)) (.cells #[.int .i64 0, .int .i64 0, .bool false, .int .i64 0, .string ByteArray.empty, .bool false, .int .i64 0, .string ByteArray.empty] 25)
  rw [s1] at HBb2
  rw [s2, s1] at HRb
  rw [s2, s1] at s3
  have HAb := Aside0.mk HAb
  have HBb2 := Aside0.mk HBb2
  have HRb := Aside0.mk HRb
  clear s1 s2
  go_enter Try.func60, Try.ntmps60
  go_upto_region 1 with (fail)
  rw [show (Value.string ⟨#[]⟩) = Value.string ByteArray.empty from rfl]
  generalize World.alloc (World.alloc (World.alloc w _) _) (.cells #[.int .i64 0, .int .i64 0, .bool false, .int .i64 0, .string ByteArray.empty, .bool false, .int .i64 0, .string ByteArray.empty] 25) = W3 at HBl HAb HBb2 HRb s3 ⊢
  have p0 : W3.cell? ⟨w.heap.size, 0, none⟩ = some (.int .i64 a0) := (blk_cell HAb.out 0).trans rfl
  have p1 : W3.cell? ⟨w.heap.size, 1, none⟩ = some (.int .i64 a1) := (blk_cell HAb.out 1).trans rfl
  have q0 : W3.cell? ⟨w.heap.size + 1, 0, none⟩ = some (.int .i64 b0) := (blk_cell HBb2.out 0).trans rfl
  have q1 : W3.cell? ⟨w.heap.size + 1, 1, none⟩ = some (.int .i64 b1) := (blk_cell HBb2.out 1).trans rfl
  go_upto_block 0 with (fail)
  rw [show (Value.string ⟨#[]⟩) = Value.string ByteArray.empty from rfl]
  have HZ := Mem.alloc_new W3 (.cells #[.int .i64 (wrap64 (a0 + b0)), .int .i64 (wrap64 (a1 + b1)), .bool false, .int .i64 0, .string ByteArray.empty, .bool false, .int .i64 0, .string ByteArray.empty] 25)
  rw [s3] at HZ
  have HJ : Aside0 (JW w a0 a1 ⟨l0, l1, l2⟩ ⟨h0, h1, h2⟩ b0 b1 ⟨m0, m1, m2⟩ ⟨g0, g1, g2⟩ ⟨false, 0, ByteArray.empty⟩ ⟨false, 0, ByteArray.empty⟩ (W3.alloc (.cells #[.int .i64 (wrap64 (a0 + b0)), .int .i64 (wrap64 (a1 + b1)), .bool false, .int .i64 0, .string ByteArray.empty, .bool false, .int .i64 0, .string ByteArray.empty] 25))) := ⟨blk_alloc HAb.out _, blk_alloc HBb2.out _, blk_alloc HRb.out _, HZ, below_alloc HBl.out _⟩
  clear HBl HAb HBb2 HRb HZ p0 p1 q0 q1
  generalize W3.alloc (.cells #[.int .i64 (wrap64 (a0 + b0)), .int .i64 (wrap64 (a1 + b1)), .bool false, .int .i64 0, .string ByteArray.empty, .bool false, .int .i64 0, .string ByteArray.empty] 25) = W4 at HJ ⊢
  go_cut [] (fun wc => Aside0 (JW w a0 a1 ⟨l0, l1, l2⟩ ⟨h0, h1, h2⟩ b0 b1 ⟨m0, m1, m2⟩ ⟨g0, g1, g2⟩ ⟨rl0, rl1, rl2⟩ ⟨rh0, rh1, rh2⟩ wc))
  case first =>
    have p0 : W4.cell? ⟨w.heap.size, 0, none⟩ = some (.int .i64 a0) := (blk_cell HJ.out.1 0).trans rfl
    have p1 : W4.cell? ⟨w.heap.size, 1, none⟩ = some (.int .i64 a1) := (blk_cell HJ.out.1 1).trans rfl
    have p2 : W4.cell? ⟨w.heap.size, 2, none⟩ = some (.bool l0) := (blk_cell HJ.out.1 2).trans rfl
    have p3 : W4.cell? ⟨w.heap.size, 3, none⟩ = some (.int .i64 l1) := (blk_cell HJ.out.1 3).trans rfl
    have p4 : W4.cell? ⟨w.heap.size, 4, none⟩ = some (.string l2) := (blk_cell HJ.out.1 4).trans rfl
    have p5 : W4.cell? ⟨w.heap.size, 5, none⟩ = some (.bool h0) := (blk_cell HJ.out.1 5).trans rfl
    have p6 : W4.cell? ⟨w.heap.size, 6, none⟩ = some (.int .i64 h1) := (blk_cell HJ.out.1 6).trans rfl
    have p7 : W4.cell? ⟨w.heap.size, 7, none⟩ = some (.string h2) := (blk_cell HJ.out.1 7).trans rfl
    go_wp2_with fail
    refine (zone_some.calls a0 a1 l0 l1 l2 h0 h1 h2 ba _ EA.out).mono ?_
    rintro e w5 ⟨rfl, b5⟩
    have HJ5 := Aside0.mk (HJ.out.below b5)
    clear HJ p0 p1 p2 p3 p4 p5 p6 p7 b5
    cases ba with
    | false =>
      have hr : ((⟨rl0, rl1, rl2⟩, ⟨rh0, rh1, rh2⟩) : S23 × S23) = (⟨m0, m1, m2⟩, ⟨g0, g1, g2⟩) := by rw [← HLH.out]; unfold joinLH; rw [if_pos (by have := of_decide_eq_false HA.out; omega)]
      replace hr := hr.symm
      simp only [Prod.mk.injEq, S23.mk.injEq] at hr
      obtain ⟨⟨rfl, rfl, rfl⟩, rfl, rfl, rfl⟩ := hr
      go_upto_region 5 with (fail)
      have q0 : w5.cell? ⟨w.heap.size + 1, 0, none⟩ = some (.int .i64 b0) := (blk_cell HJ5.out.2.1 0).trans rfl
      have q1 : w5.cell? ⟨w.heap.size + 1, 1, none⟩ = some (.int .i64 b1) := (blk_cell HJ5.out.2.1 1).trans rfl
      have q2 : w5.cell? ⟨w.heap.size + 1, 2, none⟩ = some (.bool m0) := (blk_cell HJ5.out.2.1 2).trans rfl
      have q3 : w5.cell? ⟨w.heap.size + 1, 3, none⟩ = some (.int .i64 m1) := (blk_cell HJ5.out.2.1 3).trans rfl
      have q4 : w5.cell? ⟨w.heap.size + 1, 4, none⟩ = some (.string m2) := (blk_cell HJ5.out.2.1 4).trans rfl
      have q5 : w5.cell? ⟨w.heap.size + 1, 5, none⟩ = some (.bool g0) := (blk_cell HJ5.out.2.1 5).trans rfl
      have q6 : w5.cell? ⟨w.heap.size + 1, 6, none⟩ = some (.int .i64 g1) := (blk_cell HJ5.out.2.1 6).trans rfl
      have q7 : w5.cell? ⟨w.heap.size + 1, 7, none⟩ = some (.string g2) := (blk_cell HJ5.out.2.1 7).trans rfl
      have f0 := blk_frozen HJ5.out.2.2.2.1 0
      have f1 := blk_frozen HJ5.out.2.2.2.1 1
      have f2 := blk_frozen HJ5.out.2.2.2.1 2
      have f3 := blk_frozen HJ5.out.2.2.2.1 3
      have f4 := blk_frozen HJ5.out.2.2.2.1 4
      have f5 := blk_frozen HJ5.out.2.2.2.1 5
      have f6 := blk_frozen HJ5.out.2.2.2.1 6
      have f7 := blk_frozen HJ5.out.2.2.2.1 7
      have z0 : w5.cell? ⟨w.heap.size + 1 + 1 + 1, 0, none⟩ = some (.int .i64 (wrap64 (a0 + b0))) := (blk_cell HJ5.out.2.2.2.1 0).trans rfl
      have z1 : w5.cell? ⟨w.heap.size + 1 + 1 + 1, 1, none⟩ = some (.int .i64 (wrap64 (a1 + b1))) := (blk_cell HJ5.out.2.2.2.1 1).trans rfl
      have z2 : w5.cell? ⟨w.heap.size + 1 + 1 + 1, 2, none⟩ = some (.bool false) := (blk_cell HJ5.out.2.2.2.1 2).trans rfl
      have z3 : w5.cell? ⟨w.heap.size + 1 + 1 + 1, 3, none⟩ = some (.int .i64 0) := (blk_cell HJ5.out.2.2.2.1 3).trans rfl
      have z4 : w5.cell? ⟨w.heap.size + 1 + 1 + 1, 4, none⟩ = some (.string ByteArray.empty) := (blk_cell HJ5.out.2.2.2.1 4).trans rfl
      have z5 : w5.cell? ⟨w.heap.size + 1 + 1 + 1, 5, none⟩ = some (.bool false) := (blk_cell HJ5.out.2.2.2.1 5).trans rfl
      have z6 : w5.cell? ⟨w.heap.size + 1 + 1 + 1, 6, none⟩ = some (.int .i64 0) := (blk_cell HJ5.out.2.2.2.1 6).trans rfl
      have z7 : w5.cell? ⟨w.heap.size + 1 + 1 + 1, 7, none⟩ = some (.string ByteArray.empty) := (blk_cell HJ5.out.2.2.2.1 7).trans rfl
      go_region
      go_wp2_with fail
      go_meet
      case rel => exact ⟨((HJ5.out.low ⟨m0, m1, m2⟩).hi ⟨g0, g1, g2⟩).drew⟩
    | true =>
      have q0 : w5.cell? ⟨w.heap.size + 1, 0, none⟩ = some (.int .i64 b0) := (blk_cell HJ5.out.2.1 0).trans rfl
      have q1 : w5.cell? ⟨w.heap.size + 1, 1, none⟩ = some (.int .i64 b1) := (blk_cell HJ5.out.2.1 1).trans rfl
      have q2 : w5.cell? ⟨w.heap.size + 1, 2, none⟩ = some (.bool m0) := (blk_cell HJ5.out.2.1 2).trans rfl
      have q3 : w5.cell? ⟨w.heap.size + 1, 3, none⟩ = some (.int .i64 m1) := (blk_cell HJ5.out.2.1 3).trans rfl
      have q4 : w5.cell? ⟨w.heap.size + 1, 4, none⟩ = some (.string m2) := (blk_cell HJ5.out.2.1 4).trans rfl
      have q5 : w5.cell? ⟨w.heap.size + 1, 5, none⟩ = some (.bool g0) := (blk_cell HJ5.out.2.1 5).trans rfl
      have q6 : w5.cell? ⟨w.heap.size + 1, 6, none⟩ = some (.int .i64 g1) := (blk_cell HJ5.out.2.1 6).trans rfl
      have q7 : w5.cell? ⟨w.heap.size + 1, 7, none⟩ = some (.string g2) := (blk_cell HJ5.out.2.1 7).trans rfl
      go_wp2_with fail
      refine (zone_some.calls b0 b1 m0 m1 m2 g0 g1 g2 bb _ EB.out).mono ?_
      rintro e w6 ⟨rfl, b6⟩
      have HJ6 := Aside0.mk (HJ5.out.below b6)
      clear HJ5 q0 q1 q2 q3 q4 q5 q6 q7 b6
      cases bb with
      | false =>
        have hr : ((⟨rl0, rl1, rl2⟩, ⟨rh0, rh1, rh2⟩) : S23 × S23) = (⟨l0, l1, l2⟩, ⟨h0, h1, h2⟩) := by rw [← HLH.out]; unfold joinLH; rw [if_neg (by have := of_decide_eq_true HA.out; omega), if_pos (by have := of_decide_eq_false HBb.out; omega)]
        replace hr := hr.symm
        simp only [Prod.mk.injEq, S23.mk.injEq] at hr
        obtain ⟨⟨rfl, rfl, rfl⟩, rfl, rfl, rfl⟩ := hr
        go_upto_region 7 with (fail)
        have p0 : w6.cell? ⟨w.heap.size, 0, none⟩ = some (.int .i64 a0) := (blk_cell HJ6.out.1 0).trans rfl
        have p1 : w6.cell? ⟨w.heap.size, 1, none⟩ = some (.int .i64 a1) := (blk_cell HJ6.out.1 1).trans rfl
        have p2 : w6.cell? ⟨w.heap.size, 2, none⟩ = some (.bool l0) := (blk_cell HJ6.out.1 2).trans rfl
        have p3 : w6.cell? ⟨w.heap.size, 3, none⟩ = some (.int .i64 l1) := (blk_cell HJ6.out.1 3).trans rfl
        have p4 : w6.cell? ⟨w.heap.size, 4, none⟩ = some (.string l2) := (blk_cell HJ6.out.1 4).trans rfl
        have p5 : w6.cell? ⟨w.heap.size, 5, none⟩ = some (.bool h0) := (blk_cell HJ6.out.1 5).trans rfl
        have p6 : w6.cell? ⟨w.heap.size, 6, none⟩ = some (.int .i64 h1) := (blk_cell HJ6.out.1 6).trans rfl
        have p7 : w6.cell? ⟨w.heap.size, 7, none⟩ = some (.string h2) := (blk_cell HJ6.out.1 7).trans rfl
        have f0 := blk_frozen HJ6.out.2.2.2.1 0
        have f1 := blk_frozen HJ6.out.2.2.2.1 1
        have f2 := blk_frozen HJ6.out.2.2.2.1 2
        have f3 := blk_frozen HJ6.out.2.2.2.1 3
        have f4 := blk_frozen HJ6.out.2.2.2.1 4
        have f5 := blk_frozen HJ6.out.2.2.2.1 5
        have f6 := blk_frozen HJ6.out.2.2.2.1 6
        have f7 := blk_frozen HJ6.out.2.2.2.1 7
        have z0 : w6.cell? ⟨w.heap.size + 1 + 1 + 1, 0, none⟩ = some (.int .i64 (wrap64 (a0 + b0))) := (blk_cell HJ6.out.2.2.2.1 0).trans rfl
        have z1 : w6.cell? ⟨w.heap.size + 1 + 1 + 1, 1, none⟩ = some (.int .i64 (wrap64 (a1 + b1))) := (blk_cell HJ6.out.2.2.2.1 1).trans rfl
        have z2 : w6.cell? ⟨w.heap.size + 1 + 1 + 1, 2, none⟩ = some (.bool false) := (blk_cell HJ6.out.2.2.2.1 2).trans rfl
        have z3 : w6.cell? ⟨w.heap.size + 1 + 1 + 1, 3, none⟩ = some (.int .i64 0) := (blk_cell HJ6.out.2.2.2.1 3).trans rfl
        have z4 : w6.cell? ⟨w.heap.size + 1 + 1 + 1, 4, none⟩ = some (.string ByteArray.empty) := (blk_cell HJ6.out.2.2.2.1 4).trans rfl
        have z5 : w6.cell? ⟨w.heap.size + 1 + 1 + 1, 5, none⟩ = some (.bool false) := (blk_cell HJ6.out.2.2.2.1 5).trans rfl
        have z6 : w6.cell? ⟨w.heap.size + 1 + 1 + 1, 6, none⟩ = some (.int .i64 0) := (blk_cell HJ6.out.2.2.2.1 6).trans rfl
        have z7 : w6.cell? ⟨w.heap.size + 1 + 1 + 1, 7, none⟩ = some (.string ByteArray.empty) := (blk_cell HJ6.out.2.2.2.1 7).trans rfl
        go_region
        go_wp2_with fail
        go_meet
        case rel => exact ⟨((HJ6.out.low ⟨l0, l1, l2⟩).hi ⟨h0, h1, h2⟩).drew⟩
      | true =>
        generalize hx : (if ordC m0 m1 m2 l0 l1 l2 < 0 then (⟨m0, m1, m2⟩ : S23) else ⟨l0, l1, l2⟩) = x
        generalize hy : (if 0 < ordC g0 g1 g2 h0 h1 h2 then (⟨g0, g1, g2⟩ : S23) else ⟨h0, h1, h2⟩) = y
        have hr : ((⟨rl0, rl1, rl2⟩, ⟨rh0, rh1, rh2⟩) : S23 × S23) = (x, y) := by rw [← HLH.out]; unfold joinLH; rw [if_neg (by have := of_decide_eq_true HA.out; omega), if_neg (by have := of_decide_eq_true HBb.out; omega), hx, hy]
        have HR := Lib.hid hr
        have HX := Lib.hid hx
        have HY := Lib.hid hy
        clear hr hx hy
        have p0 : w6.cell? ⟨w.heap.size, 0, none⟩ = some (.int .i64 a0) := (blk_cell HJ6.out.1 0).trans rfl
        have p1 : w6.cell? ⟨w.heap.size, 1, none⟩ = some (.int .i64 a1) := (blk_cell HJ6.out.1 1).trans rfl
        have p2 : w6.cell? ⟨w.heap.size, 2, none⟩ = some (.bool l0) := (blk_cell HJ6.out.1 2).trans rfl
        have p3 : w6.cell? ⟨w.heap.size, 3, none⟩ = some (.int .i64 l1) := (blk_cell HJ6.out.1 3).trans rfl
        have p4 : w6.cell? ⟨w.heap.size, 4, none⟩ = some (.string l2) := (blk_cell HJ6.out.1 4).trans rfl
        have p5 : w6.cell? ⟨w.heap.size, 5, none⟩ = some (.bool h0) := (blk_cell HJ6.out.1 5).trans rfl
        have p6 : w6.cell? ⟨w.heap.size, 6, none⟩ = some (.int .i64 h1) := (blk_cell HJ6.out.1 6).trans rfl
        have p7 : w6.cell? ⟨w.heap.size, 7, none⟩ = some (.string h2) := (blk_cell HJ6.out.1 7).trans rfl
        have q0 : w6.cell? ⟨w.heap.size + 1, 0, none⟩ = some (.int .i64 b0) := (blk_cell HJ6.out.2.1 0).trans rfl
        have q1 : w6.cell? ⟨w.heap.size + 1, 1, none⟩ = some (.int .i64 b1) := (blk_cell HJ6.out.2.1 1).trans rfl
        have q2 : w6.cell? ⟨w.heap.size + 1, 2, none⟩ = some (.bool m0) := (blk_cell HJ6.out.2.1 2).trans rfl
        have q3 : w6.cell? ⟨w.heap.size + 1, 3, none⟩ = some (.int .i64 m1) := (blk_cell HJ6.out.2.1 3).trans rfl
        have q4 : w6.cell? ⟨w.heap.size + 1, 4, none⟩ = some (.string m2) := (blk_cell HJ6.out.2.1 4).trans rfl
        have q5 : w6.cell? ⟨w.heap.size + 1, 5, none⟩ = some (.bool g0) := (blk_cell HJ6.out.2.1 5).trans rfl
        have q6 : w6.cell? ⟨w.heap.size + 1, 6, none⟩ = some (.int .i64 g1) := (blk_cell HJ6.out.2.1 6).trans rfl
        have q7 : w6.cell? ⟨w.heap.size + 1, 7, none⟩ = some (.string g2) := (blk_cell HJ6.out.2.1 7).trans rfl
        go_wp2_with fail
        refine (cell_MinFunc2.calls ⟨l0, l1, l2⟩ ⟨m0, m1, m2⟩ w6.heap.size _ (Mem.alloc_new w6 (.cells #[.bool l0, .int .i64 l1, .string l2, .bool m0, .int .i64 m1, .string m2] 23))).mono ?_
        rintro e w7 ⟨rfl, b7⟩
        have HJ7 := Aside0.mk ((HJ6.out.below (below_alloc (Below.refl _ _) (.cells #[.bool l0, .int .i64 l1, .string l2, .bool m0, .int .i64 m1, .string m2] 23))).below b7)
        rw [show (if ordC m0 m1 m2 l0 l1 l2 < 0 then (⟨m0, m1, m2⟩ : S23) else ⟨l0, l1, l2⟩) = x from HX.out]
        clear HJ6 p0 p1 p2 p3 p4 p5 p6 p7 q0 q1 q2 q3 q4 q5 q6 q7 b7 HX
        have f0 := blk_frozen HJ7.out.2.2.2.1 0
        have f1 := blk_frozen HJ7.out.2.2.2.1 1
        have f2 := blk_frozen HJ7.out.2.2.2.1 2
        have f3 := blk_frozen HJ7.out.2.2.2.1 3
        have f4 := blk_frozen HJ7.out.2.2.2.1 4
        have f5 := blk_frozen HJ7.out.2.2.2.1 5
        have f6 := blk_frozen HJ7.out.2.2.2.1 6
        have f7 := blk_frozen HJ7.out.2.2.2.1 7
        have z0 : w7.cell? ⟨w.heap.size + 1 + 1 + 1, 0, none⟩ = some (.int .i64 (wrap64 (a0 + b0))) := (blk_cell HJ7.out.2.2.2.1 0).trans rfl
        have z1 : w7.cell? ⟨w.heap.size + 1 + 1 + 1, 1, none⟩ = some (.int .i64 (wrap64 (a1 + b1))) := (blk_cell HJ7.out.2.2.2.1 1).trans rfl
        have z2 : w7.cell? ⟨w.heap.size + 1 + 1 + 1, 2, none⟩ = some (.bool false) := (blk_cell HJ7.out.2.2.2.1 2).trans rfl
        have z3 : w7.cell? ⟨w.heap.size + 1 + 1 + 1, 3, none⟩ = some (.int .i64 0) := (blk_cell HJ7.out.2.2.2.1 3).trans rfl
        have z4 : w7.cell? ⟨w.heap.size + 1 + 1 + 1, 4, none⟩ = some (.string ByteArray.empty) := (blk_cell HJ7.out.2.2.2.1 4).trans rfl
        have z5 : w7.cell? ⟨w.heap.size + 1 + 1 + 1, 5, none⟩ = some (.bool false) := (blk_cell HJ7.out.2.2.2.1 5).trans rfl
        have z6 : w7.cell? ⟨w.heap.size + 1 + 1 + 1, 6, none⟩ = some (.int .i64 0) := (blk_cell HJ7.out.2.2.2.1 6).trans rfl
        have z7 : w7.cell? ⟨w.heap.size + 1 + 1 + 1, 7, none⟩ = some (.string ByteArray.empty) := (blk_cell HJ7.out.2.2.2.1 7).trans rfl
        go_upto_region 3 with (fail)
        have HJ8 := Aside0.mk (HJ7.out.low x)
        clear HJ7 f0 f1 f2 f3 f4 f5 f6 f7 z0 z1 z2 z3 z4 z5 z6 z7
        generalize World.setCell (World.setCell (World.setCell w7 _ _) _ _) _ _ = w8 at HJ8 ⊢
        have p0 : w8.cell? ⟨w.heap.size, 0, none⟩ = some (.int .i64 a0) := (blk_cell HJ8.out.1 0).trans rfl
        have p1 : w8.cell? ⟨w.heap.size, 1, none⟩ = some (.int .i64 a1) := (blk_cell HJ8.out.1 1).trans rfl
        have p2 : w8.cell? ⟨w.heap.size, 2, none⟩ = some (.bool l0) := (blk_cell HJ8.out.1 2).trans rfl
        have p3 : w8.cell? ⟨w.heap.size, 3, none⟩ = some (.int .i64 l1) := (blk_cell HJ8.out.1 3).trans rfl
        have p4 : w8.cell? ⟨w.heap.size, 4, none⟩ = some (.string l2) := (blk_cell HJ8.out.1 4).trans rfl
        have p5 : w8.cell? ⟨w.heap.size, 5, none⟩ = some (.bool h0) := (blk_cell HJ8.out.1 5).trans rfl
        have p6 : w8.cell? ⟨w.heap.size, 6, none⟩ = some (.int .i64 h1) := (blk_cell HJ8.out.1 6).trans rfl
        have p7 : w8.cell? ⟨w.heap.size, 7, none⟩ = some (.string h2) := (blk_cell HJ8.out.1 7).trans rfl
        have q0 : w8.cell? ⟨w.heap.size + 1, 0, none⟩ = some (.int .i64 b0) := (blk_cell HJ8.out.2.1 0).trans rfl
        have q1 : w8.cell? ⟨w.heap.size + 1, 1, none⟩ = some (.int .i64 b1) := (blk_cell HJ8.out.2.1 1).trans rfl
        have q2 : w8.cell? ⟨w.heap.size + 1, 2, none⟩ = some (.bool m0) := (blk_cell HJ8.out.2.1 2).trans rfl
        have q3 : w8.cell? ⟨w.heap.size + 1, 3, none⟩ = some (.int .i64 m1) := (blk_cell HJ8.out.2.1 3).trans rfl
        have q4 : w8.cell? ⟨w.heap.size + 1, 4, none⟩ = some (.string m2) := (blk_cell HJ8.out.2.1 4).trans rfl
        have q5 : w8.cell? ⟨w.heap.size + 1, 5, none⟩ = some (.bool g0) := (blk_cell HJ8.out.2.1 5).trans rfl
        have q6 : w8.cell? ⟨w.heap.size + 1, 6, none⟩ = some (.int .i64 g1) := (blk_cell HJ8.out.2.1 6).trans rfl
        have q7 : w8.cell? ⟨w.heap.size + 1, 7, none⟩ = some (.string g2) := (blk_cell HJ8.out.2.1 7).trans rfl
        go_wp2_with fail
        refine (cell_MaxFunc2.calls ⟨h0, h1, h2⟩ ⟨g0, g1, g2⟩ w8.heap.size _ (Mem.alloc_new w8 (.cells #[.bool h0, .int .i64 h1, .string h2, .bool g0, .int .i64 g1, .string g2] 23))).mono ?_
        rintro e w9 ⟨rfl, b9⟩
        have HJ9 := Aside0.mk ((HJ8.out.below (below_alloc (Below.refl _ _) (.cells #[.bool h0, .int .i64 h1, .string h2, .bool g0, .int .i64 g1, .string g2] 23))).below b9)
        rw [show (if 0 < ordC g0 g1 g2 h0 h1 h2 then (⟨g0, g1, g2⟩ : S23) else ⟨h0, h1, h2⟩) = y from HY.out]
        clear HJ8 p0 p1 p2 p3 p4 p5 p6 p7 q0 q1 q2 q3 q4 q5 q6 q7 b9 HY
        have f0 := blk_frozen HJ9.out.2.2.2.1 0
        have f1 := blk_frozen HJ9.out.2.2.2.1 1
        have f2 := blk_frozen HJ9.out.2.2.2.1 2
        have f3 := blk_frozen HJ9.out.2.2.2.1 3
        have f4 := blk_frozen HJ9.out.2.2.2.1 4
        have f5 := blk_frozen HJ9.out.2.2.2.1 5
        have f6 := blk_frozen HJ9.out.2.2.2.1 6
        have f7 := blk_frozen HJ9.out.2.2.2.1 7
        have z0 : w9.cell? ⟨w.heap.size + 1 + 1 + 1, 0, none⟩ = some (.int .i64 (wrap64 (a0 + b0))) := (blk_cell HJ9.out.2.2.2.1 0).trans rfl
        have z1 : w9.cell? ⟨w.heap.size + 1 + 1 + 1, 1, none⟩ = some (.int .i64 (wrap64 (a1 + b1))) := (blk_cell HJ9.out.2.2.2.1 1).trans rfl
        have z2 : w9.cell? ⟨w.heap.size + 1 + 1 + 1, 2, none⟩ = some (.bool x.f0) := (blk_cell HJ9.out.2.2.2.1 2).trans rfl
        have z3 : w9.cell? ⟨w.heap.size + 1 + 1 + 1, 3, none⟩ = some (.int .i64 x.f1) := (blk_cell HJ9.out.2.2.2.1 3).trans rfl
        have z4 : w9.cell? ⟨w.heap.size + 1 + 1 + 1, 4, none⟩ = some (.string x.f2) := (blk_cell HJ9.out.2.2.2.1 4).trans rfl
        have z5 : w9.cell? ⟨w.heap.size + 1 + 1 + 1, 5, none⟩ = some (.bool false) := (blk_cell HJ9.out.2.2.2.1 5).trans rfl
        have z6 : w9.cell? ⟨w.heap.size + 1 + 1 + 1, 6, none⟩ = some (.int .i64 0) := (blk_cell HJ9.out.2.2.2.1 6).trans rfl
        have z7 : w9.cell? ⟨w.heap.size + 1 + 1 + 1, 7, none⟩ = some (.string ByteArray.empty) := (blk_cell HJ9.out.2.2.2.1 7).trans rfl
        go_wp2_with fail
        go_meet
        case rel => have hr := HR.out; simp only [Prod.mk.injEq] at hr; obtain ⟨rfl, rfl⟩ := hr; exact ⟨HJ9.out.hi ⟨rh0, rh1, rh2⟩⟩
  case rest =>
    have HJ := hcut
    clear hcut
    have p0 : wc.cell? ⟨w.heap.size + 1 + 1 + 1, 0, none⟩ = some (.int .i64 (wrap64 (a0 + b0))) := (blk_cell HJ.out.2.2.2.1 0).trans rfl
    have p1 : wc.cell? ⟨w.heap.size + 1 + 1 + 1, 1, none⟩ = some (.int .i64 (wrap64 (a1 + b1))) := (blk_cell HJ.out.2.2.2.1 1).trans rfl
    have p2 : wc.cell? ⟨w.heap.size + 1 + 1 + 1, 2, none⟩ = some (.bool rl0) := (blk_cell HJ.out.2.2.2.1 2).trans rfl
    have p3 : wc.cell? ⟨w.heap.size + 1 + 1 + 1, 3, none⟩ = some (.int .i64 rl1) := (blk_cell HJ.out.2.2.2.1 3).trans rfl
    have p4 : wc.cell? ⟨w.heap.size + 1 + 1 + 1, 4, none⟩ = some (.string rl2) := (blk_cell HJ.out.2.2.2.1 4).trans rfl
    have p5 : wc.cell? ⟨w.heap.size + 1 + 1 + 1, 5, none⟩ = some (.bool rh0) := (blk_cell HJ.out.2.2.2.1 5).trans rfl
    have p6 : wc.cell? ⟨w.heap.size + 1 + 1 + 1, 6, none⟩ = some (.int .i64 rh1) := (blk_cell HJ.out.2.2.2.1 6).trans rfl
    have p7 : wc.cell? ⟨w.heap.size + 1 + 1 + 1, 7, none⟩ = some (.string rh2) := (blk_cell HJ.out.2.2.2.1 7).trans rfl
    have q0 : wc.cell? ⟨w.heap.size + 1 + 1, 0, none⟩ = some (.int .i64 0) := (blk_cell HJ.out.2.2.1 0).trans rfl
    have q1 : wc.cell? ⟨w.heap.size + 1 + 1, 1, none⟩ = some (.int .i64 0) := (blk_cell HJ.out.2.2.1 1).trans rfl
    have q2 : wc.cell? ⟨w.heap.size + 1 + 1, 2, none⟩ = some (.bool false) := (blk_cell HJ.out.2.2.1 2).trans rfl
    have q3 : wc.cell? ⟨w.heap.size + 1 + 1, 3, none⟩ = some (.int .i64 0) := (blk_cell HJ.out.2.2.1 3).trans rfl
    have q4 : wc.cell? ⟨w.heap.size + 1 + 1, 4, none⟩ = some (.string ByteArray.empty) := (blk_cell HJ.out.2.2.1 4).trans rfl
    have q5 : wc.cell? ⟨w.heap.size + 1 + 1, 5, none⟩ = some (.bool false) := (blk_cell HJ.out.2.2.1 5).trans rfl
    have q6 : wc.cell? ⟨w.heap.size + 1 + 1, 6, none⟩ = some (.int .i64 0) := (blk_cell HJ.out.2.2.1 6).trans rfl
    have q7 : wc.cell? ⟨w.heap.size + 1 + 1, 7, none⟩ = some (.string ByteArray.empty) := (blk_cell HJ.out.2.2.1 7).trans rfl
    have f0 := blk_frozen HJ.out.2.2.1 0
    have f1 := blk_frozen HJ.out.2.2.1 1
    have f2 := blk_frozen HJ.out.2.2.1 2
    have f3 := blk_frozen HJ.out.2.2.1 3
    have f4 := blk_frozen HJ.out.2.2.1 4
    have f5 := blk_frozen HJ.out.2.2.1 5
    have f6 := blk_frozen HJ.out.2.2.1 6
    have f7 := blk_frozen HJ.out.2.2.1 7
    go_wp2_with fail
    have hW := set_all wc (w.heap.size + 1 + 1) 0 0 (wrap64 (a0 + b0)) (wrap64 (a1 + b1)) _ _ ⟨rl0, rl1, rl2⟩ ⟨rh0, rh1, rh2⟩ _ HJ.out.2.2.1
    have hB := HJ.out.2.2.2.2
    have hB9 := below_all (g := w.heap.size + 1 + 1) hB (by omega) (wrap64 (a0 + b0)) (wrap64 (a1 + b1)) ⟨rl0, rl1, rl2⟩ ⟨rh0, rh1, rh2⟩
    clear p0 p1 p2 p3 p4 p5 p6 p7 q0 q1 q2 q3 q4 q5 q6 q7 f0 f1 f2 f3 f4 f5 f6 f7 HJ hB
    generalize World.setCell _ _ _ = W8 at hB9 hW ⊢
    exact bodyPost_ret (results_cell_row rfl _ _ (w.heap.size + 1 + 1) 25 _ (0, 0) _ rfl hW hu2 rfl (by kernel_rfl)) rfl ⟨rfl, hB9⟩
def zone_Join.f (a0 a1 : Int) (a2 : Bool) (a3 : Int) (a4 : ByteArray) (a5 : Bool) (a6 : Int) (a7 : ByteArray) (b0 b1 : Int) (b2 : Bool) (b3 : Int) (b4 : ByteArray) (b5 : Bool) (b6 : Int) (b7 : ByteArray) : Option (Int × Int × Bool × Int × ByteArray × Bool × Int × ByteArray) :=
  let r := joinLH a0 a1 ⟨a2, a3, a4⟩ ⟨a5, a6, a7⟩ b0 b1 ⟨b2, b3, b4⟩ ⟨b5, b6, b7⟩
  some (wrap64 (a0 + b0), wrap64 (a1 + b1), r.1.f0, r.1.f1, r.1.f2, r.2.f0, r.2.f1, r.2.f2)
theorem zone_Join.calls (a0_0 : Int) (a0_1 : Int) (a0_2 : Bool) (a0_3 : Int) (a0_4 : ByteArray) (a0_5 : Bool) (a0_6 : Int) (a0_7 : ByteArray) (a1_0 : Int) (a1_1 : Int) (a1_2 : Bool) (a1_3 : Int) (a1_4 : ByteArray) (a1_5 : Bool) (a1_6 : Int) (a1_7 : ByteArray) (r1 : Int) (r2 : Int) (r3 : Bool) (r4 : Int) (r5 : ByteArray) (r6 : Bool) (r7 : Int) (r8 : ByteArray) (w : World) (h : zone_Join.f a0_0 a0_1 a0_2 a0_3 a0_4 a0_5 a0_6 a0_7 a1_0 a1_1 a1_2 a1_3 a1_4 a1_5 a1_6 a1_7 = some (r1, r2, r3, r4, r5, r6, r7, r8)) :
    Calls Try.prog 60 #[.agg #[.int .i64 a0_0, .int .i64 a0_1, .bool a0_2, .int .i64 a0_3, .string a0_4, .bool a0_5, .int .i64 a0_6, .string a0_7], .agg #[.int .i64 a1_0, .int .i64 a1_1, .bool a1_2, .int .i64 a1_3, .string a1_4, .bool a1_5, .int .i64 a1_6, .string a1_7]] w fun e w' => e = .returned (.agg #[.int .i64 r1, .int .i64 r2, .bool r3, .int .i64 r4, .string r5, .bool r6, .int .i64 r7, .string r8]) ∧ Below w.heap.size w w' := by
  unfold zone_Join.f at h
  simp only [Option.some.injEq, Prod.mk.injEq] at h
  obtain ⟨rfl, rfl, rfl, rfl, rfl, rfl, rfl, rfl⟩ := h
  exact zone_Join.calls' a0_0 a0_1 ⟨a0_2, a0_3, a0_4⟩ ⟨a0_5, a0_6, a0_7⟩ a1_0 a1_1 ⟨a1_2, a1_3, a1_4⟩ ⟨a1_5, a1_6, a1_7⟩ w
end Go.Proofs.Ytkdlfejokahohaa.X
