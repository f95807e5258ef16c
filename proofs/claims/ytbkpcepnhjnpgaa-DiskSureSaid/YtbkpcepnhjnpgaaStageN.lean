/- Stages in memory: stage.New, is, Used, Len, Clear. -/
import Derived.Test.YtbkpcepnhjnpgaaStageB
namespace Go.Proofs.Ytbkpcepnhjnpgaa.X
open Go.RowKit Go.Maps Go.Proofs.YtbkpcepnhjnpgaaW.PrintWords Go.Proofs.YtbkpcepnhjnpgaaW.PrintLast Go.Proofs.YtbkpcepnhjnpgaaW.PrintMore
set_option linter.unusedVariables false
set_option linter.unusedSimpArgs false
/-- What is staged: a name, the first sector, how many bytes, their sum. -/
structure It where
  f0 : ByteArray
  f1 : Int
  f2 : Int
  f3 : Int
def kIt : Kd It := Kd.iso (Kd.pair Kd.string (Kd.pair (Kd.int .i64) (Kd.pair (Kd.int .i64) (Kd.int .u32)))) (fun x => (x.f0, x.f1, x.f2, x.f3))
structure TS where
  bd : Nat
  frm : Nat
  n : Nat
  used : Nat
  its : List It
  B : Nat
def tBlk (t : TS) (v : Value) : Obj := .cells #[.pointer (some ⟨t.bd, 0, none⟩), .int .i64 (t.frm : Int), .int .i64 (t.n : Int), .int .i64 (t.used : Int), v] 47 (0, 0)
def IsT (w : World) (b : Nat) (t : TS) : Prop :=
  ∃ A c, w.heap[b]? = some (tBlk t (.slice A t.its.length c)) ∧ Kd.R kIt 111 w t.B (fun k => k ≠ b) (.slice A t.its.length c) t.its
theorem R_fr {α : Type} {d : Kd α} {e : Nat} {w w' : World} {base : Nat} {ok P : Nat → Prop} {v : Value} {xs : List α} (h : Kd.R d e w base ok v xs) (hf : Fr P w w') (hp : ∀ k, ok k → k < w.heap.size → P k) : Kd.R d e w' base ok v xs :=
  Kd.R_step h (fun k ho hk => hf.block k hk (hp k ho hk))
/-- A row stays where the blocks of its own type do. -/
theorem R_typ {α : Type} {d : Kd α} {e : Nat} {w w' : World} {base : Nat} {ok P : Nat → Prop} {v : Value} {xs : List α} (h : Kd.R d e w base ok v xs) (hf : Fr P w w') (hp : ∀ k cells q, q ∈ e :: d.E → w.heap[k]? = some (.cells cells q (0, 0)) → P k) : Kd.R d e w' base ok v xs :=
  Kd.R_mono (R_fr (Kd.R_bound h) hf (fun k hk _ => by
    obtain ⟨_, _, _, q, hq, cells, hc⟩ := hk
    exact hp k cells q hq hc)) (fun _ hk => hk.1)
theorem IsT.lt {w : World} {b : Nat} {t : TS} (h : IsT w b t) : b < w.heap.size := by
  obtain ⟨A, c, h, _⟩ := h
  exact (Array.getElem?_eq_some_iff.1 h).1
/-- A stage stays where neither its block nor a block of items is written. -/
theorem IsT.kept {P : Nat → Prop} {w w' : World} {b : Nat} {t : TS} (h : IsT w b t) (hf : Fr P w w') (hb : P b) (hp : ∀ k cells, w.heap[k]? = some (.cells cells 111 (0, 0)) → P k) : IsT w' b t := by
  obtain ⟨A, c, h1, h2⟩ := h
  refine ⟨A, c, hf.kept h1 hb, R_typ h2 hf (fun k cells q hq hc => ?_)⟩
  rcases List.mem_cons.1 hq with rfl | hq
  · exact hp k cells hc
  · simp [kIt, Kd.iso, Kd.pair, Kd.string, Kd.int, Kd.scalar] at hq
set_option maxRecDepth 100000 in
theorem stage_is.calls (b : Nat) (t : TS) (v : Value) (w : World) (h : w.heap[b]? = some (tBlk t v)) : Calls Try.prog 62 #[.pointer (some ⟨b, 0, none⟩)] w fun e w' => e = .returned (.bool true) ∧ w' = w := by
  have h0 : w.cell? ⟨b, 0, none⟩ = some (.pointer (some ⟨t.bd, 0, none⟩)) := (blk_cell h 0).trans rfl
  have hu := Try.underlying47
  clear h
  go_enter Try.func62, Try.ntmps62
  go_wp2_with fail
  go_ret
  exact ⟨rfl, rfl⟩
set_option maxRecDepth 100000 in
theorem stage_is.nil (w : World) : Calls Try.prog 62 #[.pointer none] w fun e w' => e = .returned (.bool false) ∧ w' = w := by
  go_enter Try.func62, Try.ntmps62
  go_wp2_with fail
  go_ret
  exact ⟨rfl, rfl⟩
set_option maxRecDepth 100000 in
theorem stage_is.none (b : Nat) (w : World) (h0 : w.cell? ⟨b, 0, none⟩ = some (.pointer none)) : Calls Try.prog 62 #[.pointer (some ⟨b, 0, none⟩)] w fun e w' => e = .returned (.bool false) ∧ w' = w := by
  have hu := Try.underlying47
  go_enter Try.func62, Try.ntmps62
  go_wp2_with fail
  go_ret
  exact ⟨rfl, rfl⟩
set_option maxRecDepth 100000 in
theorem stage_Used.calls (b : Nat) (t : TS) (w : World) (h : IsT w b t) : Calls Try.prog 19 #[.pointer (some ⟨b, 0, none⟩)] w fun e w' => e = .returned (.int .i64 (t.used : Int)) ∧ w' = w := by
  obtain ⟨A, c, hb, hr⟩ := h
  have HB := Aside0.mk hb
  have h3 : w.cell? ⟨b, 3, none⟩ = some (.int .i64 (t.used : Int)) := (blk_cell hb 3).trans rfl
  have hu := Try.underlying47
  clear hb hr
  go_enter Try.func19, Try.ntmps19
  go_wp2_with fail
  refine (stage_is.calls b t _ w HB.out).mono ?_
  rintro e w' ⟨rfl, rfl⟩
  go_wp2_with fail
  go_ret
  exact ⟨rfl, rfl⟩
set_option maxRecDepth 100000 in
theorem stage_Used.bad (p : Value) (w : World) (h : Calls Try.prog 62 #[p] w fun e w' => e = .returned (.bool false) ∧ w' = w) : Calls Try.prog 19 #[p] w fun e w' => e = .returned (.int .i64 0) ∧ w' = w := by
  have H := Aside0.mk h
  clear h
  go_enter Try.func19, Try.ntmps19
  go_wp2_with fail
  refine H.out.mono ?_
  rintro e w' ⟨rfl, rfl⟩
  go_wp2_with fail
  go_ret
  exact ⟨rfl, rfl⟩
set_option maxRecDepth 100000 in
theorem stage_Len.calls (b : Nat) (t : TS) (w : World) (h : IsT w b t) : Calls Try.prog 20 #[.pointer (some ⟨b, 0, none⟩)] w fun e w' => e = .returned (.int .i64 (t.its.length : Int)) ∧ w' = w := by
  obtain ⟨A, c, hb, hr⟩ := h
  have HB := Aside0.mk hb
  generalize t.its.length = m at hb hr HB ⊢
  have h4 : w.cell? ⟨b, 4, none⟩ = some (.slice A m c) := (blk_cell hb 4).trans rfl
  have hu := Try.underlying47
  clear hb hr
  go_enter Try.func20, Try.ntmps20
  go_wp2_with fail
  refine (stage_is.calls b t _ w HB.out).mono ?_
  rintro e w' ⟨rfl, rfl⟩
  go_wp2_with fail
  go_ret
  exact ⟨rfl, rfl⟩
set_option maxRecDepth 100000 in
theorem stage_Len.bad (p : Value) (w : World) (h : Calls Try.prog 62 #[p] w fun e w' => e = .returned (.bool false) ∧ w' = w) : Calls Try.prog 20 #[p] w fun e w' => e = .returned (.int .i64 0) ∧ w' = w := by
  have H := Aside0.mk h
  clear h
  go_enter Try.func20, Try.ntmps20
  go_wp2_with fail
  refine H.out.mono ?_
  rintro e w' ⟨rfl, rfl⟩
  go_wp2_with fail
  go_ret
  exact ⟨rfl, rfl⟩
set_option maxRecDepth 100000 in
theorem stage_Clear.calls (b : Nat) (t : TS) (w : World) (h : IsT w b t) : Calls Try.prog 23 #[.pointer (some ⟨b, 0, none⟩)] w fun e w' => e = .returned (.tuple #[]) ∧ IsT w' b { t with used := 0, its := [] } ∧ Fr (fun k => k ≠ b) w w' := by
  obtain ⟨A, c, hb, hr⟩ := h
  have HB := Aside0.mk hb
  generalize t.its.length = m at hb hr HB ⊢
  have h3 : w.cell? ⟨b, 3, none⟩ = some (.int .i64 (t.used : Int)) := (blk_cell hb 3).trans rfl
  have h4 : w.cell? ⟨b, 4, none⟩ = some (.slice A m c) := (blk_cell hb 4).trans rfl
  have f3 := blk_frozen hb 3
  have f4 := blk_frozen hb 4
  have hu := Try.underlying47
  clear hb hr
  go_enter Try.func23, Try.ntmps23
  go_wp2_with fail
  refine (stage_is.calls b t _ w HB.out).mono ?_
  rintro e w' ⟨rfl, rfl⟩
  go_wp2_with fail
  first | go_end0 | ((try simp only [Exit.inBlock, Exit.then]); refine bodyPost_ret (results_none rfl _ _ _) rfl ?_)
  refine ⟨rfl, ⟨none, 0, ?_, Kd.R_nil _ _ _ _ _⟩, (((Fr.refl _ _).set (.inl (fun h => h rfl)) _).set (.inl (fun h => h rfl)) _)⟩
  have h5 := blk_set (blk_set HB.out 3 (.int .i64 0)) 4 (.slice none 0 0)
  unfold tBlk at h5 ⊢
  simpa using h5
set_option maxRecDepth 100000 in
theorem stage_Clear.bad (p : Value) (w : World) (h : Calls Try.prog 62 #[p] w fun e w' => e = .returned (.bool false) ∧ w' = w) : Calls Try.prog 23 #[p] w fun e w' => e = .returned (.tuple #[]) ∧ w' = w := by
  have H := Aside0.mk h
  clear h
  go_enter Try.func23, Try.ntmps23
  go_wp2_with fail
  refine H.out.mono ?_
  rintro e w' ⟨rfl, rfl⟩
  go_wp2_with fail
  first | go_end0 | ((try simp only [Exit.inBlock, Exit.then]); refine bodyPost_ret (results_none rfl _ _ _) rfl ?_)
  exact ⟨rfl, rfl⟩
set_option maxRecDepth 100000 in
theorem stage_New.bad (p : Value) (x y : Int) (w : World) (h : Calls Try.prog 76 #[p] w fun e w' => e = .returned (.bool false) ∧ w' = w) :
    Calls Try.prog 15 #[p, .int .i64 x, .int .i64 y] w fun e w' => e = .returned (.tuple #[.pointer none, .int .i64 9]) ∧ w' = w := by
  have H := Aside0.mk h
  clear h
  go_enter Try.func15, Try.ntmps15
  go_wp2_with fail
  refine (disk_Size.bad _ _ H.out).mono ?_
  rintro e w' ⟨rfl, rfl⟩
  go_wp2_with fail
  go_ret2
  exact ⟨rfl, rfl⟩
def newT (bd frm n B : Nat) : TS := ⟨bd, frm, n, 0, [], B⟩
set_option maxRecDepth 100000 in
theorem stage_New.calls (B b : Nat) (d : DS) (x y : Int) (w : World) (h : IsD w b d) (hn : 1 ≤ d.n) (hx : 0 ≤ x ∧ 0 ≤ y ∧ x + y ≤ d.n) :
    Calls Try.prog 15 #[.pointer (some ⟨b, 0, none⟩), .int .i64 x, .int .i64 y] w fun e w' => e = .returned (.tuple #[.pointer (some ⟨w.heap.size, 0, none⟩), .int .i64 0]) ∧ IsT w' w.heap.size (newT b x.toNat y.toNat B) ∧ Fr (fun _ => True) w w' ∧ w'.heap.size = w.heap.size + 1 := by
  have H := Aside0.mk h
  have hu := Try.underlying47
  have HS := disk_Size.calls b d w h
  obtain ⟨m, hm⟩ : ∃ m : Int, (d.n : Int) = m := ⟨_, rfl⟩
  rw [hm] at HS hx
  have c0 : (m == 0) = false := by simp; omega
  have c1 : decide (y < 0) = false := decide_eq_false (by omega)
  have c2 : decide (x < 0) = false := decide_eq_false (by omega)
  have c3 : decide (x > m) = false := decide_eq_false (by omega)
  have hw : wrap64 (m - x) = m - x := by have := h.2.2.2; unfold wrap64; omega
  have c4 : decide (y > wrap64 (m - x)) = false := by rw [hw]; exact decide_eq_false (by omega)
  have HX := Aside0.mk hx
  have HS := Aside0.mk HS
  clear h hn hx hm hw
  go_enter Try.func15, Try.ntmps15
  go_wp2_with fail
  refine HS.out.mono ?_
  rintro e w' ⟨rfl, rfl⟩
  go_wp2_with fail
  refine HS.out.mono ?_
  rintro e w' ⟨rfl, rfl⟩
  go_wp2_with fail
  refine HS.out.mono ?_
  rintro e w' ⟨rfl, rfl⟩
  go_wp2_with fail
  go_ret2
  refine ⟨rfl, ⟨none, 0, ?_, Kd.R_nil _ _ _ _ _⟩, (Fr.refl _ _).alloc _, by simp⟩
  have h3 := Mem.alloc_new w' (.cells #[.pointer (some ⟨b, 0, none⟩), .int .i64 x, .int .i64 y, .int .i64 0, .slice none 0 0] 47)
  rw [h3]
  unfold tBlk newT
  simp only [Int.toNat_of_nonneg HX.out.1, Int.toNat_of_nonneg HX.out.2.1]
  rfl
set_option maxRecDepth 100000 in
theorem stage_New.out (b : Nat) (d : DS) (x y : Int) (w : World) (h : IsD w b d) (hn : 1 ≤ d.n) (hx : ¬(0 ≤ x ∧ 0 ≤ y ∧ x ≤ d.n ∧ y ≤ d.n - x)) :
    Calls Try.prog 15 #[.pointer (some ⟨b, 0, none⟩), .int .i64 x, .int .i64 y] w fun e w' => e = .returned (.tuple #[.pointer none, .int .i64 1]) ∧ w' = w := by
  have H := Aside0.mk h
  have hu := Try.underlying47
  have HS := disk_Size.calls b d w h
  obtain ⟨m, hm⟩ : ∃ m : Int, (d.n : Int) = m := ⟨_, rfl⟩
  rw [hm] at HS hx
  have c0 : (m == 0) = false := by simp; omega
  have HS := Aside0.mk HS
  have HM := Aside0.mk (show 0 ≤ m ∧ m ≤ 1024 by have := h.2.2.2; omega)
  obtain ⟨t1, c1⟩ : ∃ t : Bool, decide (y < 0) = t := ⟨_, rfl⟩
  obtain ⟨t2, c2⟩ : ∃ t : Bool, decide (x < 0) = t := ⟨_, rfl⟩
  obtain ⟨t3, c3⟩ : ∃ t : Bool, decide (x > m) = t := ⟨_, rfl⟩
  obtain ⟨t4, c4⟩ : ∃ t : Bool, decide (y > wrap64 (m - x)) = t := ⟨_, rfl⟩
  have HT : Aside0 ((t1 || t2 || t3 || t4) = true) := ⟨by
    rw [← c1, ← c2, ← c3, ← c4]
    simp only [Bool.or_eq_true, decide_eq_true_eq]
    by_cases hb : x < 0 ∨ x > m
    · omega
    · have : wrap64 (m - x) = m - x := by have := h.2.2.2; unfold wrap64; omega
      rw [this]; omega⟩
  clear h hn hx hm
  cases t1 <;> cases t2 <;> cases t3 <;> cases t4
  case false.false.false.false => exact absurd HT.out (by decide)
  all_goals (
    go_enter Try.func15, Try.ntmps15
    go_wp2_with fail
    (repeat (refine HS.out.mono ?_; rintro e w' ⟨rfl, rfl⟩; go_wp2_with fail))
    go_ret2
    exact ⟨rfl, rfl⟩)
end Go.Proofs.Ytbkpcepnhjnpgaa.X
