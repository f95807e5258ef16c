/- Worlds in memory: the contracts of world.New, Made, Step, Dead. -/
import Derived.Test.YtbkpcepnhjnpgaaX0
import Derived.Test.YtbkpcepnhjnpgaaMem2
import Derived.Lib.Hide
import Derived.Maps.Own
import Derived.Maps.OwnSet
import Derived.WalkSpells
namespace Go.Proofs.Ytbkpcepnhjnpgaa.X
open Go.RowKit Go.Proofs.YtbkpcepnhjnpgaaW.PrintWords Go.Proofs.YtbkpcepnhjnpgaaW.PrintLast Go.Proofs.YtbkpcepnhjnpgaaW.PrintMore
set_option linter.unusedVariables false
set_option linter.unusedSimpArgs false
/-- What stays: the blocks of which P tells so. -/
structure Fr (P : Nat → Prop) (w w' : World) : Prop where
  os : w'.os = w.os
  tape : w'.tape = w.tape
  output : w'.output = w.output
  size : w.heap.size ≤ w'.heap.size
  block : ∀ k, k < w.heap.size → P k → w'.heap[k]? = w.heap[k]?
theorem Fr.refl (P : Nat → Prop) (w : World) : Fr P w w := ⟨rfl, rfl, rfl, Nat.le_refl _, fun _ _ _ => rfl⟩
theorem Fr.trans {P : Nat → Prop} {a b c : World} (h : Fr P a b) (k : Fr P b c) : Fr P a c :=
  ⟨k.os.trans h.os, k.tape.trans h.tape, k.output.trans h.output, Nat.le_trans h.size k.size, fun i hi hp => (k.block i (Nat.lt_of_lt_of_le hi h.size) hp).trans (h.block i hi hp)⟩
theorem Fr.mono {P Q : Nat → Prop} {a b : World} (h : Fr P a b) (hq : ∀ k, k < a.heap.size → Q k → P k) : Fr Q a b := ⟨h.os, h.tape, h.output, h.size, fun i hi hp => h.block i hi (hq i hi hp)⟩
theorem Fr.step {P Q : Nat → Prop} {a b c : World} (h : Fr P a b) (k : Fr Q b c) (hq : ∀ i, i < a.heap.size → P i → Q i) : Fr P a c :=
  ⟨k.os.trans h.os, k.tape.trans h.tape, k.output.trans h.output, Nat.le_trans h.size k.size, fun i hi hp => (k.block i (Nat.lt_of_lt_of_le hi h.size) (hq i hi hp)).trans (h.block i hi hp)⟩
theorem Fr.alloc {P : Nat → Prop} {a b : World} (h : Fr P a b) (o : Obj) : Fr P a (b.alloc o) :=
  h.trans ⟨rfl, rfl, rfl, by simp, fun k hk _ => Below.heap_alloc _ _ _ hk⟩
theorem Fr.drew {P : Nat → Prop} {a b : World} (h : Fr P a b) : Fr P a b.drew := ⟨h.os, h.tape, h.output, h.size, h.block⟩
theorem Fr.set {P : Nat → Prop} {a b : World} (h : Fr P a b) {p : Addr} (hp : ¬ P p.block ∨ a.heap.size ≤ p.block) (u : Value) : Fr P a (b.setCell p u) :=
  ⟨h.os, h.tape, h.output, by simpa [World.setCell] using h.size, fun i hi hpi => (Below.heap_setCell _ _ _ _ (fun e => hp.elim (fun h1 => h1 (e ▸ hpi)) (fun h1 => by omega))).trans (h.block i hi hpi)⟩
theorem Fr.of_below {P : Nat → Prop} {a b : World} {n : Nat} (h : Below n a b) (hn : ∀ k, k < a.heap.size → P k → k < n) : Fr P a b := ⟨h.os, h.tape, h.output, h.size, fun i hi hp => h.block i (hn i hi hp)⟩
theorem Fr.of_grown {a b : World} {row : Option Nat} (h : a.grownBy b row) : Fr (fun k => some k ≠ row) a b := ⟨h.os, h.tape, h.output, h.size, fun i hi hp => h.block i hi hp⟩
theorem Fr.below {P : Nat → Prop} {a b : World} (h : Fr P a b) {n : Nat} (hn : ∀ k, k < n → P k) (hs : n ≤ a.heap.size) : Below n a b := ⟨h.os, h.tape, h.output, h.size, fun i hi => h.block i (by omega) (hn i hi)⟩
theorem Fr.kept {P : Nat → Prop} {a b : World} (h : Fr P a b) {k : Nat} {o : Obj} (hk : a.heap[k]? = some o) (hp : P k) : b.heap[k]? = some o :=
  (h.block k (Array.getElem?_eq_some_iff.1 hk).1 hp).trans hk
/-- A world's block. -/
structure WS where
  m : Nat
  fv : Value
  fuse : Int
  dead : Bool
  steps : Int
  asked : Int
def IsW (w : World) (b : Nat) (s : WS) : Prop := w.heap[b]? = some (.cells #[.map (some s.m), s.fv, .int .i64 s.fuse, .bool s.dead, .int .i64 s.steps, .int .i64 s.asked] 52 (0, 0))
theorem IsW.kept {P : Nat → Prop} {a b : World} {g : Nat} {s : WS} (hi : IsW a g s) (h : Fr P a b) (hp : P g) : IsW b g s := h.kept hi hp
theorem IsW.lt {a : World} {g : Nat} {s : WS} (hi : IsW a g s) : g < a.heap.size := (Array.getElem?_eq_some_iff.1 hi).1
theorem neq_objs (w : World) (m : Option Nat) : (binOp .neq 49 (.map m) (.map none)).run Try.prog w = .ok (.bool (!m.isNone)) w := run_neq_map_nil w _ _ _ m Try.underlying49
set_option maxRecDepth 100000 in
theorem world_is.calls (b : Nat) (s : WS) (w : World) (h : IsW w b s) : Calls Try.prog 68 #[.pointer (some ⟨b, 0, none⟩)] w fun e w' => e = .returned (.bool true) ∧ w' = w := by
  have h0 : w.cell? ⟨b, 0, none⟩ = some (.map (some s.m)) := (blk_cell h 0).trans rfl
  have hq := neq_objs
  have hu := Try.underlying52
  clear h
  go_enter Try.func68, Try.ntmps68
  go_wp2_with fail
  go_ret
  exact ⟨rfl, rfl⟩
set_option maxRecDepth 100000 in
theorem world_is.nil (w : World) : Calls Try.prog 68 #[.pointer none] w fun e w' => e = .returned (.bool false) ∧ w' = w := by
  go_enter Try.func68, Try.ntmps68
  go_wp2_with fail
  go_ret
  exact ⟨rfl, rfl⟩
set_option maxRecDepth 100000 in
theorem world_is.none (b : Nat) (w : World) (h0 : w.cell? ⟨b, 0, none⟩ = some (.map none)) : Calls Try.prog 68 #[.pointer (some ⟨b, 0, none⟩)] w fun e w' => e = .returned (.bool false) ∧ w' = w := by
  have hq := neq_objs
  have hu := Try.underlying52
  go_enter Try.func68, Try.ntmps68
  go_wp2_with fail
  go_ret
  exact ⟨rfl, rfl⟩
set_option maxRecDepth 100000 in
theorem world_Made.all (p : Value) (r : Bool) (w : World) (h : Calls Try.prog 68 #[p] w fun e w' => e = .returned (.bool r) ∧ w' = w) : Calls Try.prog 58 #[p] w fun e w' => e = .returned (.bool r) ∧ w' = w := by
  have H := Aside0.mk h
  clear h
  go_enter Try.func58, Try.ntmps58
  go_wp2_with fail
  refine H.out.mono ?_
  rintro e w' ⟨rfl, rfl⟩
  go_wp2_with fail
  go_ret
  exact ⟨rfl, rfl⟩
def stepW (s : WS) : WS :=
  if s.fuse > 0 then { s with steps := wrap64 (s.steps + 1), fuse := wrap64 (s.fuse - 1), dead := wrap64 (s.fuse - 1) == 0 } else { s with steps := wrap64 (s.steps + 1) }
set_option maxRecDepth 100000 in
theorem world_Step.calls (b : Nat) (s : WS) (w : World) (h : IsW w b s) (hd : s.dead = false) :
    Calls Try.prog 57 #[.pointer (some ⟨b, 0, none⟩)] w fun e w' => e = .returned (.int .i64 0) ∧ IsW w' b (stepW s) ∧ Fr (fun k => k ≠ b) w w' ∧ w'.heap.size = w.heap.size := by
  have H := Aside0.mk h
  have h3 : w.cell? ⟨b, 3, none⟩ = some (.bool false) := (blk_cell h 3).trans (by rw [← hd]; rfl)
  have h4 : w.cell? ⟨b, 4, none⟩ = some (.int .i64 s.steps) := (blk_cell h 4).trans rfl
  have h2 : w.cell? ⟨b, 2, none⟩ = some (.int .i64 s.fuse) := (blk_cell h 2).trans rfl
  have f4 := blk_frozen h 4
  have f2 := blk_frozen h 2
  have f3 := blk_frozen h 3
  have hu := Try.underlying52
  clear h
  by_cases hf : s.fuse > 0
  · have c1 : decide (s.fuse > 0) = true := decide_eq_true hf
    have HF := Aside0.mk hf
    clear hf
    go_enter Try.func57, Try.ntmps57
    go_wp2_with fail
    refine (world_is.calls b s w H.out).mono ?_
    rintro e w' ⟨rfl, rfl⟩
    go_wp2_with fail
    go_ret
    refine ⟨rfl, ?_, ((((Fr.refl _ _).set (.inl (fun h => h rfl)) _).set (.inl (fun h => h rfl)) _).set (.inl (fun h => h rfl)) _), by simp [World.setCell]⟩
    have h5 := blk_set (blk_set (blk_set H.out 4 (.int .i64 (wrap64 (s.steps + 1)))) 2 (.int .i64 (wrap64 (s.fuse - 1)))) 3 (.bool (wrap64 (s.fuse - 1) == 0))
    unfold IsW stepW
    rw [if_pos HF.out]
    simpa using h5
  · have c1 : decide (s.fuse > 0) = false := decide_eq_false hf
    have HF := Aside0.mk hf
    clear hf
    go_enter Try.func57, Try.ntmps57
    go_wp2_with fail
    refine (world_is.calls b s w H.out).mono ?_
    rintro e w' ⟨rfl, rfl⟩
    go_wp2_with fail
    go_ret
    refine ⟨rfl, ?_, ((Fr.refl _ _).set (.inl (fun h => h rfl)) _), by simp [World.setCell]⟩
    have h5 := blk_set H.out 4 (.int .i64 (wrap64 (s.steps + 1)))
    unfold IsW stepW
    rw [if_neg (by have := HF.out; omega)]
    simpa [hd] using h5
set_option maxRecDepth 100000 in
theorem world_Step.dead (b : Nat) (s : WS) (w : World) (h : IsW w b s) (hd : s.dead = true) :
    Calls Try.prog 57 #[.pointer (some ⟨b, 0, none⟩)] w fun e w' => e = .returned (.int .i64 8) ∧ w' = w := by
  have H := Aside0.mk h
  have h3 : w.cell? ⟨b, 3, none⟩ = some (.bool true) := (blk_cell h 3).trans (by rw [← hd]; rfl)
  have hu := Try.underlying52
  clear h hd
  go_enter Try.func57, Try.ntmps57
  go_wp2_with fail
  refine (world_is.calls b s w H.out).mono ?_
  rintro e w' ⟨rfl, rfl⟩
  go_wp2_with fail
  go_ret
  exact ⟨rfl, rfl⟩
set_option maxRecDepth 100000 in
theorem world_Step.bad (p : Value) (w : World) (h : Calls Try.prog 68 #[p] w fun e w' => e = .returned (.bool false) ∧ w' = w) :
    Calls Try.prog 57 #[p] w fun e w' => e = .returned (.int .i64 9) ∧ w' = w := by
  have H := Aside0.mk h
  clear h
  go_enter Try.func57, Try.ntmps57
  go_wp2_with fail
  refine H.out.mono ?_
  rintro e w' ⟨rfl, rfl⟩
  go_wp2_with fail
  go_ret
  exact ⟨rfl, rfl⟩
set_option maxRecDepth 100000 in
theorem world_Dead.calls (b : Nat) (s : WS) (w : World) (h : IsW w b s) :
    Calls Try.prog 59 #[.pointer (some ⟨b, 0, none⟩)] w fun e w' => e = .returned (.bool s.dead) ∧ w' = w := by
  have H := Aside0.mk h
  have h3 : w.cell? ⟨b, 3, none⟩ = some (.bool s.dead) := (blk_cell h 3).trans rfl
  have hu := Try.underlying52
  clear h
  go_enter Try.func59, Try.ntmps59
  go_wp2_with fail
  refine (world_is.calls b s w H.out).mono ?_
  rintro e w' ⟨rfl, rfl⟩
  go_wp2_with fail
  go_ret
  exact ⟨rfl, rfl⟩
set_option maxRecDepth 100000 in
theorem world_Dead.bad (p : Value) (w : World) (h : Calls Try.prog 68 #[p] w fun e w' => e = .returned (.bool false) ∧ w' = w) :
    Calls Try.prog 59 #[p] w fun e w' => e = .returned (.bool false) ∧ w' = w := by
  have H := Aside0.mk h
  clear h
  go_enter Try.func59, Try.ntmps59
  go_wp2_with fail
  refine H.out.mono ?_
  rintro e w' ⟨rfl, rfl⟩
  go_wp2_with fail
  go_ret
  exact ⟨rfl, rfl⟩
def newW (m : Nat) : WS := ⟨m, .slice none 0 0, -1, false, 0, 0⟩
set_option maxRecDepth 100000 in
theorem world_New.calls (w : World) :
    Calls Try.prog 14 #[] w fun e w' => e = .returned (.pointer (some ⟨w.heap.size + 1, 0, none⟩)) ∧ IsW w' (w.heap.size + 1) (newW w.heap.size) ∧ w'.heap[w.heap.size]? = some (.map #[] 0) ∧ Fr (fun _ => True) w w' ∧ w'.heap.size = w.heap.size + 2 := by
  have hmm := @run_makeMap Try.prog
  have hu := Try.underlying52
  go_enter Try.func14, Try.ntmps14
  go_wp2_with fail
  go_ret
  refine ⟨rfl, ?_, ?_, ((Fr.refl _ _).alloc _).alloc _, by simp⟩
  · have h := Mem.alloc_new (w.alloc (.map #[] 0)) (.cells #[.map (some w.heap.size), .slice none 0 0, .int .i64 (-1), .bool false, .int .i64 0, .int .i64 0] 52)
    rw [Mem.alloc_size] at h
    exact h
  · exact Mem.alloc_old (Mem.alloc_new _ _)
end Go.Proofs.Ytbkpcepnhjnpgaa.X
