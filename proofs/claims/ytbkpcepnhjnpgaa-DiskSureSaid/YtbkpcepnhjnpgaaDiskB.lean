/- Disks in memory: what a disk's blocks hold; is, Size, able, World. -/
import Derived.Test.YtbkpcepnhjnpgaaWorldB
import Derived.Maps.Views
namespace Go.Proofs.Ytbkpcepnhjnpgaa.X
open Go.RowKit Go.Maps Go.Proofs.YtbkpcepnhjnpgaaW.PrintWords Go.Proofs.YtbkpcepnhjnpgaaW.PrintLast Go.Proofs.YtbkpcepnhjnpgaaW.PrintMore
set_option linter.unusedVariables false
set_option linter.unusedSimpArgs false
/-- How a sector reads as an element of a map. -/
def secR (v : Value) : Option (DataW Value × List MemPlace) :=
  match v with
  | .agg cs => if cs.size = 64 then some (.held v, []) else none
  | _ => none
theorem secR_mk (cs : Array Value) (h : cs.size = 64) : secR (.agg cs) = some (.held (.agg cs), []) := by simp [secR, h]
theorem secR_inv {v : Value} {z : DataW Value × List MemPlace} (h : secR v = some z) : ∃ cs, v = .agg cs ∧ cs.size = 64 ∧ z = (.held (.agg cs), []) := by
  unfold secR at h
  cases v <;> simp at h
  obtain ⟨h1, rfl⟩ := h
  exact ⟨_, rfl, h1, rfl⟩
/-- A sector's cells. -/
def secC (xs : List Int) : Array Value := (xs.map (Value.int .u8)).toArray
theorem secC_size (xs : List Int) : (secC xs).size = xs.length := by simp [secC]
theorem secC_inj {xs ys : List Int} (h : secC xs = secC ys) : xs = ys := by
  have h1 := congrArg Array.toList h
  simp only [secC] at h1
  exact (List.map_inj_right (fun a b h => by injection h)).mp h1
/-- A disk: its blocks, how many sectors, what is sure, what waits, how many writes since. -/
structure DS where
  bw : Nat
  bs : Nat
  bm : Nat
  n : Nat
  sure : Nat → List Int
  wait : Nat → Option (List Int)
  cnt : Nat
def DS.now (d : DS) (i : Nat) : List Int := (d.wait i).getD (d.sure i)
def dkey (i : Nat) : Lit := .int .i64 (i : Int)
/-- What a map has at a sector. -/
def WaitAt (D : DataW Value) (i : Nat) : Option (List Int) → Prop
  | none => has D (dkey i) = false
  | some xs => has D (dkey i) = true ∧ (∀ z, D.atKey (dkey i) z = .held (.agg (secC xs))) ∧ xs.length = 64
def Sure (w : World) (bs n : Nat) (sure : Nat → List Int) : Prop :=
  ∃ arr, w.heap[bs]? = some (.cells arr 124 (0, 0)) ∧ arr.size = 64 * n ∧ (∀ i, i < n → ∀ j, j < 64 → arr[i * 64 + j]? = some (.int .u8 ((sure i).getD j 0))) ∧ ∀ i, i < n → (sure i).length = 64
def Waits (w : World) (bm n cnt : Nat) (wait : Nat → Option (List Int)) : Prop :=
  ∃ D : DataW Value, w.ownsMap Try.prog 3 secR bm cnt D ∧ (∀ i, i < n → WaitAt D i (wait i)) ∧ ∀ kl, has D kl = true → ∃ i, i < n ∧ kl = dkey i
def IsD (w : World) (bd : Nat) (d : DS) : Prop :=
  w.heap[bd]? = some (.cells #[.pointer (some ⟨d.bw, 0, none⟩), .slice (some ⟨d.bs, 0, none⟩) d.n d.n, .map (some d.bm)] 81 (0, 0)) ∧ Sure w d.bs d.n d.sure ∧ Waits w d.bm d.n d.cnt d.wait ∧ d.n ≤ 1024
theorem Sure.kept {P : Nat → Prop} {a b : World} {g n : Nat} {s : Nat → List Int} (hi : Sure a g n s) (h : Fr P a b) (hp : P g) : Sure b g n s := by
  obtain ⟨arr, h1, h2⟩ := hi
  exact ⟨arr, h.kept h1 hp, h2⟩
theorem Waits.kept {P : Nat → Prop} {a b : World} {g n c : Nat} {s : Nat → Option (List Int)} (hi : Waits a g n c s) (h : Fr P a b) (hp : P g) : Waits b g n c s := by
  obtain ⟨D, ⟨es, clock, h1, h2⟩, h3⟩ := hi
  exact ⟨D, ⟨es, clock, h.kept h1 hp, h2⟩, h3⟩
theorem IsD.kept {P : Nat → Prop} {a b : World} {g : Nat} {d : DS} (hi : IsD a g d) (h : Fr P a b) (hp : P g) (hs : P d.bs) (hm : P d.bm) : IsD b g d :=
  ⟨h.kept hi.1 hp, hi.2.1.kept h hs, hi.2.2.1.kept h hm, hi.2.2.2⟩
theorem Sure.lt {a : World} {g n : Nat} {s : Nat → List Int} (hi : Sure a g n s) : g < a.heap.size := by
  obtain ⟨arr, h1, _⟩ := hi
  exact (Array.getElem?_eq_some_iff.1 h1).1
theorem Waits.lt {a : World} {g n c : Nat} {s : Nat → Option (List Int)} (hi : Waits a g n c s) : g < a.heap.size := by
  obtain ⟨D, h, _⟩ := hi
  exact h.lt
theorem IsD.lt {a : World} {g : Nat} {d : DS} (hi : IsD a g d) : g < a.heap.size := (Array.getElem?_eq_some_iff.1 hi.1).1
set_option maxRecDepth 100000 in
theorem disk_is.calls (b bw : Nat) (x y : Value) (w : World) (h : w.heap[b]? = some (.cells #[.pointer (some ⟨bw, 0, none⟩), x, y] 81 (0, 0))) : Calls Try.prog 76 #[.pointer (some ⟨b, 0, none⟩)] w fun e w' => e = .returned (.bool true) ∧ w' = w := by
  have h0 : w.cell? ⟨b, 0, none⟩ = some (.pointer (some ⟨bw, 0, none⟩)) := (blk_cell h 0).trans rfl
  have hu := Try.underlying81
  clear h
  go_enter Try.func76, Try.ntmps76
  go_wp2_with fail
  go_ret
  exact ⟨rfl, rfl⟩
set_option maxRecDepth 100000 in
theorem disk_is.nil (w : World) : Calls Try.prog 76 #[.pointer none] w fun e w' => e = .returned (.bool false) ∧ w' = w := by
  go_enter Try.func76, Try.ntmps76
  go_wp2_with fail
  go_ret
  exact ⟨rfl, rfl⟩
set_option maxRecDepth 100000 in
theorem disk_is.none (b : Nat) (w : World) (h0 : w.cell? ⟨b, 0, none⟩ = some (.pointer none)) : Calls Try.prog 76 #[.pointer (some ⟨b, 0, none⟩)] w fun e w' => e = .returned (.bool false) ∧ w' = w := by
  have hu := Try.underlying81
  go_enter Try.func76, Try.ntmps76
  go_wp2_with fail
  go_ret
  exact ⟨rfl, rfl⟩
set_option maxRecDepth 100000 in
theorem disk_Size.calls (b : Nat) (d : DS) (w : World) (h : IsD w b d) : Calls Try.prog 41 #[.pointer (some ⟨b, 0, none⟩)] w fun e w' => e = .returned (.int .i64 (d.n : Int)) ∧ w' = w := by
  have H := Aside0.mk h
  have h1 : w.cell? ⟨b, 1, none⟩ = some (.slice (some ⟨d.bs, 0, none⟩) d.n d.n) := (blk_cell h.1 1).trans rfl
  have hu := Try.underlying81
  clear h
  go_enter Try.func41, Try.ntmps41
  go_wp2_with fail
  refine (disk_is.calls b _ _ _ w H.out.1).mono ?_
  rintro e w' ⟨rfl, rfl⟩
  go_wp2_with fail
  go_ret
  exact ⟨rfl, rfl⟩
set_option maxRecDepth 100000 in
theorem disk_Size.bad (p : Value) (w : World) (h : Calls Try.prog 76 #[p] w fun e w' => e = .returned (.bool false) ∧ w' = w) : Calls Try.prog 41 #[p] w fun e w' => e = .returned (.int .i64 0) ∧ w' = w := by
  have H := Aside0.mk h
  clear h
  go_enter Try.func41, Try.ntmps41
  go_wp2_with fail
  refine H.out.mono ?_
  rintro e w' ⟨rfl, rfl⟩
  go_wp2_with fail
  go_ret
  exact ⟨rfl, rfl⟩
set_option maxRecDepth 100000 in
theorem disk_able.bad (p : Value) (i : Int) (w : World) (h : Calls Try.prog 76 #[p] w fun e w' => e = .returned (.bool false) ∧ w' = w) : Calls Try.prog 77 #[p, .int .i64 i] w fun e w' => e = .returned (.int .i64 9) ∧ w' = w := by
  have H := Aside0.mk h
  clear h
  go_enter Try.func77, Try.ntmps77
  go_wp2_with fail
  refine H.out.mono ?_
  rintro e w' ⟨rfl, rfl⟩
  go_wp2_with fail
  go_ret
  exact ⟨rfl, rfl⟩
def ableD (d : DS) (i : Int) : Int := if i < 0 ∨ (d.n : Int) ≤ i then 1 else 0
set_option maxRecDepth 100000 in
theorem disk_able.calls (b : Nat) (d : DS) (i : Int) (w : World) (h : IsD w b d) : Calls Try.prog 77 #[.pointer (some ⟨b, 0, none⟩), .int .i64 i] w fun e w' => e = .returned (.int .i64 (ableD d i)) ∧ w' = w := by
  have H := Aside0.mk h
  have h1 : w.cell? ⟨b, 1, none⟩ = some (.slice (some ⟨d.bs, 0, none⟩) d.n d.n) := (blk_cell h.1 1).trans rfl
  have hu := Try.underlying81
  clear h
  obtain ⟨t1, ht1⟩ : ∃ t : Bool, decide (i < 0) = t := ⟨_, rfl⟩
  obtain ⟨t2, ht2⟩ : ∃ t : Bool, decide ((d.n : Int) ≤ i) = t := ⟨_, rfl⟩
  have c2 : decide (i ≥ (d.n : Int)) = t2 := ht2
  have HA : Aside0 (ableD d i = if t1 || t2 then 1 else 0) := ⟨by rw [← ht1, ← ht2]; unfold ableD; simp⟩
  cases t1 <;> cases t2 <;> (
    go_enter Try.func77, Try.ntmps77
    go_wp2_with fail
    refine (disk_is.calls b _ _ _ w H.out.1).mono ?_
    rintro e w' ⟨rfl, rfl⟩
    go_wp2_with fail
    go_ret
    exact ⟨by rw [HA.out]; rfl, rfl⟩)
end Go.Proofs.Ytbkpcepnhjnpgaa.X
