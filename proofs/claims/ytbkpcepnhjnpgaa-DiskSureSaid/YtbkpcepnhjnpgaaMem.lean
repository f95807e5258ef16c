/- Small facts on memory, for contracts that are proved by hand: rows in blocks that the call has just made. -/
import Derived.Test.YtbkpcepnhjnpgaaWMore
namespace Go.Proofs.Ytbkpcepnhjnpgaa.Mem
open Go.RowKit Go.Proofs.YtbkpcepnhjnpgaaW.PrintWords Go.Proofs.YtbkpcepnhjnpgaaW.PrintLast Go.Proofs.YtbkpcepnhjnpgaaW.PrintMore
set_option linter.unusedVariables false
/-- A row of numbers that fills the first cells of a block. -/
theorem C_ints {w : World} {b : Nat} {arr : Array Value} {e : TypeId} {fr : Nat × Nat} {k : IntKind} {xs : List Int} (hb : w.heap[b]? = some (.cells arr e fr))
    (h : ∀ i, i < xs.length → arr[i]? = some (.int k (xs.getD i 0))) (hn : xs.length ≤ 9223372036854775807) : Kd.C (Kd.int k) w (some ⟨b, 0, none⟩) xs.length xs := by
  refine ⟨rfl, hn, fun _ => ⟨_, rfl, fun j p hj => ⟨[.int k p], rfl, rfl, fun i u hu => ?_⟩⟩⟩
  have hjl := (List.getElem?_eq_some_iff.1 hj).1
  have hp : xs.getD j 0 = p := by rw [List.getD_eq_getElem?_getD, hj]; rfl
  match i, hu with
  | 0, hu =>
    rw [add_plain]
    have h1 := cell_of_row w b (j * (Kd.int k).sz + 0) arr e fr hb
    rw [h1]
    have h2 := h j hjl
    rw [hp] at h2
    have : j * (Kd.int k).sz + 0 = j := by show j * 1 + 0 = j; omega
    rw [this, h2]
    simpa using hu
  | i + 1, hu => simp at hu
/-- A row of one slice. -/
theorem C_one {α : Type} {d : Kd α} {q : Nat} {w : World} {b : Nat} {arr : Array Value} {e : TypeId} {fr : Nat × Nat} {A : Option Addr} {c : Nat} {xs : List α} (hb : w.heap[b]? = some (.cells arr e fr))
    (h0 : arr[0]? = some (.slice A xs.length c)) (hc : xs.length ≤ c) (hr : Kd.C d w A xs.length xs) : Kd.C (Kd.slice q d) w (some ⟨b, 0, none⟩) 1 [xs] := by
  refine ⟨rfl, by omega, fun _ => ⟨_, rfl, fun j p hj => ?_⟩⟩
  match j, hj with
  | 0, hj =>
    obtain rfl : xs = p := by simpa using hj
    refine ⟨[.slice A xs.length c], rfl, ⟨A, c, rfl, hc, hr⟩, fun i u hu => ?_⟩
    match i, hu with
    | 0, hu =>
      rw [add_plain]
      have h1 := cell_of_row w b (0 * (Kd.slice q d).sz + 0) arr e fr hb
      rw [h1, show 0 * (Kd.slice q d).sz + 0 = 0 by omega, h0]
      simpa using hu
    | i + 1, hu => simp at hu
  | j + 1, hj => simp at hj
/-- Two bytes, and one, in a block that was just made. -/
theorem C_pair (w : World) {e : TypeId} (a b : Int) : Kd.C (Kd.int .u8) (w.alloc (.cells #[.int .u8 a, .int .u8 b] e)) (some ⟨w.heap.size, 0, none⟩) [a, b].length [a, b] :=
  C_ints (heap_alloc_new w _) (fun i hi => match i, hi with | 0, _ | 1, _ => rfl) (by simp)
theorem C_single (w : World) {e : TypeId} (a : Int) : Kd.C (Kd.int .u8) (w.alloc (.cells #[.int .u8 a] e)) (some ⟨w.heap.size, 0, none⟩) [a].length [a] :=
  C_ints (heap_alloc_new w _) (fun i hi => match i, hi with | 0, _ => rfl) (by simp)
theorem alloc_new (w : World) (o : Obj) : (w.alloc o).heap[w.heap.size]? = some o := heap_alloc_new w o
theorem alloc_old {w : World} {b : Nat} {o o' : Obj} (h : w.heap[b]? = some o) : (w.alloc o').heap[b]? = some o := blk_alloc h o'
theorem alloc_size (w : World) (o : Obj) : (w.alloc o).heap.size = w.heap.size + 1 := by simp
end Go.Proofs.Ytbkpcepnhjnpgaa.Mem
