/- A range over a function whose every round goes on: what the iterator knows of a thing that it yields is handed to the round. For whatever program. -/
import Derived.RangeFuncFrom
import Derived.RangeFuncSeq
namespace Go.Proofs.Ythcmokglgepgjaa.RangeT
open Go Go.RowKit
set_option linter.unusedVariables false
/-- Whatever is cells, or lies below B, lies as it lay. -/
def Turns (B : Nat) (W W' : World) : Prop :=
  W'.os = W.os ∧ W'.tape = W.tape ∧ W'.output = W.output ∧ W.heap.size ≤ W'.heap.size ∧ ∀ k o, W.heap[k]? = some o → (o.isCells = true ∨ k < B) → W'.heap[k]? = some o
theorem Turns.putObj {B : Nat} {W : World} {l : Nat} {o : Obj} (o' : Obj) (hl : W.heap[l]? = some o) (ho : o.isCells = false) (hB : B ≤ l) : Turns B W (W.putObj l o') :=
  ⟨rfl, rfl, rfl, by rw [World.putObj_size]; exact Nat.le_refl _, fun k o1 hk h => by
    have hne : k ≠ l := by rintro rfl; rw [hl] at hk; cases hk; rcases h with h | h; rw [ho] at h; cases h; omega
    exact (World.putObj_heap_other hne).trans hk⟩
theorem Turns.of_below {B : Nat} {W W' : World} (h : Below W.heap.size W W') : Turns B W W' :=
  ⟨h.os, h.tape, h.output, h.size, fun k o hk _ => (h.block k (Array.getElem?_eq_some_iff.1 hk).1).trans hk⟩
theorem Turns.below {B : Nat} {w W W' : World} (h : Turns B W W') (hb : Below B w W) (hB : B ≤ w.heap.size) : Below B w W' :=
  ⟨h.1.trans hb.os, h.2.1.trans hb.tape, h.2.2.1.trans hb.output, Nat.le_trans hb.size h.2.2.2.1, fun k hk => by
    have h1 := hb.block k hk
    have hlt : k < W.heap.size := Nat.lt_of_lt_of_le hk (Nat.le_trans hB hb.size)
    obtain ⟨o, ho⟩ : ∃ o, W.heap[k]? = some o := ⟨_, Array.getElem?_eq_getElem hlt⟩
    rw [h.2.2.2.2 k o ho (.inr hk), ← ho]; exact h1⟩
theorem wpIn_rangeT {α : Type} {F : Fence} {n : Nat} {P : Program} {g : Operand} {ps : Array Tmp} {assign body : Code} {Q : Exit → Act → World → Prop} {a : Act} {w : World}
    (hro : F.round = none) (h1 : 1 ≤ n) {gf : Nat} {lb : Array Value} (hg : a.eval g = .func (.func gf) #[] lb) (hFg : F.fn gf) (eg : ∀ args w, (callFunc gf args).run P w = .ok (.enter gf args) w)
    (encs : α → Array Value) (hps : ∀ x, (encs x).size = ps.size) (S : List α → Prop) (I : List α → World → Prop) (T : List α → α → World → Prop)
    (hI : ∀ l W W', Turns w.heap.size W W' → I l W → I l W') (hT : ∀ pre x W W', Turns w.heap.size W W' → T pre x W → T pre x W') (h0 : I [] w) (a₁ : α → Act)
    (hassign : ∀ (l : Nat) (x : α) (W : World) (K : Act → World → Prop), K (a₁ x) W →
      assign.wpIn (F.inRound l) (n - 1 - 1) P (Exit.then K (fun _ _ _ => False)) { tmps := (ps.zip (encs x)).foldl (fun t (p, v) => t.setIfInBounds p v) a.tmps, defers := [] } W)
    (hbody : ∀ (l : Nat) (pre : List α) (x : α) (W : World), I pre W → T pre x W → body.wpIn (F.inRound l) (n - 1 - 1) P (fun e _ W' => e = .normal ∧ KeepsOthers W W' ∧ I (pre ++ [x]) W') (a₁ x) W)
    (hiter : ∀ (l : Nat) (J : List α → World → Prop) (W : World), (∀ pre W, J pre W → I pre W) → (∀ pre W W', Below W.heap.size W W' → J pre W → J pre W') → J [] W →
      (∀ pre x W1, J pre W1 → T pre x W1 → YieldAt F (n - 1 - 1) P l (encs x) W1 fun e W' => e = .returned (.bool true) ∧ J (pre ++ [x]) W') →
      CallsIn F (n - 1) P gf (#[.func (.yield l) #[] #[]] ++ lb) W fun e W' => (∃ v, e = .returned v) ∧ ∃ xs, S xs ∧ J xs W')
    (hdone : ∀ (D : Nat) (xs : List α) (W : World), w.heap.size ≤ D → S xs → I xs W → W.heap[D]? = some (.deferred (some [])) → Q .normal { a with defers := { target := .collected D, args := #[] } :: a.defers } W) :
    (Code.rangeFunc g ps assign body).wpIn F n P Q a w := by
  refine wpIn_rangeFunc fun fn hfn => ?_
  rw [hro]
  -- the two blocks that the loop lays: the rounds' deferred calls at D, the loop's record at L
  have hD : w.heap.size < w.heap.size + 1 := Nat.lt_succ_self _
  generalize hst : (fun (st : LoopState) => Obj.loop { state := st, pending := none, fn := fn, tmps := a.tmps, params := ps, assign := assign, body := body, defers := w.heap.size }) = rec
  have hrec : ∀ st, rec st = Obj.loop { state := st, pending := none, fn := fn, tmps := a.tmps, params := ps, assign := assign, body := body, defers := w.heap.size } := fun st => by rw [← hst]
  have hnc : ∀ st, (rec st).isCells = false := fun st => by rw [hrec]; rfl
  generalize hW0 : (w.alloc (.deferred (some []))).alloc (rec .ready) = W0
  have hL0 : W0.heap[w.heap.size + 1]? = some (rec .ready) := by
    rw [← hW0]; have := World.alloc_heap_new (w.alloc (.deferred (some []))) (rec .ready); rwa [World.size_alloc] at this
  have hD0 : W0.heap[w.heap.size]? = some (.deferred (some [])) := by
    rw [← hW0]; exact (Below.heap_alloc _ _ _ (by simp)).trans (World.alloc_heap_new w _)
  have hB0 : Below w.heap.size w W0 := by rw [← hW0]; exact ((Below.refl _ w).alloc (Nat.le_refl _) _).alloc (by simp) _
  -- what is kept: the caller's own, and the two blocks
  let J : List α → World → Prop := fun pre W => I pre W ∧ W.heap[w.heap.size + 1]? = some (rec .ready) ∧ W.heap[w.heap.size]? = some (.deferred (some []))
  have hJ0 : J [] W0 := ⟨hI _ _ _ (Turns.of_below hB0) h0, hL0, hD0⟩
  have hJB : ∀ pre W W', Below W.heap.size W W' → J pre W → J pre W' := fun pre W W' hb hj =>
    ⟨hI _ _ _ (Turns.of_below hb) hj.1, (hb.block _ (Array.getElem?_eq_some_iff.1 hj.2.1).1).trans hj.2.1, (hb.block _ (Array.getElem?_eq_some_iff.1 hj.2.2).1).trans hj.2.2⟩
  have hround : ∀ pre x W1, J pre W1 → T pre x W1 → YieldAt F (n - 1 - 1) P (w.heap.size + 1) (encs x) W1 fun e W' => e = .returned (.bool true) ∧ J (pre ++ [x]) W' := by
    rintro pre x W ⟨hi, hl, hd⟩ ht
    rw [hrec] at hl
    refine ⟨fn, _, assign, body, run_yield hl (hps x), roundIn_of_wpIn hfn (hassign _ x W _ ⟨_, run_beginRound hl rfl, ?_⟩)⟩
    have hlt : w.heap.size + 1 < W.heap.size := (Array.getElem?_eq_some_iff.1 hl).1
    have hl2 : (W.putObj (w.heap.size + 1) (rec .busy)).heap[w.heap.size + 1]? = some (rec .busy) := World.putObj_heap_same hlt
    have hd2 : (W.putObj (w.heap.size + 1) (rec .busy)).heap[w.heap.size]? = some (.deferred (some [])) := (World.putObj_heap_other (by omega)).trans hd
    have hT2 : Turns w.heap.size W (W.putObj (w.heap.size + 1) (rec .busy)) := Turns.putObj _ hl rfl (by omega)
    have hb := hbody (w.heap.size + 1) pre x _ (hI _ _ _ hT2 hi) (hT _ _ _ _ hT2 ht)
    rw [hrec] at hb
    refine wpIn_mono hb ?_
    rintro e a3 W3 ⟨rfl, hk, hi3⟩
    rw [← hrec] at hk
    have hl3 := hk.same _ _ hl2 (hnc _)
    have hd3 := hk.same _ _ hd2 rfl
    rw [hrec] at hl3
    refine ⟨_, _, run_endRound none hl3, rfl, hI _ _ _ (Turns.putObj _ hl3 rfl (by omega)) hi3, ?_, (World.putObj_heap_other (by omega)).trans hd3⟩
    rw [hrec]; exact World.putObj_heap_same (Array.getElem?_eq_some_iff.1 hl3).1
  refine ⟨w.heap.size + 1, [{ target := .collected w.heap.size, args := #[] }], W0, { target := .fn (.func gf) lb, args := #[.func (.yield (w.heap.size + 1)) #[] #[]] }, W0, gf,
    #[.func (.yield (w.heap.size + 1)) #[] #[]] ++ lb, W0, ?_, ?_, ?_, ?_, fun _ => h1, ?_⟩
  · rw [← hW0, hrec]; exact run_enterLoop_outer _ _ _ _ _
  · simp only [resolve, hg]
    simp [go_sem]
  · intro f' hf'; simp [Target.leads] at hf'; subst hf'; exact hFg
  · simp [invoke, go_sem, eg]
  · refine (hiter (w.heap.size + 1) J W0 (fun _ _ h => h.1) hJB hJ0 hround).mono ?_
    rintro e W2 ⟨⟨v, rfl⟩, xs, hS, hi, hl, hd⟩
    rw [hrec] at hl
    exact ⟨none, _, run_endLoop hl (by simp), hdone _ xs _ (Nat.le_refl _) hS (hI _ _ _ (Turns.putObj _ hl rfl (by omega)) hi) ((World.putObj_heap_other (by omega)).trans hd)⟩
end Go.Proofs.Ythcmokglgepgjaa.RangeT
