/- Steps of a walk whose world is a letter: new blocks, loads and stores of whole values. -/
import Derived.Test.YtbkpcepnhjnpgaaWorldB
import Derived.StillTailTactics
namespace Go.Proofs.Ytbkpcepnhjnpgaa.X
open Go.RowKit Go.Proofs.YtbkpcepnhjnpgaaW.PrintWords Go.Proofs.YtbkpcepnhjnpgaaW.PrintLast Go.Proofs.YtbkpcepnhjnpgaaW.PrintMore
set_option linter.unusedVariables false
set_option linter.unusedSimpArgs false
section
variable {P : Program} {ops : Array Oper} {rest : List Oper} {o : Oper} {a : Act} {Q : Exit → Act → World → Prop} {W : World}
theorem fr_alloc (W : World) (ob : Obj) (P : Nat → Prop) : Fr P W (W.alloc ob) := (Fr.refl P W).alloc ob
/-- 'var x T': a new block. -/
theorem wp_alloc_ (hgd : o.guard = none) (t : TypeId) (ho : o.op = .alloc t) (z : Value) (hz : (zeroValue t).run P W = .ok z W)
    (h : ∀ w1, w1.heap[W.heap.size]? = some (.cells z.cells t (0, 0)) → Fr (fun _ => True) W w1 → w1.heap.size = W.heap.size + 1 → wpList P ops Q rest (a.put o.dst (.pointer (some ⟨W.heap.size, 0, none⟩))) w1) : wpList P ops Q (o :: rest) a W := by
  refine wpList_plain hgd fun K hK => ?_
  have hrun : (Instr.alloc t true (.tuple #[])).run P W = .ok (.pointer (some ⟨W.heap.size, 0, none⟩)) (W.alloc (.cells z.cells t)) := by
    simp [Instr.alloc, hz, newVar, newRow, newObj, Sem.run, Result.andThen]
  unfold Oper.wp execOp
  simp only [ho, Sem.run_bind, Sem.run_pure, Result.andThen_ok, hrun]
  exact hK _ _ (h _ (Mem.alloc_new _ _) (fr_alloc _ _ _) (by simp))
/-- A load, told beforehand. -/
theorem wp_load_ (hgd : o.guard = none) (t : TypeId) (p : Operand) (ho : o.op = .load t p) (ad : Value) (v : Value) (haddr : a.eval p = ad) (hrun : (Instr.loadAt t ad).run P W = .ok v W) (h : wpList P ops Q rest (a.put o.dst v) W) : wpList P ops Q (o :: rest) a W := by
  refine wpList_plain hgd fun K hK => ?_
  unfold Oper.wp execOp
  simp only [ho, haddr, Sem.run_bind, Sem.run_pure, Result.andThen_ok, hrun]
  exact hK _ _ h
/-- A load, told beforehand, in a drawn region. -/
theorem st_load_ {Q : Act → Prop} (hgd : o.guard = none) (t : TypeId) (p : Operand) (ho : o.op = .load t p) (ad : Value) (v : Value) (haddr : a.eval p = ad) (hrun : (Instr.loadAt t ad).run P W = .ok v W) (h : wpStill P ops W Q rest (a.put o.dst v)) : wpStill P ops W Q (o :: rest) a := by
  refine wpStill_step (fun K hK => ?_)
  rw [if_pos (show Region.wanted o (yielded ops a.tmps) = true by simp [Region.wanted, hgd])]
  unfold Oper.still execOp
  simp only [ho, haddr, Sem.run_bind, Sem.run_pure, Result.andThen_ok, hrun]
  exact ⟨rfl, hK _ h⟩
/-- A store of a whole value. -/
theorem wp_store_ (hN : o.dst = none) (hgd : o.guard = none) (t : TypeId) (p x : Operand) (ho : o.op = .store t p x) {g of : Nat} {arr : Array Value} {e : TypeId} (u : Value) (seg : List Value) (haddr : a.eval p = .pointer (some ⟨g, of, none⟩)) (hx : a.eval x = u) (hu : u.cells.toList = seg)
    (hh : W.heap[g]? = some (.cells arr e (0, 0))) (ht : (P.info? t).map (·.size) = some seg.length) (hfit : of + seg.length ≤ arr.size) (h1 : ∀ q ∈ seg, q.oneCell' = true)
    (h : ∀ w1 arr', w1.heap[g]? = some (.cells arr' e (0, 0)) → arr'.size = arr.size → arr'.toList = arr.toList.take of ++ seg ++ arr.toList.drop (of + seg.length) → Fr (fun k => k ≠ g) W w1 → w1.heap.size = W.heap.size → wpList P ops Q rest a w1) : wpList P ops Q (o :: rest) a W := by
  have hrun := run_store_run (P := P) (w := W) (o := of) t u seg hh hu ht hfit h1
  obtain ⟨cur', h3, h4, h5⟩ := setCells_row seg of W arr hh hfit
  obtain ⟨s1, s2, s3, s4⟩ := setCells_same g seg of W
  refine wpList_plain hgd fun K hK => ?_
  unfold Oper.wp execOp
  simp only [ho, haddr, hx, Sem.run_bind, Sem.run_pure, Result.andThen_ok, hrun]
  show K (a.put o.dst undef) _
  rw [hN]
  exact hK _ _ (h _ cur' h3 h4 h5 ⟨s1, s2, s3, by rw [s4]; exact Nat.le_refl _, fun k _ hk => setCells_far _ _ k hk⟩ s4)
/-- A store of one cell of a struct, world a letter. -/
theorem wp_put_ (hN : o.dst = none) (hgd : o.guard = none) (t : TypeId) (p x : Operand) (ho : o.op = .store t p x) {g j : Nat} {arr : Array Value} {e : TypeId} (u : Value) (haddr : a.eval p = .pointer (some ⟨g, j, none⟩)) (hx : a.eval x = u) (hu : u.cells = #[u])
    (hh : W.heap[g]? = some (.cells arr e (0, 0))) (ht : (P.info? t).map (·.size) = some 1) (hfit : j < arr.size) (h1 : u.oneCell' = true)
    (h : ∀ w1, w1.heap[g]? = some (.cells (arr.setIfInBounds j u) e (0, 0)) → Fr (fun k => k ≠ g) W w1 → w1.heap.size = W.heap.size → wpList P ops Q rest a w1) : wpList P ops Q (o :: rest) a W := by
  refine wp_store_ hN hgd t p x ho u [u] haddr hx (by rw [hu]) hh ht (by simp; omega) (by intro q hq; rw [List.mem_singleton.mp hq]; exact h1) ?_
  intro w1 arr' e1 e2 e3 e4 e5
  refine h w1 ?_ e4 e5
  rw [e1]
  congr 2
  apply Array.ext'
  rw [e3, Array.toList_setIfInBounds, List.set_eq_take_append_cons_drop]
  rw [if_pos (by simpa using hfit)]
  simp
/-- A row of numbers stays, where its block does. -/
theorem C_fr {k : IntKind} {P : Nat → Prop} {a b : World} {A : Option Addr} {n : Nat} {xs : List Int} (h : (Kd.int k).C a A n xs) (hf : Fr P a b) (hp : ∀ ad, A = some ad → P ad.block) : (Kd.int k).C b A n xs := by
  obtain ⟨h1, h2, h3⟩ := h
  refine ⟨h1, h2, fun hn => ?_⟩
  obtain ⟨ad, ea, hc⟩ := h3 hn
  refine ⟨ad, ea, fun j p hj => ?_⟩
  obtain ⟨cs, hl, hk, hu⟩ := hc j p hj
  refine ⟨cs, hl, hk, fun i u hi => ?_⟩
  have h5 := hu i u hi
  have hlt := World.block_lt_of_cell? _ _ h5
  have eb : (ad.add (j * (Kd.int k).sz + i)).block = ad.block := by unfold Addr.add; split <;> rfl
  rw [← h5]
  exact World.cell?_of_block (w := a) (hf.block _ hlt (by rw [eb]; exact hp ad ea))
theorem C_at {k : IntKind} {w : World} {A : Option Addr} {n : Nat} {xs : List Int} (h : (Kd.int k).C w A n xs) : n = xs.length ∧ ∀ j, j < n → ∃ ad, A = some ad ∧ w.cell? (ad.add j) = some (.int k (xs.getD j 0)) := by
  refine ⟨h.1.symm, fun j hj => ?_⟩
  obtain ⟨ad, ea, hc⟩ := Kd.at_int h (j : Int) (by omega) (by omega)
  refine ⟨ad, ea, ?_⟩
  rw [Int.toNat_natCast] at hc
  rw [hc]
  have hl : j < xs.length := by have := h.1; omega
  unfold rd
  simp [hl]
/-- 'copy' of numbers into a block of one's own. -/
theorem wp_copy_ (hgd : o.guard = none) (t : TypeId) (x y : Operand) (ho : o.op = .call { callee := .builtin .copy, args := #[x, y], argTypes := #[t, t] }) (e : TypeId) (ht : P.underlying t = some (.slice e)) (hinfo : (P.info? e).map (·.size) = some 1)
    {g of n cap m c : Nat} {k : IntKind} (A : Option Addr) (xs : List Int) {arr : Array Value} {e' : TypeId} (hx : a.eval x = .slice (some ⟨g, of, none⟩) n cap) (hy : a.eval y = .slice A m c) (hC : (Kd.int k).C W A m xs) (hh : W.heap[g]? = some (.cells arr e' (0, 0))) (hfit : of + n ≤ arr.size)
    (h : ∀ w1 arr', w1.heap[g]? = some (.cells arr' e' (0, 0)) → arr'.size = arr.size → arr'.toList = arr.toList.take of ++ (xs.take (min m n)).map (Value.int k) ++ arr.toList.drop (of + min m n) → Fr (fun k => k ≠ g) W w1 → w1.heap.size = W.heap.size → wpList P ops Q rest (a.put o.dst (.int .i64 ((min m n : Nat) : Int))) w1) : wpList P ops Q (o :: rest) a W := by
  obtain ⟨hm, hcell⟩ := C_at hC
  have fin : ∀ w1 arr', (Builtin.copy_ #[t, t] o.type #[.slice (some ⟨g, of, none⟩) n cap, .slice A m c]).run P W = .ok (.int .i64 ((min m n : Nat) : Int)) w1 → w1.heap[g]? = some (.cells arr' e' (0, 0)) → arr'.size = arr.size → arr'.toList = arr.toList.take of ++ (xs.take (min m n)).map (Value.int k) ++ arr.toList.drop (of + min m n) → Fr (fun k => k ≠ g) W w1 → w1.heap.size = W.heap.size → wpList P ops Q (o :: rest) a W := by
    intro w1 arr' hr h1 h2 h3 h4 h5
    refine wpList_plain hgd fun K hK => ?_
    unfold Oper.wp execOp
    simp only [ho, resolve, invoke, builtin, Sem.run_bind, Sem.run_pure, Result.andThen_ok, List.map_toArray, List.map_cons, List.map_nil, hx, hy, hr]
    exact hK _ _ (h w1 arr' h1 h2 h3 h4 h5)
  rcases Nat.eq_zero_or_pos (min m n) with h0 | hp
  · refine fin W arr ?_ hh rfl (by rw [h0]; simp) (Fr.refl _ _) rfl
    rw [run_copy_none W t t o.type e (some ⟨g, of, none⟩) A n cap m c ht hinfo h0]
    rw [h0]; rfl
  · obtain ⟨ad, rfl, _⟩ := hcell 0 (by omega)
    have hsl : ((xs.take (min m n)).map (Value.int k)).length = min m n := by rw [List.length_map, List.length_take]; omega
    have hr := run_copy_cells (P := P) W t t o.type e g of n cap ad m c ((xs.take (min m n)).map (Value.int k)) ht hinfo (by rw [hsl]) (fun j v hv => by
        have hj : j < min m n := by
          have := (List.getElem?_eq_some_iff.1 hv).1
          rw [hsl] at this; exact this
        obtain ⟨ad', e1, hc⟩ := hcell j (by omega)
        injection e1 with e1
        subst e1
        rw [hc, ← hv, List.getElem?_map, List.getElem?_take, if_pos hj, List.getD_eq_getElem?_getD, List.getElem?_eq_getElem (by omega)]
        rfl)
      (fun j hj => by rw [cell_of_row W g _ arr e' (0, 0) hh]; simp; omega) (fun j _ => blk_frozen hh _) (by intro u hu; obtain ⟨q, _, rfl⟩ := List.mem_map.mp hu; rfl)
    obtain ⟨cur', h3, h4, h5⟩ := setCells_row ((xs.take (min m n)).map (Value.int k)) of W arr hh (by rw [hsl]; omega)
    obtain ⟨s1, s2, s3, s4⟩ := setCells_same g ((xs.take (min m n)).map (Value.int k)) of W
    rw [hsl] at hr h5
    exact fin _ cur' hr h3 h4 h5 ⟨s1, s2, s3, by rw [s4]; exact Nat.le_refl _, fun k _ hk => setCells_far _ _ k hk⟩ s4
end
end Go.Proofs.Ytbkpcepnhjnpgaa.X
