/- Stages in memory; disk.New, stage.New, is, Used, Len, Clear. -/
import Derived.Test.YtbkpcepnhjnpgaaDiskS
import Derived.Laws.MakeOwn
namespace Go.Proofs.Ytbkpcepnhjnpgaa.X
open Go.RowKit Go.Maps Go.Proofs.YtbkpcepnhjnpgaaW.PrintWords Go.Proofs.YtbkpcepnhjnpgaaW.PrintLast Go.Proofs.YtbkpcepnhjnpgaaW.PrintMore
set_option linter.unusedVariables false
set_option linter.unusedSimpArgs false
section
variable {P : Program} {ops : Array Oper} {rest : List Oper} {o : Oper} {a : Act} {Q : Exit → Act → World → Prop} {W : World}
/-- 'make([]T, n)': a new block. -/
theorem wp_make_ (hgd : o.guard = none) (t : TypeId) (x y : Operand) (ho : o.op = .makeSlice t x y) (e : TypeId) (ht : P.underlying t = some (.slice e)) (z : Value) (sz bytes : Nat) (hinfo : (P.info? e).map (fun i => (i.zero, i.size, i.bytes)) = some (some z, sz, bytes)) (n : Nat)
    (hx : a.eval x = .int .i64 (n : Int)) (hy : a.eval y = .int .i64 (n : Int)) (hb : (bytes : Int) * (n : Int) ≤ 281474976710656) (hn : (n : Int) ≤ 9223372036854775807)
    (h : ∀ w1, w1.heap[W.heap.size]? = some (.cells (madeCells z.cells (n * sz)) e (0, 0)) → Fr (fun _ => True) W w1 → w1.heap.size = W.heap.size + 1 → wpList P ops Q rest (a.put o.dst (.slice (some ⟨W.heap.size, 0, none⟩) n n)) w1) : wpList P ops Q (o :: rest) a W := by
  obtain ⟨i, hi, hz⟩ := Option.map_eq_some_iff.1 hinfo
  simp only [Prod.mk.injEq] at hz
  obtain ⟨hz0, rfl, rfl⟩ := hz
  have hrun := run_make (P := P) W t e i z ht hi hz0 .i64 .i64 (n : Int) (n : Int) (Int.natCast_nonneg _) (Int.le_refl _) hb hn
  simp only [Int.toNat_natCast] at hrun
  refine wpList_plain hgd fun K hK => ?_
  unfold Oper.wp execOp
  simp only [ho, hx, hy, Sem.run_bind, Sem.run_pure, Result.andThen_ok, hrun]
  exact hK _ _ (h _ (Mem.alloc_new _ _) (fr_alloc _ _ _) (by simp))
end
theorem sec_info : (Try.prog.info? 124).map (fun i => (i.zero, i.size, i.bytes)) = some (some (.agg zsec), 64, 64) := by kernel_rfl
theorem made_get (cs : Array Value) (n j : Nat) (hj : j < n) (hc : 0 < cs.size) : (madeCells cs n)[j]? = cs[j % cs.size]? := by
  have h1 : j % cs.size < cs.size := Nat.mod_lt _ hc
  rw [Array.getElem?_eq_getElem h1]
  simp [madeCells, hj]
  rw [getElem!_pos cs _ h1]
theorem zsec_get (j : Nat) (hj : j < 64) : zsec[j]? = some (.int .u8 (zbytes.getD j 0)) := by
  have h := sec_get zbytes rfl j hj
  rwa [Nat.zero_add] at h
theorem sure_made {w : World} {bs n : Nat} (h : w.heap[bs]? = some (.cells (madeCells (Value.agg zsec).cells (n * 64)) 124 (0, 0))) : Sure w bs n (fun _ => zbytes) := by
  refine ⟨_, h, by rw [size_madeCells]; omega, fun i hi j hj => ?_, fun i hi => rfl⟩
  have e : (Value.agg zsec).cells = zsec := rfl
  rw [e, made_get _ _ _ (by omega) (by rw [zsec_size]; omega), zsec_size, show (i * 64 + j) % 64 = j by omega]
  exact zsec_get j hj
theorem waits_made {w : World} {bm n : Nat} (h : w.heap[bm]? = some (.map #[] 0)) : Waits w bm n 0 (fun _ => none) :=
  ⟨.map [], ⟨#[], 0, h, ⟨by simp, MapKept.stamped_empty _, by simp⟩, Nat.le_refl _, rfl⟩, fun i _ => rfl, fun kl hk => by cases hk⟩
def newD (bw bs bm n : Nat) : DS := ⟨bw, bs, bm, n, fun _ => zbytes, fun _ => none, 0⟩
theorem neq_objs2 (w : World) (m : Option Nat) : (binOp .neq 49 (.map m) (.map none)).run Try.prog w = .ok (.bool (!m.isNone)) w := neq_objs w m
set_option maxRecDepth 100000 in
theorem disk_New.calls (bw : Nat) (s : WS) (n : Nat) (w : World) (hw : IsW w bw s) (h1 : 1 ≤ n) (h2 : n ≤ 1024) :
    Calls Try.prog 13 #[.pointer (some ⟨bw, 0, none⟩), .int .i64 (n : Int)] w fun e w' => e = .returned (.tuple #[.pointer (some ⟨w.heap.size + 2, 0, none⟩), .int .i64 0]) ∧ IsD w' (w.heap.size + 2) (newD bw w.heap.size (w.heap.size + 1) n) ∧ Fr (fun _ => True) w w' ∧ w'.heap.size = w.heap.size + 3 := by
  have HW := Aside0.mk hw
  have HN := Aside0.mk h2
  have hmm := @run_makeMap Try.prog
  have hu := Try.underlying81
  have c1 : decide ((n : Int) < 1) = false := decide_eq_false (by omega)
  have c2 : decide ((n : Int) > 1024) = false := decide_eq_false (by omega)
  clear hw h1 h2
  go_enter Try.func13, Try.ntmps13
  go_wp2_with fail
  refine (world_Made.all _ true _ (world_is.calls bw s w HW.out)).mono ?_
  rintro e w' ⟨rfl, rfl⟩
  go_wp2_with (first
    | (refine gate_ (.makeSlice 78 (.tmp 16) (.tmp 16)) rfl ?_; refine wp_make_ rfl _ _ _ rfl 124 Try.underlying78 (.agg zsec) 64 64 sec_info n rfl rfl (by have := HN.out; omega) (by have := HN.out; omega) ?_; intro w1 h1 hf1 hs1; have H1 := Aside0.mk h1; have HF1 := Aside0.mk hf1; have HS1 := Aside0.mk hs1; clear h1 hf1 hs1))
  go_ret2
  have e1 : (w1.alloc (.map #[] 0)).heap.size = w1.heap.size + 1 := by simp
  refine ⟨?_, ⟨?_, ?_, ?_, HN.out⟩, (HF1.out.alloc _).alloc _, ?_⟩
  · simp [HS1.out]
  · have h3 := Mem.alloc_new (w1.alloc (.map #[] 0)) (.cells #[.pointer (some ⟨bw, 0, none⟩), .slice (some ⟨w'.heap.size, 0, none⟩) n n, .map (some w1.heap.size)] 81)
    rw [e1, HS1.out] at h3
    rw [HS1.out]
    exact h3
  · exact sure_made (Mem.alloc_old (Mem.alloc_old H1.out))
  · have h3 := Mem.alloc_new w1 (.map #[] 0)
    rw [HS1.out] at h3
    exact waits_made (Mem.alloc_old h3)
  · simp [HS1.out]
set_option maxRecDepth 100000 in
theorem disk_New.bad (p : Value) (n : Int) (w : World) (h : Calls Try.prog 68 #[p] w fun e w' => e = .returned (.bool false) ∧ w' = w) :
    Calls Try.prog 13 #[p, .int .i64 n] w fun e w' => e = .returned (.tuple #[.pointer none, .int .i64 9]) ∧ w' = w := by
  have H := Aside0.mk h
  clear h
  go_enter Try.func13, Try.ntmps13
  go_wp2_with fail
  refine (world_Made.all _ false _ H.out).mono ?_
  rintro e w' ⟨rfl, rfl⟩
  go_wp2_with fail
  go_ret2
  exact ⟨rfl, rfl⟩
set_option maxRecDepth 100000 in
theorem disk_New.out (bw : Nat) (s : WS) (n : Int) (w : World) (hw : IsW w bw s) (h1 : n < 1 ∨ 1024 < n) :
    Calls Try.prog 13 #[.pointer (some ⟨bw, 0, none⟩), .int .i64 n] w fun e w' => e = .returned (.tuple #[.pointer none, .int .i64 1]) ∧ w' = w := by
  have HW := Aside0.mk hw
  clear hw
  obtain ⟨t1, c1⟩ : ∃ t : Bool, decide (n < 1) = t := ⟨_, rfl⟩
  obtain ⟨t2, c2⟩ : ∃ t : Bool, decide (n > 1024) = t := ⟨_, rfl⟩
  have HT : Aside0 ((t1 || t2) = true) := ⟨by rw [← c1, ← c2]; simpa using h1⟩
  clear h1
  cases t1 <;> cases t2
  case false.false => exact absurd HT.out (by decide)
  all_goals (
    go_enter Try.func13, Try.ntmps13
    go_wp2_with fail
    refine (world_Made.all _ true _ (world_is.calls bw s w HW.out)).mono ?_
    rintro e w' ⟨rfl, rfl⟩
    go_wp2_with fail
    go_ret2
    exact ⟨rfl, rfl⟩)
end Go.Proofs.Ytbkpcepnhjnpgaa.X
