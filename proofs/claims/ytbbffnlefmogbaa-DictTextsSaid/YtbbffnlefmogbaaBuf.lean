/- A buffer of the call's own that is filled from the front by 'copy', over numbers (after the library's own Derived.Lib.SlBuf, which speaks of bytes). -/
import Derived.Test.YtbbffnlefmogbaaWMore
import Derived.Lib.SlBuf
import Derived.Lib.MakeNoZero
import Derived.Lib.Hide
namespace Go.Proofs.Ytbbffnlefmogbaa.Buf
open Go Go.RowKit Go.Lib Go.Proofs.YtbbffnlefmogbaaW.PrintWords Go.Proofs.YtbbffnlefmogbaaW.PrintLast Go.Proofs.YtbbffnlefmogbaaW.PrintMore
set_option linter.unusedVariables false
variable {P : Program}
structure Buf (w0 wr : World) (h N : Nat) (acc : List Int) : Prop where
  below : Below h w0 wr
  there : ∀ j, j < N → (wr.cell? ⟨h, j, none⟩).isSome = true
  free : ∀ j, j < N → wr.frozen? ⟨h, j, none⟩ = false
  holds : ∀ (j : Nat) x, acc[j]? = some x → wr.cell? ⟨h, j, none⟩ = some (.int .u8 x)
  fits : acc.length ≤ N
theorem Buf.start (w : World) (cs : Array Value) (e : TypeId) (N q : Nat) (hN : N ≤ cs.size) : Buf w ((w.alloc (.cells cs e)).drewN q) w.heap.size N [] where
  below := ⟨rfl, rfl, rfl, by simp, fun k hk => heap_alloc_old w _ hk⟩
  there := fun j hj => by
    rw [World.cell?_drewN, World.cell?_alloc_mark, Array.getElem?_eq_getElem (by omega)]
    rfl
  free := fun j _ => by
    rw [World.frozen?_drewN]
    have := World.frozen?_alloc_mark w cs e 0 0 j
    rw [this]
    simp
  holds := fun j x hx => by simp at hx
  fits := Nat.zero_le _
/-- 'copy(b[bp:], v)', bp = how much is filled. -/
theorem copy_part (w0 wr : World) (h N : Nat) (acc l : List Int) (A : Option Addr) (c : Nat) (t ty e : TypeId) (hu : P.underlying t = some (.slice e)) (hs : (P.info? e).map (·.size) = some 1) (hh : w0.heap.size ≤ h)
    (hb : Buf w0 wr h N acc) (hv : Kd.C (Kd.int .u8) w0 A l.length l) (hfit : acc.length + l.length ≤ N) :
    ∃ wr', (Builtin.copy_ #[t, t] ty #[tailV h N acc.length, .slice A l.length c]).run P wr = .ok (.int .i64 (l.length : Int)) wr' ∧ Buf w0 wr' h N (acc ++ l) := by
  by_cases hl : l = []
  · subst hl
    refine ⟨wr, ?_, by simpa using hb⟩
    exact run_copy_none (P := P) wr t t ty e _ A _ _ 0 c hu hs (by simp)
  · have hpos : 0 < l.length := List.length_pos_iff.2 hl
    obtain ⟨a, rfl, hcells⟩ := (Kd.reads_of_C (d := (0 : Int)) hv).2.2 hpos
    have hne : ¬ N = acc.length := by omega
    have hr := run_copy_cells (P := P) wr t t ty e h acc.length (N - acc.length) (N - acc.length) a l.length c (l.map fun x => Value.int .u8 x) hu hs (by rw [List.length_map]; exact (Nat.min_eq_left (by omega)).symm)
      (fun j u hj => by
        rw [List.getElem?_map] at hj
        obtain ⟨x, hx, rfl⟩ := Option.map_eq_some_iff.1 hj
        have hjl := (List.getElem?_eq_some_iff.1 hx).1
        have h2 := hcells j hjl
        rw [show l.getD j 0 = x by rw [List.getD_eq_getElem?_getD, hx]; rfl] at h2
        exact Below.cellOf hb.below h2 hh)
      (fun j hj => by rw [List.length_map] at hj; exact hb.there _ (by omega)) (fun j hj => by rw [List.length_map] at hj; exact hb.free _ (by omega))
      (fun u hu' => by obtain ⟨x, _, rfl⟩ := List.mem_map.1 hu'; rfl)
    rw [List.length_map] at hr
    refine ⟨_, by unfold tailV; rw [if_neg hne]; exact hr, ?_⟩
    have hin := World.cell?_setCells_in h (l.map fun x => Value.int .u8 x) acc.length wr (fun j hj => by rw [List.length_map] at hj; exact hb.there _ (by omega))
    have hout := World.cell?_setCells_out h (l.map fun x => Value.int .u8 x) acc.length wr
    refine ⟨?_, ?_, ?_, ?_, by rw [List.length_append]; exact hfit⟩
    · exact below_setCells h (Nat.le_refl _) _ _ hb.below
    · intro j hj
      by_cases h1 : acc.length ≤ j ∧ j < acc.length + l.length
      · obtain ⟨d, rfl⟩ : ∃ d, j = acc.length + d := ⟨j - acc.length, by omega⟩
        rw [hin d (by rw [List.length_map]; omega)]
        rfl
      · rw [hout ⟨h, j, none⟩ (fun _ _ => by rw [List.length_map]; show j < _ ∨ _ ≤ j; omega)]
        exact hb.there j hj
    · intro j hj
      rw [World.frozen?_setCells]
      exact hb.free j hj
    · intro j x hx
      by_cases h1 : j < acc.length
      · rw [List.getElem?_append_left h1] at hx
        rw [hout ⟨h, j, none⟩ (fun _ _ => Or.inl h1)]
        exact hb.holds j x hx
      · rw [List.getElem?_append_right (by omega)] at hx
        obtain ⟨d, rfl⟩ : ∃ d, j = acc.length + d := ⟨j - acc.length, by omega⟩
        rw [Nat.add_sub_cancel_left] at hx
        have hd : d < l.length := (List.getElem?_eq_some_iff.1 hx).1
        rw [hin d (by rw [List.length_map]; exact hd)]
        simp [List.getElem_map, (List.getElem?_eq_some_iff.1 hx).2]
/-- A row of numbers known cell by cell. -/
theorem C_of_cells {w : World} {b o : Nat} {k : IntKind} {xs : List Int} (hn : xs.length ≤ 9223372036854775807) (h : ∀ (j : Nat) x, xs[j]? = some x → w.cell? ⟨b, o + j, none⟩ = some (.int k x)) : Kd.C (Kd.int k) w (some ⟨b, o, none⟩) xs.length xs := by
  refine Kd.C_of_reads (d := (0 : Int)) ⟨rfl, hn, fun _ => ⟨_, rfl, fun j hj => ?_⟩⟩
  rw [Lib.add_plain2', h j (xs.getD j 0) (by rw [List.getD_eq_getElem?_getD, List.getElem?_eq_getElem hj]; rfl)]
where
  Lib.add_plain2' (b o i : Nat) : (⟨b, o, none⟩ : Addr).add i = ⟨b, o + i, none⟩ := by unfold Addr.add; split <;> simp_all
/-- The buffer filled to the brim is readable, whatever becomes of other blocks. -/
theorem Buf.V {w0 wr : World} {N e base : Nat} {acc : List Int} (hb : Buf w0 wr w0.heap.size N acc) (hN : acc.length = N) (hm : N ≤ 9223372036854775807) :
    Kd.V (Kd.int .u8) e wr base (fun k => w0.heap.size ≤ k) (.slice (some ⟨w0.heap.size, 0, none⟩) N N) acc := by
  subst hN
  refine ⟨_, _, rfl, Nat.le_refl _, fun W' hW => ?_⟩
  refine C_of_cells hm (fun j x hx => ?_)
  have h1 := hb.holds j x hx
  have hlt : w0.heap.size < wr.heap.size := World.block_lt_of_cell? wr _ h1
  rw [Nat.zero_add, ← h1]
  exact World.cell?_of_block (w := wr) (hW _ (Nat.le_refl _) hlt)
end Go.Proofs.Ytbbffnlefmogbaa.Buf
