/- The contract of disk.Pending. -/
import Derived.Test.YtbkpcepnhjnpgaaDiskS
import Derived.Test.YtbkpcepnhjnpgaaStageN
import Derived.Test.YtbkpcepnhjnpgaaIterI
namespace Go.Proofs.Ytbkpcepnhjnpgaa.X
open Go.RowKit Go.Maps Go.Sort Go.Proofs.YtbkpcepnhjnpgaaW.PrintWords Go.Proofs.YtbkpcepnhjnpgaaW.PrintLast Go.Proofs.YtbkpcepnhjnpgaaW.PrintMore
set_option linter.unusedVariables false
set_option linter.unusedSimpArgs false
/-- The sectors that wait, rising. -/
def pendN (d : DS) : List Nat := (List.range d.n).filter fun i => (d.wait i).isSome
def pendI (d : DS) : List Int := (pendN d).map fun (i : Nat) => (i : Int)
theorem pendN_lt (d : DS) : ∀ i ∈ pendN d, i < d.n ∧ ∃ xs, d.wait i = some xs := by
  intro i hi
  unfold pendN at hi
  rw [List.mem_filter, List.mem_range] at hi
  exact ⟨hi.1, Option.isSome_iff_exists.mp hi.2⟩
theorem pendN_rises (d : DS) : (pendN d).Pairwise (· < ·) := (List.pairwise_lt_range).sublist List.filter_sublist
theorem pendI_rises (d : DS) : (pendI d).Pairwise (fun x y => x < y) := by
  unfold pendI
  rw [List.pairwise_map]
  exact (pendN_rises d).imp (fun h => by omega)
theorem pendI_le (d : DS) : (pendI d).length ≤ d.n := by
  unfold pendI pendN
  rw [List.length_map]
  exact Nat.le_trans (List.length_filter_le _ _) (by rw [List.length_range]; exact Nat.le_refl _)
theorem own_size {w : World} {k : TypeId} {R : Value → Option (DataW Value × List MemPlace)} {b n : Nat} {D : DataW Value} (h : w.ownsMap Try.prog k R b n D) : Maps.size D ≤ n := by
  obtain ⟨es, clock, hb, F, hs, rfl⟩ := h
  have e : Maps.size (DataW.map ((es.toList.map (WideElems.rg Try.prog k R)).foldr DataW.insert [])) = es.size := by simp [Maps.size, length_sorted]
  rw [e]; exact hs
theorem pend_perm {w : World} {d : DS} {D : DataW Value} (hown : w.ownsMap Try.prog 3 secR d.bm d.cnt D) (hwt : ∀ i, i < d.n → WaitAt D i (d.wait i)) (hks : ∀ kl, has D kl = true → ∃ i, i < d.n ∧ kl = dkey i) : (pendI d).Perm (intKeys D) := by
  obtain ⟨es, rfl, hp, hk⟩ := hown.entries dk_key
  refine perm_intKeys hp (fun p hpm => ?_) ?_ (fun x => ?_)
  · obtain ⟨i, _, e⟩ := hks p.1 (List.any_eq_true.2 ⟨p, hpm, WideAt.sameKey_self (hk p hpm)⟩)
    exact ⟨_, e⟩
  · exact (pendI_rises d).imp (fun h => by omega)
  · unfold pendI
    rw [List.mem_map]
    constructor
    · rintro ⟨i, hi, rfl⟩
      obtain ⟨h1, xs, h2⟩ := pendN_lt d i hi
      have h3 := hwt i h1
      rw [h2] at h3
      exact h3.1
    · intro h
      obtain ⟨i, hi, e⟩ := hks _ h
      unfold dkey at e
      injection e with _ e
      refine ⟨i, ?_, e.symm⟩
      unfold pendN
      rw [List.mem_filter, List.mem_range]
      refine ⟨hi, ?_⟩
      have h3 := hwt i hi
      cases e2 : d.wait i with
      | none => rw [e2] at h3; rw [e] at h; have h4 : has (DataW.map es) (dkey i) = false := h3; rw [show (Lit.int .i64 (i : Int)) = dkey i from rfl, h4] at h; cases h
      | some xs => rfl
theorem sort_pend {d : DS} {ss : List Int} (h : ss.Perm (pendI d)) : ss.mergeSort (fun x y => decide (x ≤ y)) = pendI d := by
  have h1 : (ss.mergeSort (fun x y => decide (x ≤ y))).Perm (pendI d) := (List.mergeSort_perm ss _).trans h
  have h2 : (ss.mergeSort (fun x y => decide (x ≤ y))).Pairwise (fun x y => x ≤ y) := (List.pairwise_mergeSort (le := fun (x y : Int) => decide (x ≤ y)) (fun a b c h1 h2 => by simp at *; omega) (fun a b => by simp; omega) ss).imp (fun h => by simpa using h)
  exact h1.eq_of_pairwise (fun a b _ _ h1 h2 => by omega) h2 ((pendI_rises d).imp (fun h => by omega))
theorem row_ints {w : World} {base : Nat} {v : Value} {xs : List Int} (h : w.ownsRow base 3 1 v xs.length (xs.map encZ)) : Kd.R (Kd.int .i64) 3 w base (fun _ => True) v xs := by
  refine ⟨fun _ _ => trivial, xs.map encZ, h, ?_⟩
  clear h
  induction xs with
  | nil => exact Reps.none _ _
  | cons x xs ih => rw [List.map_cons]; exact Reps.one (show (Kd.int .i64).M _ _ _ _ [_] from rfl) ih
set_option maxRecDepth 100000 in
theorem disk_Pending.bad (p : Value) (w : World) (h : Calls Try.prog 76 #[p] w fun e w' => e = .returned (.bool false) ∧ w' = w) : Calls Try.prog 40 #[p] w fun e w' => e = .returned (.slice none 0 0) ∧ w' = w := by
  have H := Aside0.mk h
  clear h
  go_enter Try.func40, Try.ntmps40
  go_wp2_with fail
  refine H.out.mono ?_
  rintro e w' ⟨rfl, rfl⟩
  go_wp2_with fail
  go_ret
  exact ⟨rfl, rfl⟩
set_option maxRecDepth 100000 in
theorem disk_Pending.calls (b : Nat) (d : DS) (w : World) (h : IsD w b d) (hn : d.cnt < 1000000) : Calls Try.prog 40 #[.pointer (some ⟨b, 0, none⟩)] w fun e w' => ∃ v, e = .returned v ∧ Kd.R (Kd.int .i64) 3 w' w.heap.size (fun _ => True) v (pendI d) ∧ Fr (fun _ => True) w w' := by
  obtain ⟨hb, hsu, ⟨D, hown, hwt, hks⟩, hnn⟩ := h
  have HB := Aside0.mk hb
  have HO := Aside0.mk hown
  have HP := Aside0.mk (pend_perm hown hwt hks)
  have HZ := Aside0.mk (own_size hown)
  have HN := Aside0.mk hn
  have h2 : w.cell? ⟨b, 2, none⟩ = some (.map (some d.bm)) := (blk_cell hb 2).trans rfl
  have hu := Try.underlying81
  clear hb hsu hown hwt hks hnn hn
  go_enter Try.func40, Try.ntmps40
  go_wp2_with fail
  refine (disk_is.calls b _ _ _ w HB.out).mono ?_
  rintro e w1 ⟨rfl, rfl⟩
  go_wp2_with fail
  refine (callsIn_wide.1 (Try.maps_Keys_I (some d.bm) _)).mono ?_
  rintro e w2 ⟨rfl, rfl⟩
  go_wp2_with fail
  refine (callsIn_wide.1 (Try.slices_Sorted_keys_I d.bm d.cnt D secR _ HO.out (by have h1 := HZ.out; have h2 := HN.out; unfold maxLen; omega) (by have h1 := HZ.out; have h2 := HN.out; omega))).mono ?_
  rintro e w3 ⟨v, ss, rfl, hperm, hrow, hnil, hbel⟩
  have hs := sort_pend (hperm.trans HP.out.symm)
  rw [hs, show ss.length = (pendI d).length from (hperm.trans HP.out.symm).length_eq] at hrow
  have HR := Aside0.mk (Kd.R_lower (row_ints hrow) (show w1.heap.size ≤ _ by simp))
  have HF := Aside0.mk ((fr_alloc w1 (.cells #[.map (some d.bm)] 79) (fun _ => True)).trans (Fr.of_below (P := fun _ => True) hbel (fun k hk _ => hk)))
  clear hperm hrow hnil hbel hs h2
  go_wp2_with fail
  go_ret
  exact ⟨v, rfl, HR.out, HF.out⟩
end Go.Proofs.Ytbkpcepnhjnpgaa.X
