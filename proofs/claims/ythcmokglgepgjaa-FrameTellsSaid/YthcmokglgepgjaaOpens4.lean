/- Opening an array of four cells among a law's arguments. -/
import Derived.Test.YthcmokglgepgjaaOpens
import Derived.OpenShut
import Derived.WideShapes
namespace Go.Proofs.Ythcmokglgepgjaa.Opens
open Go Go.RowKit Go.Proofs.YthcmokglgepgjaaW.PrintWords Go.Proofs.YthcmokglgepgjaaW.PrintLast Go.Proofs.YthcmokglgepgjaaW.PrintMore
set_option linter.unusedVariables false
variable {P : Program} {α : Type}
theorem Opens.arr4 {t e : TypeId} {d : Kd α} {ok : α → Prop} (ht : P.underlying t = some (.array 4 e)) (h : Opens P e d ok) (hce : P.cellsOf e = 1) (hct : P.cellsOf t = 4) : Opens P t (Kd.pair d (Kd.pair d (Kd.pair d d))) (fun x => ok x.1 ∧ ok x.2.1 ∧ ok x.2.2.1 ∧ ok x.2.2.2) := by
  have hs : d.sz = 1 := by rw [h.1, hce]
  refine ⟨?_, fun enc w base spare held fuel cs x hx => ?_⟩
  · show d.sz + (d.sz + (d.sz + d.sz)) = _
    rw [hs, hct]
  · obtain ⟨xs, m, _, _, hl, hlen, hf⟩ := DataW.trod_array ht hx
    have hF : OpensF P [{ name := "", type := e, offset := 0, embedded := false, tag := "", pkgPath := "", byteOffset := 0 }, { name := "", type := e, offset := 1, embedded := false, tag := "", pkgPath := "", byteOffset := 0 }, { name := "", type := e, offset := 2, embedded := false, tag := "", pkgPath := "", byteOffset := 0 }, { name := "", type := e, offset := 3, embedded := false, tag := "", pkgPath := "", byteOffset := 0 }] 0 (Kd.pair d (Kd.pair d (Kd.pair d d))) (fun x => ok x.1 ∧ ok x.2.1 ∧ ok x.2.2.1 ∧ ok x.2.2.2) :=
      OpensF.cons (off := 0) (off' := 1) h rfl (OpensF.cons (off := 1) (off' := 2) h rfl (OpensF.cons (off := 2) (off' := 3) h rfl (OpensF.one (off := 3) h rfl) (by rw [hs])) (by rw [hs])) (by rw [hs])
    have hx2 : ∀ i, i < 4 → ∃ x, DataW.trod enc P w base spare held m e ((cs.drop i).take (P.cellsOf e)) = some x := by
      intro i hi
      have h1 := hf i hi
      rw [hce, Nat.mul_one] at h1
      rw [hce]
      exact ⟨xs[i]'(by omega), h1.trans (List.getElem?_eq_getElem (by omega))⟩
    obtain ⟨y, hy, ky⟩ := hF enc w base spare held m cs (fun i f hi => by
      match i, hi with
      | 0, hi => obtain rfl := Option.some.inj hi; exact hx2 0 (by omega)
      | 1, hi => obtain rfl := Option.some.inj hi; exact hx2 1 (by omega)
      | 2, hi => obtain rfl := Option.some.inj hi; exact hx2 2 (by omega)
      | 3, hi => obtain rfl := Option.some.inj hi; exact hx2 3 (by omega)
      | n + 4, hi => exact absurd hi (by simp))
    refine ⟨y, ?_, ky⟩
    have hsz : (Kd.pair d (Kd.pair d (Kd.pair d d))).sz = 4 := by show d.sz + (d.sz + (d.sz + d.sz)) = 4; rw [hs]
    rw [List.drop_zero, hsz, List.take_of_length_le (by omega)] at hy
    exact hy
theorem okWide_array {w : World} {r} {base : Nat} {t : TypeId} {v : Value} {n : Nat} {e : TypeId} (ht : P.underlying t = some (.array n e)) (h : Value.okWide P w r base t v) : ∃ cs, v = .agg cs := by
  simp only [Value.okWide, ht] at h
  obtain ⟨cs, h1, _⟩ := h
  exact ⟨cs, h1⟩
/-- Four bytes, as the walk has them. -/
theorem four_bytes {w : World} {cs : Array Value} {x : Int × Int × Int × Int} (h : (Kd.pair (Kd.int .u8) (Kd.pair (Kd.int .u8) (Kd.pair (Kd.int .u8) (Kd.int .u8)))).K w x cs.toList) : cs = #[.int .u8 x.1, .int .u8 x.2.1, .int .u8 x.2.2.1, .int .u8 x.2.2.2] := by
  obtain ⟨c1, r1, e1, h1, h2⟩ := h
  obtain ⟨c2, r2, e2, h2, h3⟩ := h2
  obtain ⟨c3, r3, e3, h3, h4⟩ := h3
  have h1 : c1 = [_] := h1
  have h2 : c2 = [_] := h2
  have h3 : c3 = [_] := h3
  have h4 : r3 = [_] := h4
  subst h1 h2 h3 h4
  subst e3
  subst e2
  apply Array.toList_inj.mp
  rw [e1]
  rfl
end Go.Proofs.Ythcmokglgepgjaa.Opens
