/- More small facts on memory, for contracts that are proved by hand. -/
import Derived.Test.YtbkpcepnhjnpgaaMem
import Derived.Lib.ConvBytes
namespace Go.Proofs.Ytbkpcepnhjnpgaa.Mem
open Go.RowKit Go.Proofs.YtbkpcepnhjnpgaaW.PrintWords Go.Proofs.YtbkpcepnhjnpgaaW.PrintLast Go.Proofs.YtbkpcepnhjnpgaaW.PrintMore
set_option linter.unusedVariables false
theorem add_plain2 (b o i : Nat) : (⟨b, o, none⟩ : Addr).add i = ⟨b, o + i, none⟩ := by unfold Addr.add; split <;> simp_all
/-- A row of slices: each one's cell, and the row that it tells. -/
theorem at_row {α : Type} {d : Kd α} {q : Nat} {w : World} {A : Option Addr} {n : Nat} {xs : List (List α)} (h : Kd.C (Kd.slice q d) w A n xs) (i : Nat) (hi : i < xs.length) :
    ∃ ad Ai ci, A = some ad ∧ w.cell? (ad.add i) = some (.slice Ai (xs[i]).length ci) ∧ (xs[i]).length ≤ ci ∧ d.C w Ai (xs[i]).length (xs[i]) := by
  have hn := Kd.C_len h
  obtain ⟨ad, c, e, _, hK, hc0⟩ := Kd.C_get h ([] : List α) (i : Int) (by omega) (by omega)
  have hc : ∀ j u, c[j]? = some u → w.cell? (ad.add ((i : Int).toNat * 1 + j)) = some u := hc0
  have e2 : xs.getD (i : Int).toNat ([] : List α) = xs[i] := by rw [Int.toNat_natCast, List.getD_eq_getElem?_getD, List.getElem?_eq_getElem hi]; rfl
  rw [e2] at hK
  obtain ⟨A0, c0, rfl, l0, g0⟩ := hK
  refine ⟨ad, A0, c0, e, ?_, l0, g0⟩
  have hq := hc 0 _ rfl
  rwa [Nat.mul_one, Nat.add_zero, Int.toNat_natCast] at hq
/-- A row of slices that fills the first cells of a block. -/
theorem C_rows {α : Type} {d : Kd α} {q : Nat} {w : World} {b : Nat} {arr : Array Value} {e : TypeId} {fr : Nat × Nat} {xs : List (List α)} (hb : w.heap[b]? = some (.cells arr e fr)) (hn : xs.length ≤ 9223372036854775807)
    (h : ∀ i (hi : i < xs.length), ∃ A c, arr[i]? = some (.slice A (xs[i]).length c) ∧ (xs[i]).length ≤ c ∧ d.C w A (xs[i]).length (xs[i])) : Kd.C (Kd.slice q d) w (some ⟨b, 0, none⟩) xs.length xs := by
  refine ⟨rfl, hn, fun _ => ⟨_, rfl, fun j p hj => ?_⟩⟩
  obtain ⟨hjl, hje⟩ := List.getElem?_eq_some_iff.1 hj
  obtain ⟨A, c, ha, hc, hC⟩ := h j hjl
  rw [hje] at ha hc hC
  refine ⟨[.slice A p.length c], rfl, ⟨A, c, rfl, hc, hC⟩, fun i u hu => ?_⟩
  match i, hu with
  | 0, hu =>
    rw [add_plain]
    have h1 := cell_of_row w b (j * (Kd.slice q d).sz + 0) arr e fr hb
    rw [h1, show j * (Kd.slice q d).sz + 0 = j by show j * 1 + 0 = j; omega, ha]
    simpa using hu
  | i + 1, hu => simp at hu
theorem below_bytes (w : World) (e : TypeId) (s : ByteArray) : Below w.heap.size w (Lib.bytesWorld w e s) :=
  ⟨rfl, rfl, rfl, by rw [Lib.bytesWorld_size]; omega, fun k hk => Lib.bytesWorld_at_old w e s k hk⟩
section
variable {P : Program} {α : Type} {d : Kd α} {w : World} {A : Option Addr} {c : Nat} {xs : List α}
/-- 's[m:]': its address is given a name, so that the walk does not part on 'is anything left of the capacity?'. -/
theorem cut_from' (t e : TypeId) (kl : IntKind) {i : TypeInfo} (ht : P.underlying t = some (.slice e)) (hi : P.info? e = some i) (hsz : i.size = d.sz) {m : Nat} (hC : d.C w A xs.length xs) (hm : m ≤ xs.length) (hc : xs.length ≤ c) :
    ∃ A' : Option Addr, (∀ W : World, (Instr.slice t (.slice A xs.length c) (some (.int kl (m : Int))) none none).run P W = .ok (.slice A' (xs.length - m) (c - m)) W) ∧ d.C w A' (xs.length - m) (xs.drop m) ∧ (xs.drop m).length = xs.length - m ∧ xs.length - m ≤ c - m := by
  have h1 := fun W => cut_from (P := P) t e kl ht hi d.sz hsz A xs.length c (m : Int) (by omega) (by omega) W
  have h2 := Kd.C_drop hC hm hc
  rw [List.length_drop] at h2
  simp only [Int.toNat_natCast] at h1
  exact ⟨_, h1, h2, List.length_drop, by omega⟩
/-- 's[lo:hi]', likewise. -/
theorem cut_mid' (t e : TypeId) (kl kh : IntKind) {i : TypeInfo} (ht : P.underlying t = some (.slice e)) (hi : P.info? e = some i) (hsz : i.size = d.sz) {lo hi' : Nat} (hC : d.C w A xs.length xs) (h1 : lo ≤ hi') (h2 : hi' ≤ xs.length) (hc : xs.length ≤ c) :
    ∃ A' : Option Addr, (∀ W : World, (Instr.slice t (.slice A xs.length c) (some (.int kl (lo : Int))) (some (.int kh (hi' : Int))) none).run P W = .ok (.slice A' (hi' - lo) (c - lo)) W) ∧ d.C w A' (hi' - lo) ((xs.take hi').drop lo) ∧ ((xs.take hi').drop lo).length = hi' - lo ∧ hi' - lo ≤ c - lo := by
  have h3 := fun W => cut_mid (P := P) t e kl kh ht hi d.sz hsz A xs.length c (lo : Int) (hi' : Int) (by omega) (by omega) (by omega) hc W
  have h4 := Kd.C_mid hC h1 h2 hc
  have hl : ((xs.take hi').drop lo).length = hi' - lo := by rw [List.length_drop, List.length_take]; omega
  rw [hl] at h4
  simp only [Int.toNat_natCast] at h3
  exact ⟨_, h3, h4, hl, by omega⟩
end
end Go.Proofs.Ytbkpcepnhjnpgaa.Mem
