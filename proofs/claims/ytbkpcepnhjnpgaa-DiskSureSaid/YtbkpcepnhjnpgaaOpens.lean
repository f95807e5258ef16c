/- How arguments that can be read as data lie in memory: each kind of value is opened once for all, whatever its depth. -/
import Derived.Test.YtbkpcepnhjnpgaaWMore
import Derived.ProofKit
import Derived.OpenShut
import Derived.Deep.Slices
namespace Go.Proofs.Ytbkpcepnhjnpgaa.Opens
open Go.RowKit Go.Proofs.YtbkpcepnhjnpgaaW.PrintWords Go.Proofs.YtbkpcepnhjnpgaaW.PrintLast Go.Proofs.YtbkpcepnhjnpgaaW.PrintMore
set_option linter.unusedVariables false

/-- What can be read at type t is a value of this kind, and each of these is as 'ok' says. -/
def Opens (P : Program) {α : Type} (t : TypeId) (d : Kd α) (ok : α → Prop) : Prop :=
  d.sz = P.cellsOf t ∧ ∀ {H : Type} (enc : TypeId × Value → H) (w : World) (base : Nat) (spare : Nat → Bool) (held : Bool) (fuel : Nat) (cs : List Value) (x : DataW H × List MemPlace),
    DataW.trod enc P w base spare held fuel t cs = some x → ∃ y, d.K w y cs ∧ ok y
variable {P : Program} {α β : Type}
theorem Opens.int {t : TypeId} {k : IntKind} (ht : P.underlying t = some (.int k)) (hc : P.cellsOf t = 1) : Opens P t (Kd.int k) (fun n => (Lit.int k n).wf = true) :=
  ⟨hc.symm, fun enc w base spare held fuel cs x h => by
    obtain ⟨n, hcs, _, hw⟩ := DataW.trod_int ht h
    exact ⟨n, hcs, hw⟩⟩
theorem Opens.bool {t : TypeId} (ht : P.underlying t = some .bool) (hc : P.cellsOf t = 1) : Opens P t Kd.bool (fun _ => True) :=
  ⟨hc.symm, fun enc w base spare held fuel cs x h => by
    obtain ⟨n, hcs, _⟩ := DataW.trod_bool ht h
    exact ⟨n, hcs, trivial⟩⟩
theorem Opens.string {t : TypeId} (ht : P.underlying t = some .string) (hc : P.cellsOf t = 1) : Opens P t Kd.string (fun s => s.size ≤ maxLen) :=
  ⟨hc.symm, fun enc w base spare held fuel cs x h => by
    obtain ⟨n, hcs, _, hw⟩ := DataW.trod_string ht h
    exact ⟨n, hcs, hw⟩⟩
theorem choose_list {Q : Nat → α → Prop} : ∀ n, (∀ i, i < n → ∃ y, Q i y) → ∃ ys : List α, ys.length = n ∧ ∀ i y, ys[i]? = some y → Q i y
  | 0, _ => ⟨[], rfl, fun i y h => by simp at h⟩
  | n + 1, h => by
    obtain ⟨ys, hl, hy⟩ := choose_list n (fun i hi => h i (by omega))
    obtain ⟨y, hq⟩ := h n (by omega)
    refine ⟨ys ++ [y], by simp [hl], fun i z hz => ?_⟩
    rcases Nat.lt_or_ge i ys.length with hi | hi
    · rw [List.getElem?_append_left hi] at hz; exact hy i z hz
    · have e : i = n := by
        have := (List.getElem?_eq_some_iff.1 hz).1
        rw [List.length_append, List.length_singleton] at this
        omega
      subst e
      rw [← hl] at hz
      have : y = z := by simpa using hz
      subst this
      rw [← hl] at hq ⊢
      exact hq
theorem Opens.slice {t e : TypeId} {d : Kd α} {ok : α → Prop} (ht : P.underlying t = some (.slice e)) (hc : P.cellsOf t = 1) (he : Opens P e d ok) :
    Opens P t (Kd.slice e d) (fun xs => xs.length ≤ maxLen ∧ ∀ x ∈ xs, ok x) :=
  ⟨hc.symm, fun enc w base spare held fuel cs x h => by
    rcases Go.Deep.open_slice ht h with ⟨hcs, _⟩ | ⟨a, len, cap, m, n, D, Pl, hcs, hb, hl, hcap, hm, _, hel⟩
    · exact ⟨[], ⟨none, 0, hcs, Nat.le_refl _, rfl, by simp, fun h0 => absurd h0 (Nat.lt_irrefl 0)⟩, by simp [maxLen], by simp⟩
    · have hlm : len ≤ m := by rw [hm]; split <;> omega
      obtain ⟨ys, hys, hq⟩ := choose_list (Q := fun i y => ok y ∧ ∃ c, c.length = d.sz ∧ d.K w y c ∧ ∀ j u, c[j]? = some u → w.cell? (a.add (i * d.sz + j)) = some u) len (fun i hi => by
        obtain ⟨cs', h1, h2⟩ := hel i (by omega)
        obtain ⟨y, hk, hy⟩ := he.2 enc w base spare held n cs' _ h2
        obtain ⟨_, hcl, hcell⟩ := World.cells?_some h1
        refine ⟨y, hy, cs', hcl.trans he.1.symm, hk, fun j u hu => ?_⟩
        have hj : j < P.cellsOf e := by have := (List.getElem?_eq_some_iff.1 hu).1; omega
        rw [he.1, ← add_add, hcell j hj]
        exact hu)
      subst hys
      refine ⟨ys, ⟨some a, cap, hcs, hl, rfl, ?_, fun _ => ⟨a, rfl, fun j p hj => (hq j p hj).2⟩⟩, Nat.le_trans hl hcap, fun x hx => ?_⟩
      · unfold maxLen at hcap; omega
      · obtain ⟨j, hj⟩ := List.getElem?_of_mem hx
        exact (hq j x hj).1⟩
theorem Opens.iso {t : TypeId} {d : Kd α} {ok : α → Prop} (h : Opens P t d ok) (f : β → α) (g : α → β) (hfg : ∀ y, f (g y) = y) : Opens P t (Kd.iso d f) (fun x => ok (f x)) :=
  ⟨h.1, fun enc w base spare held fuel cs x hx => by
    obtain ⟨y, hk, hy⟩ := h.2 enc w base spare held fuel cs x hx
    refine ⟨g y, ?_, ?_⟩
    · show d.K w (f (g y)) cs
      rw [hfg]; exact hk
    · show ok (f (g y))
      rw [hfg]; exact hy⟩
/-- Fields in line, from a place on. -/
def OpensF (P : Program) (fs : List Field) (off : Nat) (d : Kd α) (ok : α → Prop) : Prop :=
  ∀ {H : Type} (enc : TypeId × Value → H) (w : World) (base : Nat) (spare : Nat → Bool) (held : Bool) (fuel : Nat) (cs : List Value),
    (∀ (i : Nat) (f : Field), fs[i]? = some f → ∃ x, DataW.trod enc P w base spare held fuel f.type ((cs.drop f.offset).take (P.cellsOf f.type)) = some x) → ∃ y, d.K w y ((cs.drop off).take d.sz) ∧ ok y
theorem OpensF.one {f : Field} {off : Nat} {d : Kd α} {ok : α → Prop} (h : Opens P f.type d ok) (ho : f.offset = off) : OpensF P [f] off d ok := by
  intro H enc w base spare held fuel cs hf
  obtain ⟨x, hx⟩ := hf 0 f rfl
  rw [ho, ← h.1] at hx
  exact h.2 enc w base spare held fuel _ x hx
theorem OpensF.cons {f : Field} {fs : List Field} {off off' : Nat} {a : Kd α} {b : Kd β} {ok1 : α → Prop} {ok2 : β → Prop} (h : Opens P f.type a ok1) (ho : f.offset = off) (h2 : OpensF P fs off' b ok2) (ho' : off + a.sz = off') :
    OpensF P (f :: fs) off (Kd.pair a b) (fun x => ok1 x.1 ∧ ok2 x.2) := by
  intro H enc w base spare held fuel cs hf
  obtain ⟨x, hx⟩ := hf 0 f rfl
  rw [ho, ← h.1] at hx
  obtain ⟨y, hy, ky⟩ := h.2 enc w base spare held fuel _ x hx
  obtain ⟨z, hz, kz⟩ := h2 enc w base spare held fuel cs (fun i g hg => hf (i + 1) g (by simpa using hg))
  refine ⟨(y, z), ⟨_, _, ?_, hy, hz⟩, ky, kz⟩
  show (cs.drop off).take (a.sz + b.sz) = _
  rw [List.take_add, List.drop_drop, ho']
theorem Opens.struct {t : TypeId} {fs : Array Field} {d : Kd α} {ok : α → Prop} (ht : P.underlying t = some (.struct fs)) (h : OpensF P fs.toList 0 d ok) (hc : P.cellsOf t = d.sz) : Opens P t d ok :=
  ⟨hc.symm, fun enc w base spare held fuel cs x hx => by
    obtain ⟨xs, n, _, _, hl, hlen, hf⟩ := DataW.trod_struct ht hx
    obtain ⟨y, hy, ky⟩ := h enc w base spare held n cs (fun i f hi => by
      have hi' : fs[i]? = some f := by simpa using hi
      have hlt : i < xs.length := by have := (Array.getElem?_eq_some_iff.1 hi').1; omega
      exact ⟨xs[i], by rw [hf i f hi']; exact List.getElem?_eq_getElem hlt⟩)
    refine ⟨y, ?_, ky⟩
    rw [List.drop_zero, List.take_of_length_le (by omega)] at hy
    exact hy⟩
/-- An argument whose value is one cell. -/
theorem Opens.arg {t : TypeId} {d : Kd α} {ok : α → Prop} (h : Opens P t d ok) {H : Type} {enc : TypeId × Value → H} {w : World} {base : Nat} {spare : Nat → Bool} {held : Bool} {v : Value} {x : DataW H} {ps : List MemPlace}
    (hx : DataW.Trod enc P w base spare held t v x ps) : ∃ y, d.K w y v.cells.toList ∧ ok y := by
  obtain ⟨fuel, hf⟩ := hx
  exact h.2 enc w base spare held fuel _ _ hf
end Go.Proofs.Ytbkpcepnhjnpgaa.Opens
