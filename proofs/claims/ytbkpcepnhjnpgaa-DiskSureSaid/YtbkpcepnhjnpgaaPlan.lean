/- A region that draws its order, by a plan: what only reads is taken first, under one condition on the world; what writes comes in line; behind the last operation the condition need not hold. -/
import Derived.OrdersHeld
import Derived.StillTail
import Derived.StillTailTactics
import Derived.Test.YtbkpcepnhjnpgaaWorldB
namespace Go.Proofs.Ytbkpcepnhjnpgaa.X
open Go.RowKit
set_option linter.unusedVariables false
set_option linter.unusedSimpArgs false
section
variable {P : Program} {ops : Array Oper} {Q : Exit → Act → World → Prop} {md : Region.Mode} {S : World → Prop} {n : Nat}
def wpAnyT (P : Program) (md : Region.Mode) (ops : Array Oper) (Q : Exit → Act → World → Prop) (S : World → Prop) (n : Nat) : Nat → Array Bool → Act → World → Prop
  | 0, listed, a, w => Region.ready md ops listed = [] ∧ Q .normal a w
  | fuel + 1, listed, a, w =>
    (Region.ready md ops listed = [] → Q .normal a w) ∧
    ∀ i ∈ Region.ready md ops listed, wpOp P ops Q i (fun a' w' => (i < n → S w') ∧ wpAnyT P md ops Q S n fuel (listed.setIfInBounds i true) a' w') a w
theorem wpAny_of_T : ∀ (fuel : Nat) (listed : Array Bool) (a : Act) (w : World), wpAnyT P md ops Q S n fuel listed a w → wpAny P md ops Q fuel listed a w
  | 0, _, _, _, h => h
  | fuel + 1, _, _, _, h => ⟨h.1, fun i hi => wpOp_mono (fun a' w' h' => wpAny_of_T fuel _ a' w' h'.2) (h.2 i hi)⟩
theorem wpAnyT_first {i : Nat} {oi : Oper} {v : Value} (hi : ops[i]? = some oi) (hsel : ∀ (j : Nat) (o : Oper) cs b, ops[j]? = some o → o.op ≠ .select cs b)
    (hs : Region.sinkB md ops n = true) (hc : Region.chainB md ops n = true) (hn : n < ops.size) (hin : i < n)
    (hQ : ∀ c a w, Q (.panic c) (a.put oi.dst v) w → Q (.panic c) a w) :
    ∀ (fuel : Nat) (listed : Array Bool) (a : Act) (w : World), HeadInv md ops n listed →
      (∀ j oj, ops[j]? = some oj → j ≠ i → listed.getD j true = false → (∀ e ∈ oj.after, Region.binds md e = true → e.on ≠ i) → oi.apart ops oj = true) →
      i ∈ Region.ready md ops listed → YieldsIf P ops S oi v a → S w →
      wpAnyT P md ops Q S n fuel (listed.setIfInBounds i true) (a.put oi.dst v) w → wpAnyT P md ops Q S n (fuel + 1) listed a w := by
  intro fuel
  induction fuel with
  | zero =>
    intro listed a w inv _ hr hy hS H
    refine ⟨fun h => (by rw [h] at hr; cases hr), fun j hj => ?_⟩
    by_cases hji : j = i
    · subst hji; exact hy.wpOp hi hS ⟨fun _ => hS, H⟩
    · have := ready_mono hj hji
      rw [H.1] at this
      cases this
  | succ fuel ih =>
    intro listed a w inv hfree hr hy hS H
    refine ⟨fun h => (by rw [h] at hr; cases hr), fun j hj => ?_⟩
    by_cases hji : j = i
    · subst hji; exact hy.wpOp hi hS ⟨fun _ => hS, H⟩
    · have hun := (mem_ready.1 hr).1
      have hjn : j < n := by
        rcases Nat.lt_or_ge j n with h | h
        · exact h
        · exact absurd hj (tail_waits hs hc hn inv _ i rfl hin hun j h)
      have h1 := H.2 j (ready_mono hj hji)
      obtain ⟨hjun, oj, hoj, hall⟩ := mem_ready.1 hj
      have hnot : ∀ e ∈ oj.after, Region.binds md e = true → e.on ≠ i := fun e he hb heq => by
        have h1 := hall e he hb
        rw [heq, getD_both hun] at h1
        cases h1
      have h2 := wpOp_putIf hoj (hfree j oj hoj hji hjun hnot) (fun cs b => hsel i oi cs b hi) (fun cs b => hsel j oj cs b hoj) hQ hy h1
      have hfree' : ∀ k ok, ops[k]? = some ok → k ≠ i → (listed.setIfInBounds j true).getD k true = false →
          (∀ e ∈ ok.after, Region.binds md e = true → e.on ≠ i) → oi.apart ops ok = true := fun k ok hk hki hun hno => by
        refine hfree k ok hk hki ?_ hno
        by_cases hjk : j = k
        · subst hjk; exact hjun
        · rw [getD_set_ne true hjk] at hun; exact hun
      refine wpOp_mono (fun a' w' h3 => ⟨h3.2.1, ih (listed.setIfInBounds j true) a' w' (inv.set hj hjn) hfree' (ready_mono hr (Ne.symm hji)) h3.1 (h3.2.1 hjn) ?_⟩) h2
      rw [Array.setIfInBounds_comm _ _ hji]
      exact h3.2.2
def nop : Oper := { dst := none, op := .move (.const undef), type := 0, pos := "", after := #[], guard := none }
/-- What is taken first, in line: each yields its value in every world that meets S. -/
def wpHeld (P : Program) (ops : Array Oper) (S : World → Prop) (K : Act → Prop) : List Oper → Act → Prop
  | [], a => K a
  | o :: r, a => ∃ v, YieldsIf P ops S o v a ∧ wpHeld P ops S K r (a.put o.dst v)
/-- What comes behind, in line. -/
def wpPost (P : Program) (ops : Array Oper) (Q : Exit → Act → World → Prop) (S : World → Prop) (n : Nat) : List (Nat × Oper) → Act → World → Prop
  | [], a, w => Q .normal a w
  | (i, o) :: r, a, w => if Region.wanted o (yielded ops a.tmps) then o.wp P a w (fun a' w' => (i < n → S w') ∧ wpPost P ops Q S n r a' w') Q ∨ (o.asks P a w ∧ LetsOut Q) else (i < n → S w) ∧ wpPost P ops Q S n r (a.put o.dst undef) w
def Region.seqL (md : Region.Mode) (ops : Array Oper) : List Nat → Array Bool → Bool
  | [], listed => (Region.ready md ops listed).isEmpty
  | i :: r, listed => decide (Region.ready md ops listed = [i]) && Region.seqL md ops r (listed.setIfInBounds i true)
def Region.planL (md : Region.Mode) (ops : Array Oper) (n : Nat) (post : List Nat) : List Nat → Array Bool → Bool
  | [], listed => Region.seqL md ops post listed
  | i :: r, listed => (Region.ready md ops listed).contains i && Region.free md ops listed i && decide (i < n) && Region.planL md ops n post r (listed.setIfInBounds i true)
def Region.planB (md : Region.Mode) (ops : Array Oper) (n : Nat) (pre post : List Nat) : Bool :=
  Region.noSelect ops && decide (n < ops.size) && Region.sinkB md ops n && Region.chainB md ops n && Region.planL md ops n post pre (Array.replicate ops.size false) && decide (pre.length + post.length = ops.size)
theorem at_l {l : List Oper} {i : Nat} (h : i < l.toArray.size) : l.toArray[i]? = some (l.getD i nop) := by
  have h' : i < l.length := by simpa using h
  simp [List.getD, h']
theorem wpAnyT_seq {L : List Oper} : ∀ (l : List Nat) (listed : Array Bool) (a : Act) (w : World), Region.seqL md L.toArray l listed = true → wpPost P L.toArray Q S n (l.map fun i => (i, L.getD i nop)) a w → wpAnyT P md L.toArray Q S n l.length listed a w
  | [], _, _, _, hB, h => ⟨by simpa [Region.seqL] using hB, h⟩
  | k :: l, listed, a, w, hB, h => by
    simp only [Region.seqL, Bool.and_eq_true, decide_eq_true_eq] at hB
    refine ⟨fun h1 => (by rw [hB.1] at h1; cases h1), fun i hi => ?_⟩
    have hlt : i < L.toArray.size := by
      obtain ⟨_, o, ho, _⟩ := mem_ready.1 hi
      exact (Array.getElem?_eq_some_iff.1 ho).1
    rw [hB.1] at hi
    have hik : i = k := by simpa using hi
    subst hik
    have h0 := at_l hlt
    have h1 : wpOp P L.toArray Q i (fun a' w' => (i < n → S w') ∧ wpPost P L.toArray Q S n (l.map fun i => (i, L.getD i nop)) a' w') a w := by
      unfold wpOp
      rw [h0]
      exact h
    exact wpOp_mono (fun a' w' h' => ⟨h'.1, wpAnyT_seq l _ a' w' hB.2 h'.2⟩) h1
theorem wpAnyT_plan {L : List Oper} {post : List Nat} (hsel : Region.noSelect L.toArray = true) (hs : Region.sinkB md L.toArray n = true) (hc : Region.chainB md L.toArray n = true) (hn : n < L.toArray.size) (hQ : ∀ c a d v w, Q (.panic c) (Act.put a d v) w → Q (.panic c) a w) {w : World} (hS : S w) :
    ∀ (l : List Nat) (listed : Array Bool) (a : Act), HeadInv md L.toArray n listed → Region.planL md L.toArray n post l listed = true → wpHeld P L.toArray S (fun a' => wpPost P L.toArray Q S n (post.map fun i => (i, L.getD i nop)) a' w) (l.map fun i => L.getD i nop) a → wpAnyT P md L.toArray Q S n (l.length + post.length) listed a w
  | [], listed, a, inv, hB, h => by
    rw [List.length_nil, Nat.zero_add]
    exact wpAnyT_seq post listed a w hB h
  | i :: l, listed, a, inv, hB, h => by
    simp only [Region.planL, Bool.and_eq_true, decide_eq_true_eq] at hB
    obtain ⟨⟨⟨hr, hf⟩, hin⟩, hB'⟩ := hB
    obtain ⟨v, hy, hK⟩ := h
    have hi := at_l (l := L) (i := i) (by omega)
    have hr' : i ∈ Region.ready md L.toArray listed := by simpa using hr
    rw [show (i :: l).length + post.length = (l.length + post.length) + 1 by simp; omega]
    exact wpAnyT_first hi (Region.noSelect_spec hsel) hs hc hn hin (fun c a w => hQ c a _ _ w) _ listed a w inv (Region.free_spec hi hf) hr' hy hS (wpAnyT_plan hsel hs hc hn hQ hS l _ _ (inv.set hr' hin) hB' hK)
theorem wp_region_plan {id : Nat} {a : Act} {w : World} {l : List Oper} (n : Nat) (pre post : List Nat) (S : World → Prop) (hm : P.follows .mixedOrders = true) (hB : Region.planB .any l.toArray n pre post = true)
    (hQ : ∀ c a d v w, Q (.panic c) (Act.put a d v) w → Q (.panic c) a w) (hS : S w.drew)
    (h : wpHeld P l.toArray S (fun a' => wpPost P l.toArray Q S n (post.map fun i => (i, l.getD i nop)) a' w.drew) (pre.map fun i => l.getD i nop) a) : (Code.region id l.toArray true).wp P Q a w := by
  simp only [Region.planB, Bool.and_eq_true, decide_eq_true_eq] at hB
  obtain ⟨⟨⟨⟨⟨hsel, hn⟩, hs⟩, hc⟩, hpl⟩, hlen⟩ := hB
  have inv0 : HeadInv .any l.toArray n (Array.replicate l.toArray.size false) :=
    ⟨by simp, fun j oj _ hl => (by rw [getD_replicate_false] at hl; cases hl), fun t _ ht => getD_in (by simpa using ht) (getD_replicate_false _ _)⟩
  refine wp_region_any hm ?_
  have := wpAny_of_T _ _ _ _ (wpAnyT_plan (md := .any) hsel hs hc hn hQ hS pre _ a inv0 hpl h)
  rwa [hlen] at this
def valOf (K : Value → Prop) (w : World) : Result Next → Prop
  | .ok (.value u) w' => w' = w ∧ K u
  | _ => False
theorem valOf_ok (K : Value → Prop) (w : World) (u : Value) : valOf K w (.ok (.value u) w) = K u := by simp [valOf]
theorem held_nil {K : Act → Prop} {a : Act} (h : K a) : wpHeld P ops S K [] a := h
theorem held_step {K : Act → Prop} {r : List Oper} {a : Act} {o : Oper} {v : Value} (hw : ∃ w, S w)
    (h : ∀ w', S w' → ∀ J : Value → Prop, J v → if Region.wanted o (yielded ops a.tmps) then valOf J w' ((execOp a.eval o).run P w') else J undef)
    (hr : wpHeld P ops S K r (a.put o.dst v)) : wpHeld P ops S K (o :: r) a := by
  refine ⟨v, ?_, hr⟩
  by_cases hd : Region.wanted o (yielded ops a.tmps) = true
  · refine .inl ⟨hd, fun w hS => ?_⟩
    have h1 := h w hS (fun u => u = v) rfl
    rw [if_pos hd] at h1
    generalize (execOp a.eval o).run P w = q at h1
    unfold valOf at h1
    split at h1
    · obtain ⟨rfl, rfl⟩ := h1; rfl
    · exact h1.elim
  · obtain ⟨w, hS⟩ := hw
    have h1 := h w hS (fun u => u = v) rfl
    rw [if_neg hd] at h1
    exact .inr ⟨by simpa using hd, h1.symm⟩
theorem post_step {i : Nat} {r : List (Nat × Oper)} {a : Act} {w : World} {o : Oper}
    (h : ∀ K : Act → World → Prop, (∀ a' w', (i < n → S w') → wpPost P ops Q S n r a' w' → K a' w') → wpList P ops (Exit.then K Q) [o] a w) : wpPost P ops Q S n ((i, o) :: r) a w :=
  h (fun a' w' => (i < n → S w') ∧ wpPost P ops Q S n r a' w') (fun a' w' x y => ⟨x, y⟩)
/-- What is taken first and what comes in its turn, in line. -/
def wpMix (P : Program) (ops : Array Oper) (Q : Exit → Act → World → Prop) (S : World → Prop) (K : Act → World → Prop) : List (Bool × Oper) → Act → World → Prop
  | [], a, w => K a w
  | (true, o) :: r, a, w => ∃ v, YieldsIf P ops S o v a ∧ wpMix P ops Q S K r (a.put o.dst v) w
  | (false, o) :: r, a, w => if Region.wanted o (yielded ops a.tmps) then o.wp P a w (fun a' w' => S w' ∧ wpMix P ops Q S K r a' w') Q ∨ (o.asks P a w ∧ LetsOut Q) else S w ∧ wpMix P ops Q S K r (a.put o.dst undef) w
def Region.planM (md : Region.Mode) (ops : Array Oper) (n : Nat) (post : List Nat) : List (Bool × Nat) → Array Bool → Bool
  | [], listed => Region.seqL md ops post listed
  | (true, i) :: r, listed => (Region.ready md ops listed).contains i && Region.free md ops listed i && decide (i < n) && Region.planM md ops n post r (listed.setIfInBounds i true)
  | (false, i) :: r, listed => decide (Region.ready md ops listed = [i]) && decide (i < n) && Region.planM md ops n post r (listed.setIfInBounds i true)
def Region.mixB (md : Region.Mode) (ops : Array Oper) (n : Nat) (mix : List (Bool × Nat)) (post : List Nat) : Bool :=
  Region.noSelect ops && decide (n < ops.size) && Region.sinkB md ops n && Region.chainB md ops n && Region.planM md ops n post mix (Array.replicate ops.size false) && decide (mix.length + post.length = ops.size)
theorem wpAnyT_mix {L : List Oper} {post : List Nat} (hsel : Region.noSelect L.toArray = true) (hs : Region.sinkB md L.toArray n = true) (hc : Region.chainB md L.toArray n = true) (hn : n < L.toArray.size) (hQ : ∀ c a d v w, Q (.panic c) (Act.put a d v) w → Q (.panic c) a w) :
    ∀ (l : List (Bool × Nat)) (listed : Array Bool) (a : Act) (w : World), S w → HeadInv md L.toArray n listed → Region.planM md L.toArray n post l listed = true → wpMix P L.toArray Q S (fun a' w' => wpPost P L.toArray Q S n (post.map fun i => (i, L.getD i nop)) a' w') (l.map fun x => (x.1, L.getD x.2 nop)) a w → wpAnyT P md L.toArray Q S n (l.length + post.length) listed a w
  | [], listed, a, w, hS, inv, hB, h => by
    rw [List.length_nil, Nat.zero_add]
    exact wpAnyT_seq post listed a w hB h
  | (true, i) :: l, listed, a, w, hS, inv, hB, h => by
    simp only [Region.planM, Bool.and_eq_true, decide_eq_true_eq] at hB
    obtain ⟨⟨⟨hr, hf⟩, hin⟩, hB'⟩ := hB
    obtain ⟨v, hy, hK⟩ := h
    have hi := at_l (l := L) (i := i) (by omega)
    have hr' : i ∈ Region.ready md L.toArray listed := by simpa using hr
    rw [show ((true, i) :: l).length + post.length = (l.length + post.length) + 1 by simp; omega]
    exact wpAnyT_first hi (Region.noSelect_spec hsel) hs hc hn hin (fun c a w => hQ c a _ _ w) _ listed a w inv (Region.free_spec hi hf) hr' hy hS (wpAnyT_mix hsel hs hc hn hQ l _ _ w hS (inv.set hr' hin) hB' hK)
  | (false, i) :: l, listed, a, w, hS, inv, hB, h => by
    simp only [Region.planM, Bool.and_eq_true, decide_eq_true_eq] at hB
    obtain ⟨⟨hr, hin⟩, hB'⟩ := hB
    rw [show ((false, i) :: l).length + post.length = (l.length + post.length) + 1 by simp; omega]
    refine ⟨fun h1 => (by rw [hr] at h1; cases h1), fun j hj => ?_⟩
    have hj' := hj
    rw [hr] at hj
    have hji : j = i := by simpa using hj
    subst hji
    have h0 := at_l (l := L) (i := j) (by omega)
    have h1 : wpOp P L.toArray Q j (fun a' w' => S w' ∧ wpMix P L.toArray Q S (fun a' w' => wpPost P L.toArray Q S n (post.map fun i => (i, L.getD i nop)) a' w') (l.map fun x => (x.1, L.getD x.2 nop)) a' w') a w := by
      unfold wpOp
      rw [h0]
      exact h
    exact wpOp_mono (fun a' w' h' => ⟨fun _ => h'.1, wpAnyT_mix hsel hs hc hn hQ l _ a' w' h'.1 (inv.set hj' hin) hB' h'.2⟩) h1
theorem wp_region_mix {id : Nat} {a : Act} {w : World} {l : List Oper} (n : Nat) (mix : List (Bool × Nat)) (post : List Nat) (S : World → Prop) (hm : P.follows .mixedOrders = true) (hB : Region.mixB .any l.toArray n mix post = true)
    (hQ : ∀ c a d v w, Q (.panic c) (Act.put a d v) w → Q (.panic c) a w) (hS : S w.drew)
    (h : wpMix P l.toArray Q S (fun a' w' => wpPost P l.toArray Q S n (post.map fun i => (i, l.getD i nop)) a' w') (mix.map fun x => (x.1, l.getD x.2 nop)) a w.drew) : (Code.region id l.toArray true).wp P Q a w := by
  simp only [Region.mixB, Bool.and_eq_true, decide_eq_true_eq] at hB
  obtain ⟨⟨⟨⟨⟨hsel, hn⟩, hs⟩, hc⟩, hpl⟩, hlen⟩ := hB
  have inv0 : HeadInv .any l.toArray n (Array.replicate l.toArray.size false) :=
    ⟨by simp, fun j oj _ hl => (by rw [getD_replicate_false] at hl; cases hl), fun t _ ht => getD_in (by simpa using ht) (getD_replicate_false _ _)⟩
  refine wp_region_any hm ?_
  have := wpAny_of_T _ _ _ _ (wpAnyT_mix (md := .any) hsel hs hc hn hQ mix _ a _ hS inv0 hpl h)
  rwa [hlen] at this
theorem mix_nil {K : Act → World → Prop} {a : Act} {w : World} (h : K a w) : wpMix P ops Q S K [] a w := h
theorem yields_of {a : Act} {o : Oper} {v : Value} (hw : ∃ w, S w)
    (h : ∀ w', S w' → ∀ J : Value → Prop, J v → if Region.wanted o (yielded ops a.tmps) then valOf J w' ((execOp a.eval o).run P w') else J undef) : YieldsIf P ops S o v a := by
  by_cases hd : Region.wanted o (yielded ops a.tmps) = true
  · refine .inl ⟨hd, fun w hS => ?_⟩
    have h1 := h w hS (fun u => u = v) rfl
    rw [if_pos hd] at h1
    generalize (execOp a.eval o).run P w = q at h1
    unfold valOf at h1
    split at h1
    · obtain ⟨rfl, rfl⟩ := h1; rfl
    · exact h1.elim
  · obtain ⟨w, hS⟩ := hw
    have h1 := h w hS (fun u => u = v) rfl
    rw [if_neg hd] at h1
    exact .inr ⟨by simpa using hd, h1.symm⟩
theorem mix_held {K : Act → World → Prop} {r : List (Bool × Oper)} {a : Act} {w : World} {o : Oper} {v : Value} (hw : ∃ w, S w)
    (h : ∀ w', S w' → ∀ J : Value → Prop, J v → if Region.wanted o (yielded ops a.tmps) then valOf J w' ((execOp a.eval o).run P w') else J undef)
    (hr : wpMix P ops Q S K r (a.put o.dst v) w) : wpMix P ops Q S K ((true, o) :: r) a w := ⟨v, yields_of hw h, hr⟩
theorem mix_step {K : Act → World → Prop} {r : List (Bool × Oper)} {a : Act} {w : World} {o : Oper}
    (h : ∀ K' : Act → World → Prop, (∀ a' w', S w' → wpMix P ops Q S K r a' w' → K' a' w') → wpList P ops (Exit.then K' Q) [o] a w) : wpMix P ops Q S K ((false, o) :: r) a w :=
  h (fun a' w' => S w' ∧ wpMix P ops Q S K r a' w') (fun a' w' x y => ⟨x, y⟩)
theorem post_nil {a : Act} {w : World} (h : Q .normal a w) : wpPost P ops Q S n [] a w := h
end
end Go.Proofs.Ytbkpcepnhjnpgaa.X
