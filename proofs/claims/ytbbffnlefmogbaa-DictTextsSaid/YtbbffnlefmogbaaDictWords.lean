/- dict's words in plain words: the unlike texts, rising, as the map's sorted keys; each text's place by the map. -/
import Derived.Sort.KeysCollected
import Derived.Maps.Views
namespace Go.Proofs.Ytbbffnlefmogbaa.X
open Go Go.Maps Go.WideMaps
set_option linter.unusedVariables false
set_option linter.unusedSimpArgs false
/-- The map behind the first loop: every text, with nought. -/
def dpD1 (l : List ByteArray) : DataW Unit := l.foldl (fun D s => D.put (.string s.data.toList) (.lit (.int .i64 0))) (.map [])
def dpW (l : List ByteArray) : List (List UInt8) := (strKeys (dpD1 l)).mergeSort fun x y => decide (x ≤ y)
def dpL (l : List ByteArray) : List ByteArray := (dpW l).map fun s => (⟨s.toArray⟩ : ByteArray)
def dpLits (l : List ByteArray) : List Lit := l.map fun s => Lit.string s.data.toList
theorem dpD1_eq (l : List ByteArray) : dpD1 l = setOf (.lit (.int .i64 0)) (dpLits l) := by
  unfold dpD1 setOf dpLits
  rw [List.foldl_map]
theorem dpLits_key (l : List ByteArray) : ∀ x ∈ dpLits l, WideAt.IsKeyLit x := by
  intro x hx
  obtain ⟨s, hs, rfl⟩ := List.mem_map.1 hx
  trivial
def StrsM (D : DataW Unit) : Prop := ∃ es, D = .map es ∧ es.Pairwise (fun p q => p.1 ≠ q.1) ∧ ∀ p ∈ es, ∃ x, p.1 = .string x
theorem StrsM.put {D : DataW Unit} (h : StrsM D) (x : List UInt8) (d : DataW Unit) : StrsM (D.put (.string x) d) := by
  obtain ⟨es, rfl, hp, hs⟩ := h
  obtain ⟨es', e', hp'⟩ := Tidy.put (D := .map es) ⟨es, rfl, hp⟩ (k := .string x) trivial d
  refine ⟨es', e', hp', ?_⟩
  have e2 : DataW.map (H := Unit) (DataW.insert (.string x, d) (es.filter fun p => !p.1.sameKey (.string x))) = .map es' := e'
  injection e2 with e2
  subst e2
  intro p hp2
  have h3 := ((Go.WideShapes.insert_perm (Lit.string x, d) (es.filter fun p => !p.1.sameKey (.string x))).mem_iff).1 hp2
  rcases List.mem_cons.1 h3 with rfl | h4
  · exact ⟨x, rfl⟩
  · exact hs p (List.mem_filter.1 h4).1
theorem StrsM.fold : ∀ (l : List ByteArray) (D : DataW Unit), StrsM D → StrsM (l.foldl (fun D s => D.put (.string s.data.toList) (.lit (.int .i64 0))) D)
  | [], _, h => h
  | s :: l, D, h => StrsM.fold l _ (h.put _ _)
theorem dpD1_strs (l : List ByteArray) : StrsM (dpD1 l) := StrsM.fold l _ ⟨[], rfl, List.Pairwise.nil, fun p hp => by cases hp⟩
theorem strs_nodup {D : DataW Unit} (h : StrsM D) : (strKeys D).Nodup := by
  obtain ⟨es, rfl, hp, hs⟩ := h
  show (es.map fun p => strOf p.1).Nodup
  refine List.pairwise_map.2 (hp.imp_of_mem fun {p q} hp' hq' hne e => hne ?_)
  obtain ⟨a, ha⟩ := hs p hp'
  obtain ⟨b, hb⟩ := hs q hq'
  rw [ha, hb] at e ⊢
  exact congrArg _ e
theorem strs_mem {D : DataW Unit} (h : StrsM D) (x : List UInt8) : x ∈ strKeys D ↔ has D (.string x) = true := by
  obtain ⟨es, rfl, hp, hs⟩ := h
  rw [has_eq, List.any_eq_true]
  show x ∈ es.map (fun p => strOf p.1) ↔ _
  rw [List.mem_map]
  constructor
  · rintro ⟨p, hp', rfl⟩
    obtain ⟨a, ha⟩ := hs p hp'
    exact ⟨p, hp', by rw [ha]; simp [Lit.sameKey, strOf]⟩
  · rintro ⟨p, hp', hq⟩
    obtain ⟨a, ha⟩ := hs p hp'
    rw [ha] at hq
    exact ⟨p, hp', by rw [ha]; simpa [Lit.sameKey, strOf] using hq⟩
theorem strs_len {D : DataW Unit} (h : StrsM D) : (strKeys D).length = Maps.size D := by
  obtain ⟨es, rfl, hp, hs⟩ := h
  show (es.map fun p => strOf p.1).length = es.length
  rw [List.length_map]
theorem addKey_len : ∀ (xs acc : List Lit), (xs.foldl addKey acc).length ≤ acc.length + xs.length
  | [], acc => by simp
  | x :: xs, acc => by
    rw [List.foldl_cons]
    refine Nat.le_trans (addKey_len xs (addKey acc x)) ?_
    have : (addKey acc x).length ≤ acc.length + 1 := by unfold addKey; split <;> simp
    rw [List.length_cons]; omega
theorem dpD1_size (l : List ByteArray) : Maps.size (dpD1 l) ≤ l.length := by
  rw [dpD1_eq, size_setOf _ _ (dpLits_key l)]
  refine Nat.le_trans (addKey_len _ _) ?_
  unfold dpLits
  rw [List.length_map]; simp
theorem dpL_len (l : List ByteArray) : (dpL l).length ≤ l.length := by
  unfold dpL dpW
  rw [List.length_map, List.length_mergeSort, strs_len (dpD1_strs l)]
  exact dpD1_size l
theorem dpW_mem (l : List ByteArray) (x : List UInt8) : x ∈ dpW l ↔ ∃ s ∈ l, s.data.toList = x := by
  unfold dpW
  rw [List.mem_mergeSort, strs_mem (dpD1_strs l), dpD1_eq, has_setOf _ _ _ (dpLits_key l), List.any_eq_true]
  unfold dpLits
  constructor
  · rintro ⟨y, hy, h⟩
    obtain ⟨s, hs, rfl⟩ := List.mem_map.1 hy
    exact ⟨s, hs, by simpa [Lit.sameKey] using h⟩
  · rintro ⟨s, hs, rfl⟩
    exact ⟨_, List.mem_map.2 ⟨s, hs, rfl⟩, by simp [Lit.sameKey]⟩
theorem ba_back (s : ByteArray) : (⟨s.data.toList.toArray⟩ : ByteArray) = s := by
  cases s; simp
theorem dpL_mem (l : List ByteArray) (s : ByteArray) : s ∈ dpL l ↔ s ∈ l := by
  unfold dpL
  rw [List.mem_map]
  constructor
  · rintro ⟨x, hx, rfl⟩
    obtain ⟨t, ht, rfl⟩ := (dpW_mem l x).1 hx
    rw [ba_back]; exact ht
  · intro h
    exact ⟨s.data.toList, (dpW_mem l _).2 ⟨s, h, rfl⟩, ba_back s⟩
theorem dpW_nodup (l : List ByteArray) : (dpW l).Nodup := ((List.mergeSort_perm _ _).nodup_iff).2 (strs_nodup (dpD1_strs l))
theorem dpW_le (l : List ByteArray) : (dpW l).Pairwise fun x y => x ≤ y := by
  have tr : ∀ a b c : List UInt8, leB a b = true → leB b c = true → leB a c = true := fun a b c h1 h2 => by simp only [leB, decide_eq_true_eq] at *; exact List.le_trans h1 h2
  have to : ∀ a b : List UInt8, (leB a b || leB b a) = true := fun a b => by simp only [leB, Bool.or_eq_true, decide_eq_true_eq]; exact List.le_total a b
  exact (List.pairwise_mergeSort tr to (strKeys (dpD1 l))).imp fun h => by simpa [leB] using h
/-- The words rise. -/
theorem dpL_lt (l : List ByteArray) : (dpL l).Pairwise fun a b => a.data.toList < b.data.toList := by
  unfold dpL
  refine List.pairwise_map.2 ?_
  have h := (dpW_le l).and (dpW_nodup l)
  refine h.imp fun {a b} h => ?_
  have e1 : (⟨a.toArray⟩ : ByteArray).data.toList = a := by simp
  have e2 : (⟨b.toArray⟩ : ByteArray).data.toList = b := by simp
  rw [e1, e2]
  rcases Classical.em (a < b) with h1 | h1
  · exact h1
  · exact absurd (List.le_antisymm h.1 (List.not_lt.mp h1)) h.2
theorem dpL_nodup (l : List ByteArray) : (dpL l).Nodup := (dpL_lt l).imp fun {a b} h e => by rw [e] at h; exact List.lt_irrefl _ h
theorem dpL_size (l : List ByteArray) (hl : (l.all fun s => decide (s.size ≤ 1000000)) = true) : ∀ s ∈ dpL l, s.size ≤ 1000000 := by
  intro s hs
  have h := List.all_eq_true.mp hl s ((dpL_mem l s).1 hs)
  exact of_decide_eq_true h
theorem getD_get (L : List ByteArray) (i : Nat) (h : i < L.length) : L.getD i ByteArray.empty = L[i] := by simp [List.getD, h]
/-- Where a text stands among the words. -/
def dpIx (W : List ByteArray) (s : ByteArray) : Nat := W.findIdx fun t => decide (t = s)
/-- The map behind the second loop's first n rounds: each text's place. -/
def dpD2 (l : List ByteArray) : Nat → DataW Unit
  | 0 => dpD1 l
  | n + 1 => (dpD2 l n).put (.string ((dpL l).getD n ByteArray.empty).data.toList) (.lit (.int .i64 (n : Int)))
theorem dpD2_strs (l : List ByteArray) : ∀ n, StrsM (dpD2 l n)
  | 0 => dpD1_strs l
  | n + 1 => (dpD2_strs l n).put _ _
theorem dpD2_at (l : List ByteArray) (z : DataW Unit) : ∀ n, n ≤ (dpL l).length → ∀ i (hi : i < n), (dpD2 l n).atKey (.string ((dpL l).getD i ByteArray.empty).data.toList) z = .lit (.int .i64 (i : Int))
  | 0, _, i, hi => by omega
  | n + 1, hn, i, hi => by
    rw [dpD2]
    by_cases e : i = n
    · subst e
      obtain ⟨es, h1, h2, h3⟩ := dpD2_strs l i
      exact atKey_put_same ⟨es, h1⟩ (show WideAt.IsKeyLit (Lit.string _) from trivial) _ _
    · rw [atKey_put_other]
      · exact dpD2_at l z n (by omega) i (by omega)
      · intro h
        injection h with h
        have h4 := List.pairwise_iff_getElem.1 (dpL_lt l) i n (by omega) (by omega) (by omega)
        rw [getD_get _ i (by omega), getD_get _ n (by omega)] at h
        rw [h] at h4
        exact List.lt_irrefl _ h4
theorem dpIx_lt (l : List ByteArray) (s : ByteArray) (h : s ∈ l) : dpIx (dpL l) s < (dpL l).length := by
  unfold dpIx
  exact List.findIdx_lt_length_of_exists ⟨s, (dpL_mem l s).2 h, by simp⟩
theorem dpIx_at (l : List ByteArray) (s : ByteArray) (h : s ∈ l) : (dpL l).getD (dpIx (dpL l) s) ByteArray.empty = s := by
  have h1 := dpIx_lt l s h
  rw [getD_get _ _ h1]
  have h2 : decide ((dpL l)[dpIx (dpL l) s] = s) = true := List.findIdx_getElem (w := h1)
  exact of_decide_eq_true h2
/-- The text's place, as the map has it. -/
theorem dp_place (l : List ByteArray) (s : ByteArray) (h : s ∈ l) (z : DataW Unit) : (dpD2 l (dpL l).length).atKey (.string s.data.toList) z = .lit (.int .i64 (dpIx (dpL l) s : Int)) := by
  have h2 := dpD2_at l z _ (Nat.le_refl _) _ (dpIx_lt l s h)
  rw [dpIx_at l s h] at h2
  exact h2
end Go.Proofs.Ytbbffnlefmogbaa.X
