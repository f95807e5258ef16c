/- CrcMore, in plain numbers and lists: how bytes are parted does not matter. No condition. -/
import Derived.Test.YtebalgjkabnldaaLawCrcMore
import Derived.Test.YtebalgjkabnldaaCrc
namespace Go.Proofs.Ytebalgjkabnldaa.True_
open Go.RowKit Go.Proofs.Ytebalgjkabnldaa.X Go.Proofs.Ytebalgjkabnldaa.Crc Go.Proofs.YtebalgjkabnldaaW.PrintWords Go.Proofs.YtebalgjkabnldaaW.PrintLast Go.Proofs.YtebalgjkabnldaaW.PrintMore
theorem crcMore_end (l : List (List Int)) (hb : ∀ m ∈ l, IsBytes m) (hl : ∀ m ∈ l, m.length ≤ 200) (hn : l.length ≤ 20) (k : Nat) (hk : 10000 < k) (i : Int) :
    firkinlaw02_CrcMore.j1 k l l.flatten ((l.foldl more 0 : Nat) : Int) i false = some true := by
  obtain ⟨k, rfl⟩ : ∃ m, k = m + 1 := ⟨k - 1, by omega⟩
  have hfb : IsBytes l.flatten := by
    intro x hx
    obtain ⟨m, hm, hxm⟩ := List.mem_flatten.mp hx
    exact hb m hm x hxm
  have hfl : l.flatten.length ≤ 200 * l.length := by
    clear hb hn hfb
    induction l with
    | nil => simp
    | cons m l ih =>
      have h1 := hl m (List.mem_cons_self ..)
      have h2 := ih (fun x hx => hl x (List.mem_cons_of_mem _ hx))
      rw [List.flatten_cons, List.length_append, List.length_cons]
      omega
  rw [firkinlaw02_CrcMore.j1, if_neg (by decide), if_neg (by omega)]
  rw [of_is l (fun m hm => ⟨hb m hm, by have := hl m hm; omega⟩) (by omega) 201 (fun m hm => by have := hl m hm; omega) k (by omega), Option.bind_some, Option.bind_some]
  have h1 := of_is [l.flatten] (fun m hm => by obtain rfl := List.mem_singleton.mp hm; exact ⟨hfb, by omega⟩) (by simp) 4001 (fun m hm => by obtain rfl := List.mem_singleton.mp hm; omega) k (by simp; omega)
  have h2 : ([l.flatten].foldl more 0) = l.foldl more 0 := by rw [more_flat l 0]; rfl
  rw [h2] at h1
  rw [h1, Option.bind_some, if_pos rfl, Option.bind_some, if_pos rfl]
  rfl
theorem crcMore_loop (l : List (List Int)) (hb : ∀ m ∈ l, IsBytes m) (d : Nat) : ∀ (k i : Nat), i + d = 20 → i ≤ l.length → (∀ m ∈ l.take i, m.length ≤ 200) → 2 * d + 10002 < k →
    firkinlaw02_CrcMore.l0 k l (l.take i).flatten (((l.take i).foldl more 0 : Nat) : Int) (i : Int) = some true := by
  induction d with
  | zero =>
    intro k i hd hi hs hk
    obtain ⟨k, rfl⟩ : ∃ m, k = m + 1 := ⟨k - 1, by omega⟩
    rw [firkinlaw02_CrcMore.l0]
    by_cases he : l.length ≤ 20
    · have h1 : l.take i = l := List.take_of_length_le (by omega)
      rw [h1] at hs ⊢
      rw [if_neg (by omega)]
      exact crcMore_end l hb hs he k (by omega) _
    · rw [if_pos (by omega), decide_eq_false (by omega)]
      obtain ⟨k, rfl⟩ : ∃ m, k = m + 1 := ⟨k - 1, by omega⟩
      rw [firkinlaw02_CrcMore.j1, if_neg (by decide), if_pos (by omega)]
      rfl
  | succ d ih =>
    intro k i hd hi hs hk
    obtain ⟨k, rfl⟩ : ∃ m, k = m + 2 := ⟨k - 2, by omega⟩
    rw [firkinlaw02_CrcMore.l0]
    by_cases hlt : i < l.length
    · rw [if_pos (by omega), decide_eq_true (by omega), firkinlaw02_CrcMore.j1, if_pos rfl, if_pos (by omega), if_pos (by omega)]
      have hg : rd_L2 l (i : Int) = l[i] := by
        show List.getD l (i : Int).toNat _ = _
        rw [Int.toNat_natCast]; simp [List.getD, hlt]
      have hmem : l[i] ∈ l := List.getElem_mem hlt
      have htk : l.take (i + 1) = l.take i ++ [l[i]] := List.take_succ_eq_append_getElem hlt
      rw [hg]
      by_cases h2 : (l[i].length : Int) > 200
      · rw [if_pos h2]; rfl
      · have hfl : (l.take i).flatten.length ≤ 200 * 20 := by
          have : ∀ (q : List (List Int)), (∀ m ∈ q, m.length ≤ 200) → q.flatten.length ≤ 200 * q.length := by
            intro q
            induction q with
            | nil => intro _; simp
            | cons m q ihq =>
              intro h
              have a := h m (List.mem_cons_self ..)
              have b := ihq (fun x hx => h x (List.mem_cons_of_mem _ hx))
              rw [List.flatten_cons, List.length_append, List.length_cons]
              omega
          have := this _ hs
          rw [List.length_take] at this
          omega
        have hlt32 : (l.take i).foldl more 0 < 4294967296 := by
          rw [more_flat]
          refine xor_lt (by decide) (run_lt ?_ (xor_lt (by decide) (by decide)))
          intro x hx
          obtain ⟨m, hm, hxm⟩ := List.mem_flatten.mp hx
          exact hb m (List.mem_of_mem_take hm) x hxm
        rw [if_neg h2, if_pos (by omega), more_is _ (hb _ hmem) (by omega) _ hlt32 k (by omega), Option.bind_some]
        have e1 : (l.take i).flatten ++ l[i] = (l.take (i + 1)).flatten := by rw [htk, List.flatten_append, List.flatten_cons, List.flatten_nil, List.append_nil]
        have e2 : more ((l.take i).foldl more 0) l[i] = (l.take (i + 1)).foldl more 0 := by rw [htk, List.foldl_append]; rfl
        rw [e1, e2, w64 (by omega) (by omega), show ((i : Int) + 1) = ((i + 1 : Nat) : Int) by omega]
        refine ih k (i + 1) (by omega) (by omega) ?_ (by omega)
        intro m hm
        rw [htk] at hm
        rcases List.mem_append.mp hm with h | h
        · exact hs m h
        · obtain rfl := List.mem_singleton.mp h; omega
    · have h1 : l.take i = l := List.take_of_length_le (by omega)
      rw [h1] at hs ⊢
      rw [if_neg (by omega)]
      exact crcMore_end l hb hs (by omega) _ (by omega) _
theorem CrcMore : ∀ (x0 : List (List Int)), (x0.length ≤ maxLen ∧ ∀ z ∈ x0, (z.length ≤ maxLen ∧ ∀ zz ∈ z, (Lit.int .u8 zz).wf = true)) → ∃ k, firkinlaw02_CrcMore.f k x0 = some true := by
  intro x0 h
  refine ⟨20000, ?_⟩
  unfold firkinlaw02_CrcMore.f
  have hb : ∀ m ∈ x0, IsBytes m := fun m hm x hx => byte_bounds ((h.2 m hm).2 x hx)
  have := crcMore_loop x0 hb 20 20000 0 (by omega) (by omega) (by intro m hm; simp at hm) (by omega)
  simpa using this
end Go.Proofs.Ytebalgjkabnldaa.True_
