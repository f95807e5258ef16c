/- TightGets: for every input the call returns true, and each argument reads behind the call as it read before it. No condition. (Part 3 of 3: this session's texts, laid together by wip/merge.py.) -/
import Derived.Test.YtbbffnlefmogbaaX0
import Derived.Laws.BitsAllLaws
import Derived.Test.YtbbffnlefmogbaaEnc0
import Derived.Test.YtbbffnlefmogbaaRound
import Derived.Test.YtbbffnlefmogbaaWf
import Derived.Test.YtbbffnlefmogbaaRows
import Derived.Test.YtbbffnlefmogbaaOpens
import Derived.WalkKit
import Derived.ProofKit
import Derived.OpenShut
import Derived.ShutString
import Derived.ChangeOld
import Derived.Below
import Derived.SizedLaws
import Derived.Test.YtbbffnlefmogbaaMTightGets0
import Derived.Test.YtbbffnlefmogbaaMTightGets1
/- The contract of tight.Get: the numbers that bytes are in as few bits as can be. -/
namespace Go.Proofs.Ytbbffnlefmogbaa.X
open Go.RowKit Go.Proofs.YtbbffnlefmogbaaW.PrintWords Go.Proofs.YtbbffnlefmogbaaW.PrintLast Go.Proofs.YtbbffnlefmogbaaW.PrintMore
set_option linter.unusedVariables false
set_option linter.unusedSimpArgs false
/-- So many numbers from a bit on. -/
def getGo (lo : Int) (m : Nat) (b : List Int) : Nat → Nat → List Int
  | 0, _ => []
  | d + 1, at_ => nextOf lo (readGo b m 0 0 at_) :: getGo lo m b d (at_ + m)
theorem getGo_len (lo : Int) (m : Nat) (b : List Int) : ∀ d a, (getGo lo m b d a).length = d
  | 0, _ => rfl
  | d + 1, a => by rw [getGo, List.length_cons, getGo_len lo m b d]
theorem getGo_at (lo : Int) (m : Nat) (b : List Int) : ∀ d a i, i < d → (getGo lo m b d a)[i]? = some (nextOf lo (readGo b m 0 0 (a + i * m)))
  | 0, _, i, h => by omega
  | d + 1, a, 0, h => by rw [getGo, Nat.zero_mul, Nat.add_zero]; rfl
  | d + 1, a, i + 1, h => by
    rw [getGo, List.getElem?_cons_succ, getGo_at lo m b d (a + m) i (by omega), Nat.succ_mul, show a + m + i * m = a + (i * m + m) by omega]
def tight_Get.f (k : Nat) (l0 : List Int) (a1 : Int) : Option (List Int × Bool) :=
  if a1 ≤ 0 ∨ a1 > 4096 then some ([], decide (a1 = 0) && (l0.length == 0)) else (tight_open.f l0 a1.toNat).bind fun o =>
    match o with
    | none => some ([], false)
    | some (lo, y, b, t) => if t = false then some ([], false) else
      if 0 ≤ y ∧ y ≤ 64 ∧ a1.toNat * y.toNat ≤ 8 * b.length ∧ b.length < 1000000000 then (tight_Put.f k (getGo lo y.toNat b a1.toNat 0)).bind fun p => (bytes_Equal.f p l0).bind fun q => if q = true then some (getGo lo y.toNat b a1.toNat 0, true) else some ([], false) else none
theorem tight_Get.mono : ∀ a0 a1 k, LeO (tight_Get.f k a0 a1) (tight_Get.f (k + 1) a0 a1) := by
  intro a0 a1 k r h
  unfold tight_Get.f at h ⊢
  split
  · rename_i h1; rw [if_pos h1] at h; exact h
  · rename_i h1
    rw [if_neg h1] at h
    obtain ⟨o, e1, h⟩ := Option.bind_eq_some_iff.mp h
    rw [e1, Option.bind_some]
    match o, h with
    | none, h => exact h
    | some (lo, y, b, t), h =>
      simp only at h ⊢
      split
      · rename_i h2; rw [if_pos h2] at h; exact h
      · rename_i h2
        rw [if_neg h2] at h
        split
        · rename_i h3
          rw [if_pos h3] at h
          obtain ⟨p, e2, h⟩ := Option.bind_eq_some_iff.mp h
          rw [tight_Put.mono _ _ _ e2]; exact h
        · rename_i h3; rw [if_neg h3] at h; cases h
set_option maxHeartbeats 8000000 in
set_option maxRecDepth 1000000 in
theorem tight_Get.calls (k : Nat) (A0 : Option Addr) (c0 : Nat) (l0 : List Int) (a1 : Int) (r1 : List Int) (r2 : Bool) (w : World) (hr0 : Kd.C (Kd.int .u8) w A0 l0.length l0) (hc0 : l0.length ≤ c0) (h : tight_Get.f k l0 a1 = some (r1, r2)) :
    Calls Try.prog 12 #[.slice A0 l0.length c0, .int .i64 a1] w fun e w' => ∃ v0_ : Value, e = .returned (.tuple #[v0_, .bool r2]) ∧ Kd.R (Kd.int .i64) 2 w' w.heap.size (fun _ => True) v0_ r1 ∧ Below w.heap.size w w' := by
  unfold tight_Get.f at h
  have HR0 := Aside0.mk hr0
  clear hr0
  by_cases h0 : a1 ≤ 0 ∨ a1 > 4096
  · rw [if_pos h0] at h
    simp only [Option.some.injEq, Prod.mk.injEq] at h
    obtain ⟨rfl, rfl⟩ := h
    obtain ⟨ta, hta⟩ : ∃ t : Bool, decide (a1 ≤ 0) = t := ⟨_, rfl⟩
    obtain ⟨tb, htb⟩ : ∃ t : Bool, decide (a1 > 4096) = t := ⟨_, rfl⟩
    obtain ⟨tc, htc⟩ : ∃ t : Bool, (a1 == 0) = t := ⟨_, rfl⟩
    obtain ⟨td, htd⟩ : ∃ t : Bool, ((l0.length : Int) == 0) = t := ⟨_, rfl⟩
    have hx : (ta || tb) = true := by rw [← hta, ← htb]; simpa only [Bool.or_eq_true, decide_eq_true_eq] using h0
    have hres : (decide (a1 = 0) && (l0.length == 0)) = (tc && td) := by
      rw [← htc, ← htd]
      have h7 : ((l0.length : Int) == 0) = (l0.length == 0) := by
        by_cases h6 : l0.length = 0
        · rw [h6]; rfl
        · rw [beq_eq_false_iff_ne.mpr h6, beq_eq_false_iff_ne.mpr (show (l0.length : Int) ≠ 0 by omega)]
      rw [h7]; rfl
    rw [hres]
    clear h0 hres
    cases ta <;> cases tb <;> cases tc <;> cases td <;> first
      | (exact absurd hx (by decide))
      | (clear hx
         go_enter Try.func12, Try.ntmps12
         go_wp2_with fail
         go_ret2
         exact ⟨_, rfl, Kd.R_nil _ _ _ _ _, Below.refl _ _⟩)
  rw [if_neg h0] at h
  obtain ⟨n, rfl⟩ : ∃ n : Nat, a1 = (n : Int) := ⟨a1.toNat, by omega⟩
  have HN : Aside0 (1 ≤ n ∧ n ≤ 4096) := ⟨by omega⟩
  have d1 : decide ((n : Int) ≤ 0) = false := decide_eq_false (by omega)
  have d2 : decide ((n : Int) > 4096) = false := decide_eq_false (by omega)
  have d3 : decide (n ≤ 0) = false := decide_eq_false (by omega)
  have d3b : decide (n = 0) = false := decide_eq_false (by omega)
  have d4 : decide (4096 < n) = false := decide_eq_false (by omega)
  rw [Int.toNat_natCast] at h
  obtain ⟨o, e1, h⟩ := Option.bind_eq_some_iff.mp h
  have E1 := Aside0.mk e1
  have HH := Aside0.mk h
  clear h0 e1 h
  go_enter Try.func12, Try.ntmps12
  go_wp2_with fail
  refine (tight_open.calls A0 c0 l0 n o w HR0.out hc0 E1.out).mono ?_
  rintro e w2 ⟨B2, hO⟩
  have HB2 := Aside0.mk B2
  clear B2
  match o, HH, hO with
  | none, HH, hO =>
    have h := HH.out
    simp only [Option.some.injEq, Prod.mk.injEq] at h
    obtain ⟨rfl, rfl⟩ := h
    obtain rfl := hO
    go_wp2_with fail
    go_ret2
    exact ⟨_, rfl, Kd.R_nil _ _ _ _ _, HB2.out⟩
  | some (lo, y, b, t), HH, hO =>
    obtain ⟨g, A, c, rfl, hK, hG, hcc, hC, hne⟩ := hO
    have h := HH.out
    simp only at h
    cases t with
    | false =>
      rw [if_pos rfl] at h
      simp only [Option.some.injEq, Prod.mk.injEq] at h
      obtain ⟨rfl, rfl⟩ := h
      go_wp2_with fail
      go_ret2
      exact ⟨_, rfl, Kd.R_nil _ _ _ _ _, HB2.out⟩
    | true =>
      rw [if_neg (by decide)] at h
      by_cases hy : 0 ≤ y ∧ y ≤ 64 ∧ n * y.toNat ≤ 8 * b.length ∧ b.length < 1000000000
      case neg => rw [if_neg hy] at h; cases h
      rw [if_pos hy] at h
      obtain ⟨m, rfl⟩ : ∃ m : Nat, y = (m : Int) := ⟨y.toNat, by omega⟩
      rw [Int.toNat_natCast] at h hy
      obtain ⟨all, hall⟩ : ∃ all, getGo lo m b n 0 = all := ⟨_, rfl⟩
      rw [hall] at h
      have HALL := Aside0.mk hall
      have HLEN : Aside0 (all.length = n) := ⟨by rw [← hall, getGo_len]⟩
      obtain ⟨p, e2, h⟩ := Option.bind_eq_some_iff.mp h
      obtain ⟨q, e3, h⟩ := Option.bind_eq_some_iff.mp h
      have E2 := Aside0.mk e2
      have E3 := Aside0.mk e3
      have HH2 := Aside0.mk h
      have HY := Aside0.mk hy
      have HK := Aside0.mk hK
      have HG := Aside0.mk hG
      have HC := Aside0.mk hC
      have HNE := Aside0.mk hne
      have HLT : Aside0 (∀ ad, A = some ad → 0 < b.length → ad.block < w2.heap.size) := ⟨fun ad ha hp => by
        obtain ⟨ad', ea, hx⟩ := Kd.at_int HC.out (0 : Int) (by omega) (by omega)
        rw [ha] at ea
        injection ea with ea
        have h9 := World.block_lt_of_cell? w2 _ hx
        rw [ea]
        simpa [Addr.add] using h9⟩
      obtain ⟨zs, hz⟩ : ∃ zs : List Int, List.replicate n 0 = zs := ⟨_, rfl⟩
      have HZ := Aside0.mk hz
      have HZL : Aside0 (zs.length = n) := ⟨by rw [← hz, List.length_replicate]⟩
      have hmk : (n : Int).toNat * 8 ≤ 281474976710656 := by have := HN.out; omega
      clear hall e2 e3 h hy hK hG hcc hC hne hz
      go_wp2_with ((with_reducible refine gate_dst (N := 32) rfl ?_); refine Kd.R_make (Kd.int .i64) _ 2 rfl (N := 32) rfl 22 _ _ rfl (n : Int) rfl rfl Try.underlying22 (.int .i64 0) 8 info2 rfl (by decide) (by omega) 0 (ok := fun _ => True) (okp := fun _ => True) rfl (fun _ hk => hk) trivial (by omega) hmk (Below.refl _ _) (Nat.le_refl _) ?_; intro v32 w3 hR hb _ _; rw [Int.toNat_natCast, HZ.out] at hR; obtain ⟨gl, cl, ev, hgl1, hgl2, cells, hcl⟩ := Kd.R_form hR (by rw [HZL.out]; exact HN.out.1); subst ev; rw [HZL.out] at hR ⊢; have HRL := Aside0.mk (Kd.R_mono (ok' := fun k => k ≠ g) (Kd.R_bound hR) (fun k hk => by have h9 := hk.2.1; have h8 := blk_lt HK.out; omega)); have HGL := Aside0.mk hgl1; have HK3 := Aside0.mk (blk_below HK.out hb); have HC3 := Aside0.mk (Kd.C_below HC.out hb); have HB3 := Aside0.mk (below_step HB2.out hb); have HGE : Aside0 (∀ ad, A = some ad → 0 < b.length → ad.block ≠ gl) := ⟨fun ad ha hp => by have h9 := HLT.out ad ha hp; omega⟩; clear hR hb hgl1 hgl2 hcl HK HC)
      have hAt : ∀ i, i < n → all[i]? = some (nextOf lo (readGo b m 0 0 (i * m))) := fun i hi => by
        have h9 := getGo_at lo m b n 0 i hi
        rw [HALL.out, Nat.zero_add] at h9; exact h9
      have HAT := Aside0.mk hAt
      have HZS : Aside0 (zs = List.replicate n 0) := ⟨HZ.out.symm⟩
      clear hAt
      go_loopg [35] (n + 1) (fun kq v35 w' => ∃ (i : Nat) (L : List Int), v35 = .int .i64 (i : Int) ∧ Aside0 (kq + i = n + 1) ∧ Aside0 (i ≤ n) ∧ Aside0 (L = all.take i ++ List.replicate (n - i) 0) ∧ Aside0 (Kd.R (Kd.int .i64) 2 w' w2.heap.size (fun k => k ≠ g) (.slice (some ⟨gl, 0, none⟩) n cl) L) ∧ Aside0 (w'.heap[g]? = some (.cells #[.slice A b.length c, .int .i64 ((i * m : Nat) : Int), .int .i64 lo, .int .i64 (m : Int)] 60 (0, 0))) ∧ Aside0 (Kd.C (Kd.int .u8) w' A b.length b) ∧ Aside0 (Below w.heap.size w w'))
      case atStart => exact ⟨0, zs, rfl, ⟨by omega⟩, ⟨by omega⟩, ⟨by rw [HZS.out]; simp⟩, HRL, ⟨by simpa using HK3.out⟩, HC3, HB3⟩
      case round =>
        clear HRL HK3 HC3 HB3
        obtain ⟨i, L, rfl, HQ, HI, HLL, HRL, HK, HC, HB⟩ := hrel
        cases gk with
        | zero => have h1 := HQ.out; have h2 := HI.out; omega
        | succ k2 =>
        have HLN : Aside0 (L.length = n) := ⟨(Kd.R_reads' HRL.out).1.symm⟩
        by_cases hi : i < n
        · have c1 : decide ((i : Int) < (n : Int)) = true := decide_eq_true (by omega)
          have c1b : decide (i < n) = true := decide_eq_true hi
          have hi0 : (0 : Int) ≤ (i : Int) := Int.natCast_nonneg _
          have hi1 : (i : Int) < (n : Int) := by omega
          have HIN := Aside0.mk hi
          have HMUL : Aside0 (i * m + m ≤ n * m) := ⟨by rw [← Nat.succ_mul]; exact Nat.mul_le_mul_right m hi⟩
          have HNM : Aside0 (n * m ≤ 262144) := ⟨Nat.le_trans (Nat.mul_le_mul HN.out.2 (show m ≤ 64 by have := HY.out; omega)) (by decide)⟩
          clear hi
          go_wp2_with fail
          refine (tight_packed_next.calls g A c b (i * m) lo m (readGo b m 0 0 (i * m)) w wr HK.out HG.out HC.out HNE.out HB.out (by unfold tight_row_read.f; rw [if_pos]; have h1 := HMUL.out; have h2 := HY.out; have h3 := HNM.out; omega)).mono ?_
          rintro e w5 ⟨rfl, k5, K5, B5⟩
          have HR5 := Aside0.mk (Kd.R_keep HRL.out K5 (fun k hk => hk))
          have HK5 := Aside0.mk k5
          have HC5 := Aside0.mk (Kd.C_keep (0 : Int) HC.out K5 HNE.out)
          have HB5 := Aside0.mk B5
          obtain ⟨gl', cl', ev, _, _, cells, hcl⟩ := Kd.R_form HR5.out (by rw [HLN.out]; exact HN.out.1)
          have ev1 : gl = gl' := by injection ev with h1 _ _; injection h1 with h1; injection h1 with h1
          clear ev
          subst ev1
          have hil : i < L.length := by have h1 := HLN.out; have h2 := HIN.out; omega
          obtain ⟨ad, ea, hy0⟩ := Kd.at_int (Kd.R_reads' HR5.out).2.2 (i : Int) hi0 (by omega)
          injection ea with ea
          subst ea
          have eadd : (⟨gl, 0, none⟩ : Addr).add (i : Int).toNat = ⟨gl, i, none⟩ := by rw [Int.toNat_natCast]; unfold Addr.add; split <;> simp_all
          rw [eadd] at hy0
          obtain ⟨z, hz⟩ : ∃ z, rd L (i : Int) = z := ⟨_, rfl⟩
          rw [hz] at hy0
          have fy := blk_frozen hcl i
          clear HRL HK HC HB k5 K5 B5 hcl hil eadd hz
          obtain ⟨x, hx⟩ : ∃ x, nextOf lo (readGo b m 0 0 (i * m)) = x := ⟨_, rfl⟩
          rw [hx]
          have HX := Aside0.mk hx
          clear hx
          go_wp2_with fail
          have HLI : Aside0 (L.set i x = all.take (i + 1) ++ List.replicate (n - (i + 1)) 0) := ⟨by
            have h1 := HLL.out
            have h2 := HAT.out i HIN.out
            rw [HX.out] at h2
            have h3 : i < all.length := by rw [HLEN.out]; exact HIN.out
            have h4 : all[i] = x := by rw [List.getElem?_eq_getElem h3] at h2; injection h2
            have h5 : (all.take i).length = i := by rw [List.length_take]; omega
            obtain ⟨d, hd⟩ : ∃ d, n - i = d + 1 := ⟨n - i - 1, by have := HIN.out; omega⟩
            rw [h1, hd, List.replicate_succ, List.set_append_right _ _ (by omega), h5, Nat.sub_self, List.set_cons_zero, List.take_succ_eq_append_getElem h3, h4, List.append_assoc, show n - (i + 1) = d by omega]
            rfl⟩
          have h2 := (Kd.R_putg HR5.out (i : Int) x).1
          rw [Int.toNat_natCast] at h2
          have HR6 := Aside0.mk h2
          have HK6 : Aside0 ((w5.setCell ⟨gl, i, none⟩ (.int .i64 x)).heap[g]? = some (.cells #[.slice A b.length c, .int .i64 ((i * m + m : Nat) : Int), .int .i64 lo, .int .i64 (m : Int)] 60 (0, 0))) := ⟨(Below.heap_setCell w5 ⟨gl, i, none⟩ (.int .i64 x) g (fun h9 => HR5.out.1 gl rfl h9.symm)).trans HK5.out⟩
          have HC6 : Aside0 (Kd.C (Kd.int .u8) (w5.setCell ⟨gl, i, none⟩ (.int .i64 x)) A b.length b) := ⟨Kd.C_keep (0 : Int) HC5.out (KeepBut.set_ (KeepBut.of_below (Below.refl w5.heap.size w5) gl none) i _) HGE.out⟩
          have HB6 := Aside0.mk (below_set HB5.out (g := gl) (j := i) (v := .int .i64 x) (Nat.le_trans (below_size HB2.out) HGL.out))
          have HW : Aside0 ((i : Int) + 1 = ((i + 1 : Nat) : Int)) := ⟨by omega⟩
          clear h2 HR5 HK5 HC5 HB5 hy0 fy
          (try rw [show wrap64 ((i : Int) + 1) = (i : Int) + 1 from by have h1 := HIN.out; have h2 := HN.out; unfold wrap64; omega])
          go_roundg k2
          case measure => omega
          case rel => exact ⟨i + 1, L.set i x, congrArg (Value.int .i64) HW.out, ⟨by have := HQ.out; omega⟩, ⟨by have := HIN.out; omega⟩, HLI, HR6, ⟨by rw [Nat.succ_mul]; exact HK6.out⟩, HC6, HB6⟩
        · have hie : i = n := by have := HI.out; omega
          have c1 : decide ((i : Int) < (n : Int)) = false := decide_eq_false (by omega)
          have c1b : decide (i < n) = false := decide_eq_false hi
          have hLa : L = all := by
            have h1 := HLL.out
            rw [hie, Nat.sub_self, List.replicate_zero, List.append_nil, List.take_of_length_le (by rw [HLEN.out]; exact Nat.le_refl _)] at h1
            exact h1
          subst hLa
          have HCP := tight_Put.calls k (some ⟨gl, 0, none⟩) cl L p wr (Kd.R_reads' HRL.out).2.2 (by rw [HLEN.out]; exact (Kd.R_reads' HRL.out).2.1) E2.out
          rw [HLEN.out] at HCP
          clear hi hie
          go_wp2_with fail
          refine HCP.mono ?_
          rintro e w6 ⟨v6, rfl, R6, B6⟩
          obtain ⟨A6, c6, rfl, hc6, C6⟩ := Kd.R_reads R6
          have HR6 := Aside0.mk (Kd.R_below HRL.out B6)
          have HB6 := Aside0.mk (below_step HB.out B6)
          have HC6 := Aside0.mk C6
          clear HCP R6 B6 C6 HRL HK HC HB
          go_wp2_with fail
          refine (bytes_Equal.calls A6 c6 p A0 c0 l0 q w6 HC6.out hc6 (Kd.C_below HR0.out HB6.out) hc0 E3.out).mono ?_
          rintro e w7 ⟨rfl, D7⟩
          obtain ⟨nd, rfl⟩ := D7
          have h := HH2.out
          cases q with
          | true =>
            rw [if_pos rfl] at h
            simp only [Option.some.injEq, Prod.mk.injEq] at h
            obtain ⟨rfl, rfl⟩ := h
            go_wp2_with fail
            go_ret2
            exact ⟨_, rfl, Kd.R_mono (Kd.R_lower (Kd.R_drewN HR6.out nd) (below_size HB2.out)) (fun _ _ => trivial), pw_below_drewN HB6.out nd⟩
          | false =>
            rw [if_neg (by decide)] at h
            simp only [Option.some.injEq, Prod.mk.injEq] at h
            obtain ⟨rfl, rfl⟩ := h
            go_wp2_with fail
            go_ret2
            exact ⟨_, rfl, Kd.R_nil _ _ _ _ _, pw_below_drewN HB6.out nd⟩
end Go.Proofs.Ytbbffnlefmogbaa.X
-- Printed for this claim by a program of this session (wip/xprint.py) over the kit's printer; Lean checks it.
namespace Go.Proofs.Ytbbffnlefmogbaa.X
open Go.RowKit Go.Proofs.YtbbffnlefmogbaaW.PrintWords Go.Proofs.YtbbffnlefmogbaaW.PrintLast Go.Proofs.YtbbffnlefmogbaaW.PrintMore
attribute [local go_sem] max2_int min2_int max_two min_two max_three min_three max_four min_four   -- for this text's walks alone
set_option linter.unusedVariables false
set_option linter.unusedSimpArgs false

/-! ### firkinlaw07_TightGets: function 4 -/
def firkinlaw07_TightGets.j0 : Nat → List Int → Int → Bool → Option (Bool)
  | 0, _, _, _ => none
  | k + 1, x0, x1, x15 => if x15 = true then ((firkinlaw07_live.f k).bind fun t196 => (some t196)) else ((tight_Get.f k x0 x1).bind fun bt197 => ((firkinref07_Get.f k x0 x1).bind fun bt201 => (if (bt197.2 == bt201.2) = true then ((firkinref07_Same.f k bt197.1 bt201.1).bind fun t205 => (if t205 = true then ((firkinlaw07_live.f k).bind fun t206 => (some t206)) else (some false))) else (some false))))
def firkinlaw07_TightGets.f (k : Nat) (l0 : List Int) (a1 : Int) : Option (Bool) := if (l0.length : Int) > 400 then (firkinlaw07_TightGets.j0 k l0 a1 true) else (firkinlaw07_TightGets.j0 k l0 a1 (decide (a1 > 400)))
theorem firkinlaw07_TightGets.mono_l : ∀ k, (∀ y0 y1 y2, LeO (firkinlaw07_TightGets.j0 k y0 y1 y2) (firkinlaw07_TightGets.j0 (k + 1) y0 y1 y2))
  | 0 => fun _ _ _ r h => by simp [firkinlaw07_TightGets.j0] at h
  | k + 1 => by
    have ih0 := firkinlaw07_TightGets.mono_l k
    · intro y0 y1 y2
      unfold firkinlaw07_TightGets.j0
      repeat' first
      | (with_reducible exact ih0 _ _ _)
      | (with_reducible exact firkinlaw07_live.mono _)
      | (with_reducible exact firkinref07_Get.mono _ _ _)
      | (with_reducible exact firkinref07_Same.mono _ _ _)
      | (with_reducible exact tight_Get.mono _ _ _)
      | (with_reducible exact LeO.refl _)
      | (with_reducible exact LeO.none _)
      | (with_reducible refine LeO.ite ?_ ?_)
      | (with_reducible refine LeO.bind ?_ (fun _ => ?_))
      | exact ih0 _ _ _
      | exact firkinlaw07_live.mono _
      | exact firkinref07_Get.mono _ _ _
      | exact firkinref07_Same.mono _ _ _
      | exact tight_Get.mono _ _ _
      | exact LeO.none _
      | refine LeO.ite ?_ ?_
      | refine LeO.bind ?_ (fun _ => ?_)
theorem firkinlaw07_TightGets.mono : ∀ a0 a1 k, LeO (firkinlaw07_TightGets.f k a0 a1) (firkinlaw07_TightGets.f (k + 1) a0 a1) := by
  intro a0 a1 k
  have ih0 := firkinlaw07_TightGets.mono_l k
  unfold firkinlaw07_TightGets.f
  repeat' first
      | (with_reducible exact ih0 _ _ _)
      | (with_reducible exact firkinlaw07_live.mono _)
      | (with_reducible exact firkinref07_Get.mono _ _ _)
      | (with_reducible exact firkinref07_Same.mono _ _ _)
      | (with_reducible exact tight_Get.mono _ _ _)
      | (with_reducible exact LeO.refl _)
      | (with_reducible exact LeO.none _)
      | (with_reducible refine LeO.ite ?_ ?_)
      | (with_reducible refine LeO.bind ?_ (fun _ => ?_))
      | exact ih0 _ _ _
      | exact firkinlaw07_live.mono _
      | exact firkinref07_Get.mono _ _ _
      | exact firkinref07_Same.mono _ _ _
      | exact tight_Get.mono _ _ _
      | exact LeO.none _
      | refine LeO.ite ?_ ?_
      | refine LeO.bind ?_ (fun _ => ?_)
set_option maxHeartbeats 8000000 in
set_option maxRecDepth 100000 in
theorem firkinlaw07_TightGets.calls (k : Nat) (A0 : Option Addr) (c0 : Nat) (l0 : List Int) (a1 : Int) (r : Bool) (w : World) (hr0 : Kd.C (Kd.int .u8) w A0 l0.length l0) (hc0 : l0.length ≤ c0) (h : firkinlaw07_TightGets.f k l0 a1 = some r) :
    Calls Try.prog 4 #[.slice A0 l0.length c0, .int .i64 a1] w fun e w' => e = .returned (.bool r) ∧ Below w.heap.size w w' := by
  have HR0 := Aside0.mk hr0
  have HC0 := Aside0.mk hc0
  clear hr0 hc0
  have HB := Aside0.mk (Below.refl w.heap.size w)
  have H : (if (l0.length : Int) > 400 then (firkinlaw07_TightGets.j0 k l0 a1 true) else (firkinlaw07_TightGets.j0 k l0 a1 (decide (a1 > 400)))) = some r := h
  clear h
  have HC3 := Aside0.mk H
  clear H
  go_enter Try.func4, Try.ntmps4
  go_upto_region 1 with (fail)
  go_cut [15] (fun v15 wc => ∃ (kq : Nat) (x15_2 : Bool), v15 = .bool x15_2 ∧ Aside0 (firkinlaw07_TightGets.j0 kq l0 a1 x15_2 = some r) ∧ Aside0 (kq ≤ k) ∧ Aside0 (Below w.heap.size w wc))
  case first =>
    have H := HC3.out
    clear HC3
    by_cases c4 : (l0.length : Int) > 400
    · rw [if_pos c4] at H
      have c4b0 : decide (400 < (l0.length : Int)) = true := decide_eq_true c4
      have c4b1 : decide (400 < l0.length) = true := decide_eq_true (by omega)
      clear c4
      (first | rw [c4b0] | (simp only [i64_w, i32_w]; rw [c4b0]) | skip)
      have H' := Aside0.mk H
      clear H
      go_wp2
      go_meet
      case rel => exact ⟨_, (true), (by first | rfl | (simp; done) | (simp [*]; done)), H', ⟨by first | omega | exact Nat.le_refl _⟩, ⟨by repeat (first | (with_reducible first | exact HB.out | apply below_alloc | apply pw_below_drewN | apply below_drew1) | exact HB.out)⟩⟩
    · rw [if_neg c4] at H
      have c4b0 : decide (400 < (l0.length : Int)) = false := decide_eq_false c4
      have c4b1 : decide (400 < l0.length) = false := decide_eq_false (by omega)
      clear c4
      (first | rw [c4b0] | (simp only [i64_w, i32_w]; rw [c4b0]) | skip)
      have H' := Aside0.mk H
      clear H
      go_wp2
      go_meet
      case rel => exact ⟨_, (decide (a1 > 400)), (by first | rfl | (simp; done) | (simp [*]; done)), H', ⟨by first | omega | exact Nat.le_refl _⟩, ⟨by repeat (first | (with_reducible first | exact HB.out | apply below_alloc | apply pw_below_drewN | apply below_drew1) | exact HB.out)⟩⟩
  case rest =>
    clear HC3
    try clear p2
    try clear c4
    try clear c4b0
    try clear c4b1
    obtain ⟨kq, x15_2, rfl, HA, HJ2, HB⟩ := hcut
    cases kq with
    | zero => exact absurd HA.out (by simp [firkinlaw07_TightGets.j0])
    | succ kj2 =>
      have H := HA.out
      clear HA
      simp only [firkinlaw07_TightGets.j0] at H
      by_cases c5 : x15_2 = true
      · subst c5
        have H1 : ((firkinlaw07_live.f kj2).bind fun t196 => (some t196)) = some r := by rw [if_pos rfl] at H; exact H
        clear H
        have H := H1
        clear H1
        replace H := Option.bind_eq_some_iff.mp H
        obtain ⟨t196, A60, H⟩ := H
        replace H : (some t196) = some r := H
        have A6 := Aside0.mk A60
        clear A60
        obtain rfl := Option.some.inj H
        go_wp2_with (first | ((with_reducible refine gate_callee (f := 10) rfl ?_); refine goesL_ (some 16) rfl rfl Try.func10 (by kernel_rfl) rfl #[] rfl (by (try simp only [List.map_toArray, List.map_cons, List.map_nil]); first | done | rfl | (simp only [List.length_drop, List.length_take]; rfl)) ?_; (with_reducible refine (firkinlaw07_live.calls kj2  t196 _ A6.out).mono ?_); rintro e w7 ⟨rfl, hb⟩; refine ⟨_, rfl, ?_⟩; have n0_ := Aside0.mk (below_step (by repeat (first | (with_reducible first | exact HB.out | apply below_alloc | apply pw_below_drewN | apply below_drew1) | exact HB.out)) hb); clear HB; have HB := n0_; clear n0_; (try clear hb); (try clear hb2); (try clear hk); (try clear hi)))
        go_ret
        exact ⟨by first | rfl | (simp [errW_none, errW_some] <;> rfl) | (simp [*, errW_none, errW_some] <;> rfl), by repeat (first | (with_reducible first | exact HB.out | apply below_alloc | apply pw_below_drewN | apply below_drew1) | exact HB.out)⟩
      · replace c5 := Bool.eq_false_iff.mpr c5
        subst c5
        have H1 : ((tight_Get.f kj2 l0 a1).bind fun bt197 => ((firkinref07_Get.f kj2 l0 a1).bind fun bt201 => (if (bt197.2 == bt201.2) = true then ((firkinref07_Same.f kj2 bt197.1 bt201.1).bind fun t205 => (if t205 = true then ((firkinlaw07_live.f kj2).bind fun t206 => (some t206)) else (some false))) else (some false)))) = some r := by rw [if_neg (show ¬ (false = true) by decide)] at H; exact H
        clear H
        have H := H1
        clear H1
        replace H := Option.bind_eq_some_iff.mp H
        obtain ⟨⟨t197, t198⟩, A80, H⟩ := H
        replace H : ((firkinref07_Get.f kj2 l0 a1).bind fun bt201 => (if (t198 == bt201.2) = true then ((firkinref07_Same.f kj2 t197 bt201.1).bind fun t205 => (if t205 = true then ((firkinlaw07_live.f kj2).bind fun t206 => (some t206)) else (some false))) else (some false))) = some r := H
        have A8 := Aside0.mk A80
        clear A80
        replace H := Option.bind_eq_some_iff.mp H
        obtain ⟨⟨t201, t202⟩, A90, H⟩ := H
        replace H : (if (t198 == t202) = true then ((firkinref07_Same.f kj2 t197 t201).bind fun t205 => (if t205 = true then ((firkinlaw07_live.f kj2).bind fun t206 => (some t206)) else (some false))) else (some false)) = some r := H
        have A9 := Aside0.mk A90
        clear A90
        by_cases c10 : (t198 == t202) = true
        · rw [if_pos c10] at H
          have c10b0 : (t198 == t202) = true := c10
          (try (have c10b1 : decide (t198 = t202) = true := by simpa using c10))
          (try (have c10b2 : (t198 == t202) = true := by simpa using c10))
          clear c10
          replace H := Option.bind_eq_some_iff.mp H
          obtain ⟨t205, A110, H⟩ := H
          replace H : (if t205 = true then ((firkinlaw07_live.f kj2).bind fun t206 => (some t206)) else (some false)) = some r := H
          have A11 := Aside0.mk A110
          clear A110
          by_cases c12 : t205 = true
          · subst c12
            have H1 : ((firkinlaw07_live.f kj2).bind fun t206 => (some t206)) = some r := by rw [if_pos rfl] at H; exact H
            clear H
            have H := H1
            clear H1
            replace H := Option.bind_eq_some_iff.mp H
            obtain ⟨t206, A130, H⟩ := H
            replace H : (some t206) = some r := H
            have A13 := Aside0.mk A130
            clear A130
            obtain rfl := Option.some.inj H
            go_wp2_with (first | ((with_reducible refine gate_callee (f := 12) rfl ?_); refine goesL_ (some 20) rfl rfl Try.func12 (by kernel_rfl) rfl #[.slice A0 l0.length c0, .int .i64 a1] rfl (by (try simp only [List.map_toArray, List.map_cons, List.map_nil]); first | done | rfl | (simp only [List.length_drop, List.length_take]; rfl)) ?_; (with_reducible refine (tight_Get.calls kj2 _ _ l0 a1 t197 t198 _ ?side1 ?side2 A8.out).mono ?_); (case side1 => repeat (first | exact (Kd.C_below HR0.out HB.out) | (with_reducible refine Kd.C_alloc ?_ _) | (with_reducible refine Kd.C_drewN ?_ _) | (with_reducible refine Kd.C_drew ?_))); (case side2 => exact HC0.out); rintro e w14 ⟨v199, rfl, ho0, hb⟩; refine ⟨_, rfl, ?_⟩; have n0_ := Aside0.mk (Kd.R_lower ho0 (below_size (by repeat (first | (with_reducible first | exact HB.out | apply below_alloc | apply pw_below_drewN | apply below_drew1) | exact HB.out)))); have n1_ := Aside0.mk (below_step (by repeat (first | (with_reducible first | exact HB.out | apply below_alloc | apply pw_below_drewN | apply below_drew1) | exact HB.out)) hb); clear HB; have HO200 := n0_; have HB := n1_; clear n0_ n1_; (try clear hb); (try clear hb2); (try clear hk); (try clear hi); (try clear ho0)) | ((with_reducible refine gate_callee (f := 16) rfl ?_); refine goesL_ (some 26) rfl rfl Try.func16 (by kernel_rfl) rfl #[.slice A0 l0.length c0, .int .i64 a1] rfl (by (try simp only [List.map_toArray, List.map_cons, List.map_nil]); first | done | rfl | (simp only [List.length_drop, List.length_take]; rfl)) ?_; (with_reducible refine (firkinref07_Get.calls kj2 _ _ l0 a1 t201 t202 _ ?side1 ?side2 A9.out).mono ?_); (case side1 => repeat (first | exact (Kd.C_below HR0.out HB.out) | (with_reducible refine Kd.C_alloc ?_ _) | (with_reducible refine Kd.C_drewN ?_ _) | (with_reducible refine Kd.C_drew ?_))); (case side2 => exact HC0.out); rintro e w15 ⟨v203, rfl, ho0, hb⟩; refine ⟨_, rfl, ?_⟩; have n0_ := Aside0.mk (Kd.R_elder' (by (with_reducible repeat (first | apply Kd.R_alloc | apply Kd.R_drewN | apply Kd.R_drew)); exact HO200.out) (Kd.R_base ho0) hb); have n1_ := Aside0.mk (Kd.R_lower (Kd.R_new' ho0 (Kd.R_lt (by (with_reducible repeat (first | apply Kd.R_alloc | apply Kd.R_drewN | apply Kd.R_drew)); exact HO200.out))) (below_size (by repeat (first | (with_reducible first | exact HB.out | apply below_alloc | apply pw_below_drewN | apply below_drew1) | exact HB.out)))); have n2_ := Aside0.mk (below_step (by repeat (first | (with_reducible first | exact HB.out | apply below_alloc | apply pw_below_drewN | apply below_drew1) | exact HB.out)) hb); clear HO200; clear HB; have HO200 := n0_; have HO204 := n1_; have HB := n2_; clear n0_ n1_ n2_; (try clear hb); (try clear hb2); (try clear hk); (try clear hi); (try clear ho0); obtain ⟨Ao16, co16, eo16⟩ := Kd.R_slice HO200.out; subst eo16; obtain ⟨Ao17, co17, eo17⟩ := Kd.R_slice HO204.out; subst eo17) | (go_at_call 15; (with_reducible refine (firkinref07_Same.calls kj2 _ _ t197 _ _ t201 true _ ?side1 ?side2 ?side3 ?side4 A11.out).mono ?_); (case side1 => repeat (first | exact (Kd.R_reads' HO200.out).2.2 | (with_reducible refine Kd.C_alloc ?_ _) | (with_reducible refine Kd.C_drewN ?_ _) | (with_reducible refine Kd.C_drew ?_))); (case side2 => exact (Kd.R_reads' HO200.out).2.1); (case side3 => repeat (first | exact (Kd.R_reads' HO204.out).2.2 | (with_reducible refine Kd.C_alloc ?_ _) | (with_reducible refine Kd.C_drewN ?_ _) | (with_reducible refine Kd.C_drew ?_))); (case side4 => exact (Kd.R_reads' HO204.out).2.1); rintro e w' ⟨rfl, ⟨nd, rfl⟩⟩) | (go_at_call 10; (with_reducible refine (firkinlaw07_live.calls kj2  t206 _ A13.out).mono ?_); rintro e w18 ⟨rfl, hb⟩; have n0_ := Aside0.mk (Kd.R_below (by (with_reducible repeat (first | apply Kd.R_alloc | apply Kd.R_drewN | apply Kd.R_drew)); exact HO200.out) hb); have n1_ := Aside0.mk (Kd.R_below (by (with_reducible repeat (first | apply Kd.R_alloc | apply Kd.R_drewN | apply Kd.R_drew)); exact HO204.out) hb); have n2_ := Aside0.mk (below_step (by repeat (first | (with_reducible first | exact HB.out | apply below_alloc | apply pw_below_drewN | apply below_drew1) | exact HB.out)) hb); clear HO200; clear HO204; clear HB; have HO200 := n0_; have HO204 := n1_; have HB := n2_; clear n0_ n1_ n2_; (try clear hb); (try clear hb2); (try clear hk); (try clear hi); (try clear A13)))
            go_ret
            exact ⟨by first | rfl | (simp [errW_none, errW_some] <;> rfl) | (simp [*, errW_none, errW_some] <;> rfl), by repeat (first | (with_reducible first | exact HB.out | apply below_alloc | apply pw_below_drewN | apply below_drew1) | exact HB.out)⟩
          · replace c12 := Bool.eq_false_iff.mpr c12
            subst c12
            have H1 : (some false) = some r := by rw [if_neg (show ¬ (false = true) by decide)] at H; exact H
            clear H
            have H := H1
            clear H1
            obtain rfl := Option.some.inj H
            go_wp2_with (first | ((with_reducible refine gate_callee (f := 12) rfl ?_); refine goesL_ (some 20) rfl rfl Try.func12 (by kernel_rfl) rfl #[.slice A0 l0.length c0, .int .i64 a1] rfl (by (try simp only [List.map_toArray, List.map_cons, List.map_nil]); first | done | rfl | (simp only [List.length_drop, List.length_take]; rfl)) ?_; (with_reducible refine (tight_Get.calls kj2 _ _ l0 a1 t197 t198 _ ?side1 ?side2 A8.out).mono ?_); (case side1 => repeat (first | exact (Kd.C_below HR0.out HB.out) | (with_reducible refine Kd.C_alloc ?_ _) | (with_reducible refine Kd.C_drewN ?_ _) | (with_reducible refine Kd.C_drew ?_))); (case side2 => exact HC0.out); rintro e w19 ⟨v199, rfl, ho0, hb⟩; refine ⟨_, rfl, ?_⟩; have n0_ := Aside0.mk (Kd.R_lower ho0 (below_size (by repeat (first | (with_reducible first | exact HB.out | apply below_alloc | apply pw_below_drewN | apply below_drew1) | exact HB.out)))); have n1_ := Aside0.mk (below_step (by repeat (first | (with_reducible first | exact HB.out | apply below_alloc | apply pw_below_drewN | apply below_drew1) | exact HB.out)) hb); clear HB; have HO200 := n0_; have HB := n1_; clear n0_ n1_; (try clear hb); (try clear hb2); (try clear hk); (try clear hi); (try clear ho0)) | ((with_reducible refine gate_callee (f := 16) rfl ?_); refine goesL_ (some 26) rfl rfl Try.func16 (by kernel_rfl) rfl #[.slice A0 l0.length c0, .int .i64 a1] rfl (by (try simp only [List.map_toArray, List.map_cons, List.map_nil]); first | done | rfl | (simp only [List.length_drop, List.length_take]; rfl)) ?_; (with_reducible refine (firkinref07_Get.calls kj2 _ _ l0 a1 t201 t202 _ ?side1 ?side2 A9.out).mono ?_); (case side1 => repeat (first | exact (Kd.C_below HR0.out HB.out) | (with_reducible refine Kd.C_alloc ?_ _) | (with_reducible refine Kd.C_drewN ?_ _) | (with_reducible refine Kd.C_drew ?_))); (case side2 => exact HC0.out); rintro e w20 ⟨v203, rfl, ho0, hb⟩; refine ⟨_, rfl, ?_⟩; have n0_ := Aside0.mk (Kd.R_elder' (by (with_reducible repeat (first | apply Kd.R_alloc | apply Kd.R_drewN | apply Kd.R_drew)); exact HO200.out) (Kd.R_base ho0) hb); have n1_ := Aside0.mk (Kd.R_lower (Kd.R_new' ho0 (Kd.R_lt (by (with_reducible repeat (first | apply Kd.R_alloc | apply Kd.R_drewN | apply Kd.R_drew)); exact HO200.out))) (below_size (by repeat (first | (with_reducible first | exact HB.out | apply below_alloc | apply pw_below_drewN | apply below_drew1) | exact HB.out)))); have n2_ := Aside0.mk (below_step (by repeat (first | (with_reducible first | exact HB.out | apply below_alloc | apply pw_below_drewN | apply below_drew1) | exact HB.out)) hb); clear HO200; clear HB; have HO200 := n0_; have HO204 := n1_; have HB := n2_; clear n0_ n1_ n2_; (try clear hb); (try clear hb2); (try clear hk); (try clear hi); (try clear ho0); obtain ⟨Ao21, co21, eo21⟩ := Kd.R_slice HO200.out; subst eo21; obtain ⟨Ao22, co22, eo22⟩ := Kd.R_slice HO204.out; subst eo22) | (go_at_call 15; (with_reducible refine (firkinref07_Same.calls kj2 _ _ t197 _ _ t201 false _ ?side1 ?side2 ?side3 ?side4 A11.out).mono ?_); (case side1 => repeat (first | exact (Kd.R_reads' HO200.out).2.2 | (with_reducible refine Kd.C_alloc ?_ _) | (with_reducible refine Kd.C_drewN ?_ _) | (with_reducible refine Kd.C_drew ?_))); (case side2 => exact (Kd.R_reads' HO200.out).2.1); (case side3 => repeat (first | exact (Kd.R_reads' HO204.out).2.2 | (with_reducible refine Kd.C_alloc ?_ _) | (with_reducible refine Kd.C_drewN ?_ _) | (with_reducible refine Kd.C_drew ?_))); (case side4 => exact (Kd.R_reads' HO204.out).2.1); rintro e w' ⟨rfl, ⟨nd, rfl⟩⟩))
            go_ret
            exact ⟨by first | rfl | (simp [errW_none, errW_some] <;> rfl) | (simp [*, errW_none, errW_some] <;> rfl), by repeat (first | (with_reducible first | exact HB.out | apply below_alloc | apply pw_below_drewN | apply below_drew1) | exact HB.out)⟩
        · rw [if_neg c10] at H
          have c10b0 : (t198 == t202) = false := by simpa using c10
          (try (have c10b1 : decide (t198 = t202) = false := by simpa using c10))
          (try (have c10b2 : (t198 == t202) = false := by simpa using c10))
          (try (have c10b3 : ¬ (t198 = t202) := by simpa using c10))
          clear c10
          obtain rfl := Option.some.inj H
          go_wp2_with (first | ((with_reducible refine gate_callee (f := 12) rfl ?_); refine goesL_ (some 20) rfl rfl Try.func12 (by kernel_rfl) rfl #[.slice A0 l0.length c0, .int .i64 a1] rfl (by (try simp only [List.map_toArray, List.map_cons, List.map_nil]); first | done | rfl | (simp only [List.length_drop, List.length_take]; rfl)) ?_; (with_reducible refine (tight_Get.calls kj2 _ _ l0 a1 t197 t198 _ ?side1 ?side2 A8.out).mono ?_); (case side1 => repeat (first | exact (Kd.C_below HR0.out HB.out) | (with_reducible refine Kd.C_alloc ?_ _) | (with_reducible refine Kd.C_drewN ?_ _) | (with_reducible refine Kd.C_drew ?_))); (case side2 => exact HC0.out); rintro e w23 ⟨v199, rfl, ho0, hb⟩; refine ⟨_, rfl, ?_⟩; have n0_ := Aside0.mk (Kd.R_lower ho0 (below_size (by repeat (first | (with_reducible first | exact HB.out | apply below_alloc | apply pw_below_drewN | apply below_drew1) | exact HB.out)))); have n1_ := Aside0.mk (below_step (by repeat (first | (with_reducible first | exact HB.out | apply below_alloc | apply pw_below_drewN | apply below_drew1) | exact HB.out)) hb); clear HB; have HO200 := n0_; have HB := n1_; clear n0_ n1_; (try clear hb); (try clear hb2); (try clear hk); (try clear hi); (try clear ho0)) | ((with_reducible refine gate_callee (f := 16) rfl ?_); refine goesL_ (some 26) rfl rfl Try.func16 (by kernel_rfl) rfl #[.slice A0 l0.length c0, .int .i64 a1] rfl (by (try simp only [List.map_toArray, List.map_cons, List.map_nil]); first | done | rfl | (simp only [List.length_drop, List.length_take]; rfl)) ?_; (with_reducible refine (firkinref07_Get.calls kj2 _ _ l0 a1 t201 t202 _ ?side1 ?side2 A9.out).mono ?_); (case side1 => repeat (first | exact (Kd.C_below HR0.out HB.out) | (with_reducible refine Kd.C_alloc ?_ _) | (with_reducible refine Kd.C_drewN ?_ _) | (with_reducible refine Kd.C_drew ?_))); (case side2 => exact HC0.out); rintro e w24 ⟨v203, rfl, ho0, hb⟩; refine ⟨_, rfl, ?_⟩; have n0_ := Aside0.mk (Kd.R_elder' (by (with_reducible repeat (first | apply Kd.R_alloc | apply Kd.R_drewN | apply Kd.R_drew)); exact HO200.out) (Kd.R_base ho0) hb); have n1_ := Aside0.mk (Kd.R_lower (Kd.R_new' ho0 (Kd.R_lt (by (with_reducible repeat (first | apply Kd.R_alloc | apply Kd.R_drewN | apply Kd.R_drew)); exact HO200.out))) (below_size (by repeat (first | (with_reducible first | exact HB.out | apply below_alloc | apply pw_below_drewN | apply below_drew1) | exact HB.out)))); have n2_ := Aside0.mk (below_step (by repeat (first | (with_reducible first | exact HB.out | apply below_alloc | apply pw_below_drewN | apply below_drew1) | exact HB.out)) hb); clear HO200; clear HB; have HO200 := n0_; have HO204 := n1_; have HB := n2_; clear n0_ n1_ n2_; (try clear hb); (try clear hb2); (try clear hk); (try clear hi); (try clear ho0)))
          go_ret
          exact ⟨by first | rfl | (simp [errW_none, errW_some] <;> rfl) | (simp [*, errW_none, errW_some] <;> rfl), by repeat (first | (with_reducible first | exact HB.out | apply below_alloc | apply pw_below_drewN | apply below_drew1) | exact HB.out)⟩

end Go.Proofs.Ytbbffnlefmogbaa.X
/- tight, plain law: the bits of what Put writes, as one number; what is read of them. -/
namespace Go.Proofs.Ytbbffnlefmogbaa.TightB
open Go Go.RowKit Go.Proofs.Ytbbffnlefmogbaa.X Go.Proofs.YtbbffnlefmogbaaW.PrintWords Go.Proofs.YtbbffnlefmogbaaW.PrintLast Go.Proofs.YtbbffnlefmogbaaW.PrintMore
set_option linter.unusedVariables false
set_option linter.unusedSimpArgs false
def Byte (b : List Int) : Prop := ∀ x ∈ b, 0 ≤ x ∧ x < 256
/-- Bytes as one number, the least first. -/
def valL : List Int → Nat
  | [] => 0
  | x :: l => x.toNat + 256 * valL l
theorem valL_append : ∀ (b : List Int) (y : Int), valL (b ++ [y]) = valL b + y.toNat * 256 ^ b.length
  | [], y => by simp [valL]
  | x :: b, y => by
    rw [List.cons_append, valL, valL_append b y, valL, List.length_cons, Nat.pow_succ]
    have : 256 * (y.toNat * 256 ^ b.length) = y.toNat * (256 ^ b.length * 256) := by rw [Nat.mul_comm 256, Nat.mul_assoc]
    rw [Nat.mul_add, this]; omega
theorem valL_byte : ∀ (b : List Int) (q : Nat), Byte b → q < b.length → valL b / 256 ^ q % 256 = (rd b (q : Int)).toNat
  | [], q, _, h => by simp at h
  | x :: b, 0, hb, _ => by
    have h := hb x List.mem_cons_self
    have e : rd (x :: b) ((0 : Nat) : Int) = x := rfl
    rw [e, valL, Nat.pow_zero, Nat.div_one]; omega
  | x :: b, q + 1, hb, h => by
    have hx := hb x List.mem_cons_self
    have e : rd (x :: b) ((q + 1 : Nat) : Int) = rd b (q : Int) := by unfold rd; simp
    rw [e, valL, Nat.pow_succ, Nat.mul_comm (256 ^ q) 256, ← Nat.div_div_eq_div_mul, show (x.toNat + 256 * valL b) / 256 = valL b by omega]
    exact valL_byte b q (fun y hy => hb y (List.mem_cons_of_mem _ hy)) (by simpa using h)
/-- Bytes that have just a bits, as one number. -/
structure Pk (b : List Int) (a N : Nat) : Prop where
  len : b.length = (a + 7) / 8
  byte : Byte b
  val : valL b = N
  lt : N < 2 ^ a
theorem pow8 (a : Nat) : 2 ^ a = 2 ^ (a % 8) * 256 ^ (a / 8) := by
  have h : a = a % 8 + 8 * (a / 8) := by omega
  conv => lhs; rw [h, Nat.pow_add, Nat.pow_mul]
theorem pow_lt8 {r : Nat} (h : r < 8) : 2 ^ r ≤ 128 := by
  have : (2 : Nat) ^ r ≤ 2 ^ 7 := Nat.pow_le_pow_right (by decide) (by omega)
  simpa using this
/-- The byte that the next bit goes into. -/
theorem Pk.open {b : List Int} {a N : Nat} (h : Pk b a N) : ∃ (b0 : List Int) (y : Nat), (if a % 8 = 0 then b ++ [0] else b) = b0 ++ [(y : Int)] ∧ b0.length = a / 8 ∧ y < 2 ^ (a % 8) ∧ Byte b0 ∧ valL b0 + y * 256 ^ (a / 8) = N := by
  obtain ⟨h1, h2, h3, h4⟩ := h
  by_cases h8 : a % 8 = 0
  · refine ⟨b, 0, by rw [if_pos h8]; rfl, by omega, by rw [h8]; decide, h2, by rw [h3]; simp⟩
  · rw [if_neg h8]
    rcases List.eq_nil_or_concat b with rfl | ⟨b0, z, rfl⟩
    · simp at h1; omega
    · rw [List.concat_eq_append] at *
      rw [List.length_append, List.length_singleton] at h1
      have hz := h2 z (by simp)
      have hl : b0.length = a / 8 := by omega
      have hv := h3
      rw [valL_append, hl] at hv
      refine ⟨b0, z.toNat, by rw [Int.toNat_of_nonneg hz.1], hl, ?_, fun x hx => h2 x (by simp [hx]), hv⟩
      rw [pow8 a, ← hv] at h4
      have h5 : z.toNat * 256 ^ (a / 8) < 2 ^ (a % 8) * 256 ^ (a / 8) := by omega
      exact Nat.lt_of_mul_lt_mul_right h5
theorem Pk.put {b0 : List Int} {a N y t : Nat} (hl : b0.length = a / 8) (hy : y < 2 ^ (a % 8)) (hb : Byte b0) (hv : valL b0 + y * 256 ^ (a / 8) = N) (hN : N < 2 ^ a) (ht : t ≤ 1) : Pk (b0 ++ [((y + t * 2 ^ (a % 8) : Nat) : Int)]) (a + 1) (N + t * 2 ^ a) := by
  have hp := pow_lt8 (show a % 8 < 8 by omega)
  have hm : t * 2 ^ (a % 8) ≤ 1 * 2 ^ (a % 8) := Nat.mul_le_mul_right _ ht
  have hm2 : t * 2 ^ a ≤ 1 * 2 ^ a := Nat.mul_le_mul_right _ ht
  refine ⟨by rw [List.length_append, List.length_singleton]; omega, ?_, ?_, by rw [Nat.pow_succ]; omega⟩
  · intro x hx
    rcases List.mem_append.mp hx with hx | hx
    · exact hb x hx
    · obtain rfl := List.mem_singleton.mp hx; omega
  · rw [valL_append, Int.toNat_natCast, hl, Nat.add_mul, Nat.mul_assoc, ← pow8 a]; omega
theorem bit_of (u : Int) (h0 : 0 ≤ u) (h1 : u < 18446744073709551616) (k : Nat) (hk : k < 64) : Go.bits .and .u64 (u / 2 ^ min k 64) 1 % 256 = ((u.toNat / 2 ^ k % 2 : Nat) : Int) := by
  have e : u / 2 ^ min k 64 = ((u.toNat / 2 ^ k : Nat) : Int) := by
    rw [show min k 64 = k by omega]
    obtain ⟨n, rfl⟩ := Int.eq_ofNat_of_zero_le h0
    clear h1
    rw [show ((n : Int)).toNat = n from rfl, Int.natCast_ediv, Int.natCast_pow]; rfl
  have hlt : u.toNat / 2 ^ k < 18446744073709551616 := Nat.lt_of_le_of_lt (Nat.div_le_self _ _) (by omega)
  have h9 : Go.bits .and .u64 ((u.toNat / 2 ^ k : Nat) : Int) 1 = ((u.toNat / 2 ^ k &&& 1 : Nat) : Int) := u64_and_nat (u.toNat / 2 ^ k) 1 hlt (by decide)
  rw [e, h9, Nat.and_one_is_mod]
  generalize u.toNat / 2 ^ k = z
  omega
theorem or_bit (y t r : Nat) (hy : y < 2 ^ r) (ht : t ≤ 1) (hr : r < 8) : Go.bits .or .u8 (y : Int) ((t : Int) * 2 ^ r % 256) = ((y + t * 2 ^ r : Nat) : Int) := by
  have hp := pow_lt8 hr
  have hm : t * 2 ^ r ≤ 1 * 2 ^ r := Nat.mul_le_mul_right _ ht
  have e : (t : Int) * 2 ^ r % 256 = ((t * 2 ^ r : Nat) : Int) := by
    have : (t : Int) * 2 ^ r = ((t * 2 ^ r : Nat) : Int) := by norm_cast
    rw [this]; omega
  have hj := nat_join r (t * 2 ^ r) y (Nat.mul_mod_left _ _) hy
  rw [e, u8_or_nat _ _ (by omega) (by omega), Nat.or_comm, hj, Nat.add_comm]
theorem step_eq {b : List Int} {a N : Nat} (h : Pk b a N) (u : Int) (h0 : 0 ≤ u) (h1 : u < 18446744073709551616) (k : Nat) (hk : k < 64) : ∃ (b0 : List Int) (y : Nat), (if a % 8 = 0 then b ++ [0] else b) = b0 ++ [(y : Int)] ∧ b0.length = a / 8 ∧ y < 2 ^ (a % 8) ∧ bitStep u b a k = b0 ++ [((y + (u.toNat / 2 ^ k % 2) * 2 ^ (a % 8) : Nat) : Int)] ∧ Pk (bitStep u b a k) (a + 1) (N + (u.toNat / 2 ^ k % 2) * 2 ^ a) := by
  obtain ⟨b0, y, e, hl, hy, hb, hv⟩ := h.open
  have ht : u.toNat / 2 ^ k % 2 ≤ 1 := by omega
  have hs : bitStep u b a k = b0 ++ [((y + (u.toNat / 2 ^ k % 2) * 2 ^ (a % 8) : Nat) : Int)] := by
    unfold bitStep
    simp only [e]
    have e1 : (b0 ++ [(y : Int)]).length - 1 = b0.length := by simp
    have e2 : rd (b0 ++ [(y : Int)]) ((b0.length : Nat) : Int) = (y : Int) := by unfold rd; simp
    rw [e1, e2, bit_of u h0 h1 k hk, or_bit y _ _ hy ht (by omega), List.set_append_right _ _ (Nat.le_refl _)]
    simp
  exact ⟨b0, y, e, hl, hy, hs, by rw [hs]; exact Pk.put hl hy hb hv h.lt ht⟩
theorem step_pk {b : List Int} {a N : Nat} (h : Pk b a N) (u : Int) (h0 : 0 ≤ u) (h1 : u < 18446744073709551616) (k : Nat) (hk : k < 64) : Pk (bitStep u b a k) (a + 1) (N + (u.toNat / 2 ^ k % 2) * 2 ^ a) := by
  obtain ⟨_, _, _, _, _, _, h⟩ := step_eq h u h0 h1 k hk
  exact h
theorem mod_succ (x d : Nat) : x % 2 ^ (d + 1) = x % 2 + 2 * (x / 2 % 2 ^ d) := by
  rw [Nat.pow_succ, Nat.mul_comm, Nat.mod_mul]
theorem bits_pk (u : Int) (h0 : 0 ≤ u) (h1 : u < 18446744073709551616) : ∀ (d k : Nat) (b : List Int) (a N : Nat), k + d ≤ 64 → Pk b a N → Pk (bitsGo u d k b a) (a + d) (N + (u.toNat / 2 ^ k % 2 ^ d) * 2 ^ a)
  | 0, k, b, a, N, _, h => by rw [bitsGo, Nat.pow_zero, Nat.mod_one, Nat.zero_mul, Nat.add_zero, Nat.add_zero]; exact h
  | d + 1, k, b, a, N, hk, h => by
    have h2 := bits_pk u h0 h1 d (k + 1) _ _ _ (by omega) (step_pk h u h0 h1 k (by omega))
    rw [bitsGo, mod_succ, show u.toNat / 2 ^ k / 2 = u.toNat / 2 ^ (k + 1) by rw [Nat.div_div_eq_div_mul, Nat.pow_succ]]
    rw [show a + 1 + d = a + (d + 1) by omega, Nat.pow_succ 2 a] at h2
    have e : N + u.toNat / 2 ^ k % 2 * 2 ^ a + u.toNat / 2 ^ (k + 1) % 2 ^ d * (2 ^ a * 2) = N + (u.toNat / 2 ^ k % 2 + 2 * (u.toNat / 2 ^ (k + 1) % 2 ^ d)) * 2 ^ a := by
      rw [Nat.add_mul, Nat.mul_assoc 2, Nat.mul_comm 2, Nat.mul_assoc _ (2 ^ a)]; omega
    rw [e] at h2
    exact h2
/-- All numbers as one. -/
def sumL (lo : Int) (m : Nat) : List Int → Nat
  | [] => 0
  | x :: l => (above x lo).toNat + 2 ^ m * sumL lo m l
theorem above_range (x low : Int) : 0 ≤ above x low ∧ above x low < 18446744073709551616 := by unfold above; rw [IntKind.wrap_u64]; omega
theorem put_pk (lo : Int) (m : Nat) (hm : m ≤ 64) : ∀ (l b : List Int) (a N : Nat), (∀ x ∈ l, (above x lo).toNat < 2 ^ m) → Pk b a N → Pk (putGo lo m l b a) (a + l.length * m) (N + sumL lo m l * 2 ^ a)
  | [], b, a, N, _, h => by rw [putGo, sumL, List.length_nil, Nat.zero_mul, Nat.zero_mul, Nat.add_zero, Nat.add_zero]; exact h
  | x :: l, b, a, N, hx, h => by
    have hr := above_range x lo
    have h2 := bits_pk (above x lo) hr.1 hr.2 m 0 b a N (by omega) h
    rw [Nat.pow_zero, Nat.div_one, Nat.mod_eq_of_lt (hx x List.mem_cons_self)] at h2
    have h3 := put_pk lo m hm l _ _ _ (fun y hy => hx y (List.mem_cons_of_mem _ hy)) h2
    rw [putGo, sumL, List.length_cons, Nat.succ_mul, show a + (l.length * m + m) = a + m + l.length * m by omega]
    have e : N + (above x lo).toNat * 2 ^ a + sumL lo m l * 2 ^ (a + m) = N + ((above x lo).toNat + 2 ^ m * sumL lo m l) * 2 ^ a := by
      rw [Nat.add_mul, Nat.pow_add, Nat.mul_comm (2 ^ m) (sumL lo m l), Nat.mul_assoc (sumL lo m l), Nat.mul_comm (2 ^ m)]; omega
    rw [← e]; exact h3
theorem bitOf_is {b : List Int} (hb : Byte b) (i : Nat) (hi : i / 8 < b.length) : bitOf b i = ((valL b / 2 ^ i % 2 : Nat) : Int) := by
  have hv := valL_byte b (i / 8) hb hi
  have hr : 0 ≤ rd b ((i / 8 : Nat) : Int) ∧ rd b ((i / 8 : Nat) : Int) < 256 := by
    have e : rd b ((i / 8 : Nat) : Int) = b[i / 8] := by
      show b.getD ((i / 8 : Nat) : Int).toNat 0 = _
      rw [Int.toNat_natCast]; simp [hi]
    rw [e]; exact hb _ (List.getElem_mem hi)
  unfold bitOf
  obtain ⟨y, hy⟩ := Int.eq_ofNat_of_zero_le hr.1
  rw [hy] at hv hr ⊢
  rw [Int.toNat_natCast] at hv
  have e : (y : Int) / 2 ^ (i % 8) = ((y / 2 ^ (i % 8) : Nat) : Int) := by rw [Int.natCast_ediv]; norm_cast
  have hlt : y / 2 ^ (i % 8) < 256 := Nat.lt_of_le_of_lt (Nat.div_le_self _ _) (by omega)
  have h9 : Go.bits .and .u8 ((y / 2 ^ (i % 8) : Nat) : Int) 1 = ((y / 2 ^ (i % 8) &&& 1 : Nat) : Int) := u8_and_nat (y / 2 ^ (i % 8)) 1 hlt (by decide)
  rw [e, h9, Nat.and_one_is_mod]
  congr 1
  have hp : 2 ^ i = 256 ^ (i / 8) * 2 ^ (i % 8) := by rw [Nat.mul_comm]; exact pow8 i
  rw [hp, ← Nat.div_div_eq_div_mul, ← hv]
  have h256 : (256 : Nat) = 2 ^ (i % 8) * 2 ^ (8 - i % 8) := by rw [← Nat.pow_add, show i % 8 + (8 - i % 8) = 8 by omega]
  obtain ⟨z, hz⟩ : ∃ z, valL b / 256 ^ (i / 8) = z := ⟨_, rfl⟩
  rw [hz]
  rw [h256, Nat.mod_mul_right_div_self, Nat.mod_mod_of_dvd]
  exact ⟨2 ^ (8 - i % 8 - 1), by rw [← Nat.pow_succ', show (8 - i % 8 - 1).succ = 8 - i % 8 by omega]⟩
theorem or_read (u t k : Nat) (hu : u < 2 ^ k) (ht : t ≤ 1) (hk : k < 64) : Go.bits .or .u64 (u : Int) (IntKind.u64.wrap (IntKind.u64.wrap (t : Int) * 2 ^ min k 64)) = ((u + t * 2 ^ k : Nat) : Int) := by
  have hp : (2 : Nat) ^ k ≤ 2 ^ 63 := Nat.pow_le_pow_right (by decide) (by omega)
  have hm : t * 2 ^ k ≤ 1 * 2 ^ k := Nat.mul_le_mul_right _ ht
  have e : IntKind.u64.wrap (IntKind.u64.wrap (t : Int) * 2 ^ min k 64) = ((t * 2 ^ k : Nat) : Int) := by
    rw [show min k 64 = k by omega, show IntKind.u64.wrap (t : Int) = (t : Int) by rw [IntKind.wrap_u64]; omega]
    have : (t : Int) * 2 ^ k = ((t * 2 ^ k : Nat) : Int) := by norm_cast
    rw [this, IntKind.wrap_u64]; omega
  have hj := nat_join k (t * 2 ^ k) u (Nat.mul_mod_left _ _) hu
  rw [e, u64_or_nat _ _ (by omega) (by omega), Nat.or_comm, hj, Nat.add_comm]
theorem read_is {b : List Int} (hb : Byte b) : ∀ (d k u a : Nat), k + d ≤ 64 → u < 2 ^ k → a + d ≤ 8 * b.length → readGo b d k (u : Int) a = ((u + (valL b / 2 ^ a % 2 ^ d) * 2 ^ k : Nat) : Int)
  | 0, k, u, a, _, _, _ => by rw [readGo, Nat.pow_zero, Nat.mod_one, Nat.zero_mul, Nat.add_zero]
  | d + 1, k, u, a, hk, hu, ha => by
    have ht : valL b / 2 ^ a % 2 ≤ 1 := by omega
    have hm : valL b / 2 ^ a % 2 * 2 ^ k ≤ 1 * 2 ^ k := Nat.mul_le_mul_right _ ht
    rw [readGo, bitOf_is hb a (by omega), or_read u _ k hu ht (by omega), read_is hb d (k + 1) _ (a + 1) (by omega) (by rw [Nat.pow_succ]; omega) (by omega), mod_succ, show valL b / 2 ^ a / 2 = valL b / 2 ^ (a + 1) by rw [Nat.div_div_eq_div_mul, Nat.pow_succ]]
    congr 1
    rw [Nat.add_mul, Nat.pow_succ 2 k, Nat.mul_assoc 2, Nat.mul_comm 2, Nat.mul_assoc _ (2 ^ k)]; omega
theorem next_above (x lo : Int) (h0 : -9223372036854775808 ≤ x) (h1 : x < 9223372036854775808) : nextOf lo (above x lo) = x := by
  unfold nextOf above
  simp only [IntKind.wrap_u64, IntKind.wrap_i64]; omega
theorem get_pk (lo : Int) (m : Nat) (hm : m ≤ 64) (b : List Int) (hb : Byte b) : ∀ (l : List Int) (a : Nat), (∀ x ∈ l, (above x lo).toNat < 2 ^ m ∧ -9223372036854775808 ≤ x ∧ x < 9223372036854775808) → a + l.length * m ≤ 8 * b.length → valL b / 2 ^ a = sumL lo m l → getGo lo m b l.length a = l
  | [], a, _, _, _ => rfl
  | x :: l, a, hx, ha, hv => by
    obtain ⟨h1, h2, h3⟩ := hx x List.mem_cons_self
    rw [List.length_cons, Nat.succ_mul] at ha
    have hr := read_is hb m 0 0 a (by omega) (by decide) (by omega)
    rw [hv, sumL, Nat.zero_add, Nat.pow_zero, Nat.mul_one, Nat.add_mul_mod_self_left, Nat.mod_eq_of_lt h1, Int.toNat_of_nonneg (above_range x lo).1] at hr
    have hv2 : valL b / 2 ^ (a + m) = sumL lo m l := by
      rw [Nat.pow_add, ← Nat.div_div_eq_div_mul, hv, sumL, Nat.add_mul_div_left _ _ (Nat.two_pow_pos m), Nat.div_eq_of_lt h1, Nat.zero_add]
    have hr2 : readGo b m 0 0 a = above x lo := hr
    rw [List.length_cons, getGo, hr2, next_above x lo h2 h3, get_pk lo m hm b hb l (a + m) (fun y hy => hx y (List.mem_cons_of_mem _ hy)) (by omega) hv2]
end Go.Proofs.Ytbbffnlefmogbaa.TightB
/- A number's bytes, plain law: the code's and the document's are the same. -/
namespace Go.Proofs.Ytbbffnlefmogbaa.Enc
open Go.RowKit Go.Proofs.Ytbbffnlefmogbaa.X Go.Proofs.Ytbbffnlefmogbaa.Dec Go.Proofs.YtbbffnlefmogbaaW.PrintWords Go.Proofs.YtbbffnlefmogbaaW.PrintLast Go.Proofs.YtbbffnlefmogbaaW.PrintMore
set_option linter.unusedVariables false
theorem num_loop (n G : Nat) (hG : 1 ≤ G) (hG2 : G ≤ 10) (d : Nat) : ∀ (k i : Nat), i + d = G → d < k →
    vint_Num.l0 k (n : Int) (G : Int) (laid n G i) (G : Int) (i : Int) = some (encL n G) := by
  induction d with
  | zero =>
    intro k i hd hk
    obtain ⟨k, rfl⟩ : ∃ m, k = m + 1 := ⟨k - 1, by omega⟩
    obtain rfl : i = G := by omega
    rw [vint_Num.l0, if_neg (by omega), w64 (by omega) (by omega), if_pos (by omega), if_pos (by rw [laid_length]; omega)]
    rw [show ((i : Int) - 1) = ((i - 1 : Nat) : Int) by omega, rd_nat, Int.toNat_natCast]
    have hg : (laid n i i).getD (i - 1) 0 = ((n / 2 ^ (7 * (i - 1)) % 128 + 128 : Nat) : Int) := by
      simp only [laid, List.getD]
      rw [List.getElem?_map, List.getElem?_range (by omega)]
      simp; omega
    rw [hg, last_seven _ (Nat.mod_lt _ (by decide)), laid_end n i hG]
  | succ d ih =>
    intro k i hd hk
    obtain ⟨k, rfl⟩ : ∃ m, k = m + 1 := ⟨k - 1, by omega⟩
    rw [vint_Num.l0, if_pos (by omega), w64 (x := 7 * (i : Int)) (by omega) (by omega), if_pos (by omega), if_pos (by omega), if_pos (by rw [laid_length]; omega)]
    rw [show (7 * (i : Int)) = ((7 * i : Nat) : Int) by omega, shr_nat n i (by omega), seven, Int.toNat_natCast, laid_set n G i (by omega), w64 (by omega) (by omega), show ((i : Int) + 1) = ((i + 1 : Nat) : Int) by omega]
    exact ih k (i + 1) (by omega) (by omega)
theorem num_is (n : Nat) (h : n < 18446744073709551616) (k : Nat) (hk : 10 < k) : vint_Num.f k (n : Int) = some (enc n) := by
  have hl := len_le n h
  have hg := grp_le (n := n) h
  unfold vint_Num.f bits_Len64.f
  rw [if_pos ⟨by omega, by omega⟩, Option.bind_some, Int.toNat_natCast]
  have e : mx 1 (wrap64 (Int.tdiv (wrap64 ((wrap64 (((Lib.bitLen n : Nat) : Int) + 7)) - 1)) 7)) = ((grp n : Nat) : Int) := by
    rw [w64 (x := ((Lib.bitLen n : Nat) : Int) + 7) (by omega) (by omega), w64 (x := ((Lib.bitLen n : Nat) : Int) + 7 - 1) (by omega) (by omega), Int.tdiv_eq_ediv_of_nonneg (by omega), w64 (by omega) (by omega)]
    unfold mx grp
    split <;> omega
  rw [e]
  rw [if_pos (by omega), Int.toNat_natCast, if_pos (by omega), Option.bind_some, List.length_replicate, ← laid_zero n]
  have := num_loop n (grp n) (grp_has h).1 hg (grp n) k 0 (by omega) (by omega)
  exact this
theorem rnum_loop (n G : Nat) (hn : Has n G) (hlt : n < 18446744073709551616) (hG : G ≤ 10) (d : Nat) : ∀ (k i : Nat) (acc : List Int), i + d = G → 1 ≤ d → d < k → acc = (encL n G).take i →
    firkinref01_Num.l0 k ((n / 2 ^ (7 * i) : Nat) : Int) acc = some (encL n G) := by
  induction d with
  | zero => intro k i acc hd h1; omega
  | succ d ih =>
    intro k i acc hd _ hk hacc
    obtain ⟨k, rfl⟩ : ∃ m, k = m + 1 := ⟨k - 1, by omega⟩
    have hq : n / 2 ^ (7 * i) < 18446744073709551616 := Nat.lt_of_le_of_lt (Nat.div_le_self _ _) hlt
    have hlen : acc.length ≤ 10 := by rw [hacc, List.length_take, encL_length]; omega
    have hget : (encL n G)[i]? = some ((encByte n G i : Nat) : Int) := by
      rw [encL, List.getElem?_map, List.getElem?_range (by omega)]; rfl
    have hsnoc : (encL n G).take i ++ [((encByte n G i : Nat) : Int)] = (encL n G).take (i + 1) := by
      have hi : i < (encL n G).length := by rw [encL_length]; omega
      rw [List.take_succ_eq_append_getElem hi]
      congr 1
      rw [List.getElem?_eq_getElem hi] at hget
      rw [Option.some.inj hget]
    have hpow : 2 ^ (7 * (i + 1)) = 2 ^ (7 * i) * 128 := by rw [show 7 * (i + 1) = 7 * i + 7 by omega, Nat.pow_add]
    rw [firkinref01_Num.l0]
    by_cases hd0 : d = 0
    · have hi : i + 1 = G := by omega
      have hsm : n / 2 ^ (7 * i) < 128 := by
        have := hn.2.1
        rw [← hi, hpow] at this
        exact Nat.div_lt_of_lt_mul this
      rw [if_neg (by omega), if_pos (by omega), hacc]
      have he : encByte n G i = n / 2 ^ (7 * i) := by unfold encByte; rw [if_neg (by omega), Nat.mod_eq_of_lt hsm, Nat.add_zero]
      rw [show (((n / 2 ^ (7 * i) : Nat) : Int) % 256) = ((n / 2 ^ (7 * i) : Nat) : Int) by omega, ← he, hsnoc, List.take_of_length_le (by rw [encL_length]; omega)]
    · have hbig : 128 ≤ n / 2 ^ (7 * i) := by
        have h1 := hn.2.2 (by omega)
        have h2 : 2 ^ (7 * (i + 1)) ≤ 2 ^ (7 * (G - 1)) := Nat.pow_le_pow_right (by decide) (by omega)
        rw [hpow] at h2
        rw [Nat.le_div_iff_mul_le (Nat.two_pow_pos _), Nat.mul_comm]
        omega
      have he : encByte n G i = n / 2 ^ (7 * i) % 128 + 128 := by unfold encByte; rw [if_pos (by omega)]
      have hdd : n / 2 ^ (7 * i) / 128 = n / 2 ^ (7 * (i + 1)) := by rw [Nat.div_div_eq_div_mul, hpow]
      rw [if_pos (by omega), if_pos (by omega), Int.tdiv_eq_ediv_of_nonneg (by omega), Int.tmod_eq_emod_of_nonneg (by omega)]
      rw [IntKind.wrap_u64, IntKind.wrap_u64]
      rw [show ((((n / 2 ^ (7 * i) : Nat) : Int) / 128) % 18446744073709551616) = ((n / 2 ^ (7 * i) / 128 : Nat) : Int) by omega, hdd]
      rw [show (((((n / 2 ^ (7 * i) : Nat) : Int) % 128 + 128) % 18446744073709551616) % 256) = ((n / 2 ^ (7 * i) % 128 + 128 : Nat) : Int) by omega, ← he]
      exact ih k (i + 1) _ (by omega) (by omega) (by omega) (by rw [hacc, hsnoc])
theorem rnum_is (n : Nat) (h : n < 18446744073709551616) (k : Nat) (hk : 11 < k) : firkinref01_Num.f k (n : Int) = some (enc n) := by
  unfold firkinref01_Num.f
  have hg := grp_le (n := n) h
  have := rnum_loop n (grp n) (grp_has h) h hg (grp n) k 0 [] (by omega) (grp_has h).1 (by omega) (by simp)
  rw [Nat.mul_zero, Nat.pow_zero, Nat.div_one] at this
  exact this
end Go.Proofs.Ytbbffnlefmogbaa.Enc
/- A signed number's bytes, plain law: the code's and the document's are the same. -/
namespace Go.Proofs.Ytbbffnlefmogbaa.Enc
open Go.RowKit Go.Proofs.Ytbbffnlefmogbaa.X Go.Proofs.Ytbbffnlefmogbaa.Dec Go.Proofs.YtbbffnlefmogbaaW.PrintWords Go.Proofs.YtbbffnlefmogbaaW.PrintLast Go.Proofs.YtbbffnlefmogbaaW.PrintMore
set_option linter.unusedVariables false
theorem int_is (n : Int) (h0 : -9223372036854775808 ≤ n) (h1 : n < 9223372036854775808) (k : Nat) (hk : 10 < k) : vint_Int.f k n = some (enc (zig n)) := by
  unfold vint_Int.f
  have hz := zig_lt h0 h1
  have e : Go.bits .xor .u64 (IntKind.u64.wrap ((IntKind.u64.wrap n) * 2)) (IntKind.u64.wrap (n / 9223372036854775808)) = ((zig n : Nat) : Int) := by
    rw [IntKind.wrap_u64, IntKind.wrap_u64, IntKind.wrap_u64]
    by_cases hn : n < 0
    · have e1 : n / 9223372036854775808 = -1 := by omega
      rw [e1, show ((-1 : Int) % 18446744073709551616) = 18446744073709551615 by decide, u64_xor _ _ (by omega) (by omega) (by omega) (by omega), show (18446744073709551615 : Int).toNat = 18446744073709551615 by decide, xor_all _ (by omega)]
      unfold zig
      rw [if_pos hn]
      omega
    · have e1 : n / 9223372036854775808 = 0 := by omega
      rw [e1, show ((0 : Int) % 18446744073709551616) = 0 by decide, u64_xor _ _ (by omega) (by omega) (by omega) (by omega), show (0 : Int).toNat = 0 from rfl, Nat.xor_zero]
      unfold zig
      rw [if_neg hn]
      omega
  rw [e, num_is _ hz k hk]; rfl
theorem rint_is (n : Int) (h0 : -9223372036854775808 ≤ n) (h1 : n < 9223372036854775808) (k : Nat) (hk : 11 < k) : firkinref01_Int.f k n = some (enc (zig n)) := by
  unfold firkinref01_Int.f
  have hz := zig_lt h0 h1
  simp only [IntKind.wrap_u64]
  by_cases hn : n < 0
  · rw [if_pos hn]
    have e : ((2 * ((-(n % 18446744073709551616)) % 18446744073709551616)) % 18446744073709551616 - 1) % 18446744073709551616 = ((zig n : Nat) : Int) := by
      unfold zig; rw [if_pos hn]; omega
    rw [e, rnum_is _ hz k hk]; rfl
  · rw [if_neg hn]
    have e : (2 * (n % 18446744073709551616)) % 18446744073709551616 = ((zig n : Nat) : Int) := by
      unfold zig; rw [if_neg hn]; omega
    rw [e, rnum_is _ hz k hk]; rfl
end Go.Proofs.Ytbbffnlefmogbaa.Enc
-- Printed for this claim by a program of this session (wip/xprint.py) over the kit's printer; Lean checks it.
namespace Go.Proofs.Ytbbffnlefmogbaa.X
open Go.RowKit Go.Proofs.YtbbffnlefmogbaaW.PrintWords Go.Proofs.YtbbffnlefmogbaaW.PrintLast Go.Proofs.YtbbffnlefmogbaaW.PrintMore
attribute [local go_sem] max2_int min2_int max_two min_two max_three min_three max_four min_four   -- for this text's walks alone
set_option linter.unusedVariables false
set_option linter.unusedSimpArgs false

/-! ### vint_Source_Below: function 57 -/
def vint_Source_Below.f (s0_0 : List Int) (s0_1 : Bool) (a1 : Int) : Option (Int × List Int × Bool) := (vint_Source_Num.f s0_0 s0_1).bind fun bt102 => ((vint_Source_Ok.f bt102.2.1 bt102.2.2).bind fun bt105 => (if bt105.1 = true then (if a1 > 0 then (if bt102.1 < (IntKind.u64.wrap (a1)) then (some (wrap64 (bt102.1), bt105.2.1, bt105.2.2)) else ((vint_Source_Fail.f bt105.2.1 bt105.2.2).bind fun bt108 => (some (0, bt108.1, bt108.2)))) else ((vint_Source_Fail.f bt105.2.1 bt105.2.2).bind fun bt110 => (some (0, bt110.1, bt110.2)))) else ((vint_Source_Fail.f bt105.2.1 bt105.2.2).bind fun bt112 => (some (0, bt112.1, bt112.2)))))
set_option maxHeartbeats 8000000 in
set_option maxRecDepth 100000 in
theorem vint_Source_Below.calls (g : Nat) (s0_0 : List Int) (s0_1 : Bool) (a1 : Int) (r1 : Int) (r2 : List Int) (r3 : Bool) (w0 w : World) (hI : IsS75 w0 w g s0_0 s0_1) (hB : Below w0.heap.size w0 w) (h : vint_Source_Below.f s0_0 s0_1 a1 = some (r1, r2, r3)) :
    Calls Try.prog 57 #[.pointer (some ⟨g, 0, none⟩), .int .i64 a1] w fun e w' => e = .returned (.int .i64 r1) ∧ IsS75 w0 w' g r2 r3 ∧ Below w0.heap.size w0 w' ∧ KeepBut w w' g none := by
  have HI0 := Aside0.mk hI
  have HK := Aside0.mk (KeepBut.refl w g none)
  have HL := Aside0.mk hB.size
  clear hI
  have HW0 := Aside0.mk hB.size
  have HB := Aside0.mk hB
  clear hB
  have H : ((vint_Source_Num.f s0_0 s0_1).bind fun bt102 => ((vint_Source_Ok.f bt102.2.1 bt102.2.2).bind fun bt105 => (if bt105.1 = true then (if a1 > 0 then (if bt102.1 < (IntKind.u64.wrap (a1)) then (some (wrap64 (bt102.1), bt105.2.1, bt105.2.2)) else ((vint_Source_Fail.f bt105.2.1 bt105.2.2).bind fun bt108 => (some (0, bt108.1, bt108.2)))) else ((vint_Source_Fail.f bt105.2.1 bt105.2.2).bind fun bt110 => (some (0, bt110.1, bt110.2)))) else ((vint_Source_Fail.f bt105.2.1 bt105.2.2).bind fun bt112 => (some (0, bt112.1, bt112.2)))))) = some (r1, r2, r3) := h
  clear h
  replace H := Option.bind_eq_some_iff.mp H
  obtain ⟨⟨t102, t103, t104⟩, A30, H⟩ := H
  replace H : ((vint_Source_Ok.f t103 t104).bind fun bt105 => (if bt105.1 = true then (if a1 > 0 then (if t102 < (IntKind.u64.wrap (a1)) then (some (wrap64 (t102), bt105.2.1, bt105.2.2)) else ((vint_Source_Fail.f bt105.2.1 bt105.2.2).bind fun bt108 => (some (0, bt108.1, bt108.2)))) else ((vint_Source_Fail.f bt105.2.1 bt105.2.2).bind fun bt110 => (some (0, bt110.1, bt110.2)))) else ((vint_Source_Fail.f bt105.2.1 bt105.2.2).bind fun bt112 => (some (0, bt112.1, bt112.2))))) = some (r1, r2, r3) := H
  have A3 := Aside0.mk A30
  clear A30
  replace H := Option.bind_eq_some_iff.mp H
  obtain ⟨⟨t105, t106, t107⟩, A40, H⟩ := H
  replace H : (if t105 = true then (if a1 > 0 then (if t102 < (IntKind.u64.wrap (a1)) then (some (wrap64 (t102), t106, t107)) else ((vint_Source_Fail.f t106 t107).bind fun bt108 => (some (0, bt108.1, bt108.2)))) else ((vint_Source_Fail.f t106 t107).bind fun bt110 => (some (0, bt110.1, bt110.2)))) else ((vint_Source_Fail.f t106 t107).bind fun bt112 => (some (0, bt112.1, bt112.2)))) = some (r1, r2, r3) := H
  have A4 := Aside0.mk A40
  clear A40
  by_cases c5 : t105 = true
  · subst c5
    have H1 : (if a1 > 0 then (if t102 < (IntKind.u64.wrap (a1)) then (some (wrap64 (t102), t106, t107)) else ((vint_Source_Fail.f t106 t107).bind fun bt108 => (some (0, bt108.1, bt108.2)))) else ((vint_Source_Fail.f t106 t107).bind fun bt110 => (some (0, bt110.1, bt110.2)))) = some (r1, r2, r3) := by rw [if_pos rfl] at H; exact H
    clear H
    have H := H1
    clear H1
    by_cases c6 : a1 > 0
    · rw [if_pos c6] at H
      have c6b0 : decide (0 < a1) = true := decide_eq_true c6
      clear c6
      by_cases c7 : t102 < (IntKind.u64.wrap (a1))
      · rw [if_pos c7] at H
        have c7b0 : decide (t102 < (IntKind.u64.wrap (a1))) = true := decide_eq_true c7
        clear c7
        simp only [Option.some.injEq, Prod.mk.injEq] at H
        obtain ⟨rfl, rfl, rfl⟩ := H
        go_enter Try.func57, Try.ntmps57
        go_wp2_with (first | ((with_reducible refine gate_callee (f := 83) rfl ?_); refine goesL_ (some 7) rfl rfl Try.func83 (by kernel_rfl) rfl #[.pointer (some ⟨g, 0, none⟩)] rfl (by (try simp only [List.map_toArray, List.map_cons, List.map_nil]); first | done | rfl | (simp only [List.length_drop, List.length_take]; rfl)) ?_; (with_reducible refine (vint_Source_Num.calls g s0_0 s0_1 t102 t103 t104 w0 _ ?side1 ?side2 A3.out).mono ?_); (case side1 => repeat (first | (with_reducible first | exact HI0.out | apply IsS75.alloc | apply IsS75.drewN | apply IsS75.drew | apply IsS75.set_0 | apply IsS75.set_1) | exact HI0.out)); (case side2 => repeat (first | (with_reducible first | exact HB.out | apply below_alloc | apply pw_below_drewN | apply below_drew1 | refine below_set ?_ (IsS75.ge HI0.out)) | exact HB.out)); rintro e w8 ⟨rfl, hi, hb, hk⟩; refine ⟨_, rfl, ?_⟩; have n0_ := Aside0.mk (KeepBut.trans (by repeat (first | (with_reducible first | exact HK.out | apply KeepBut.set_ | apply keep_drewN | apply keep_drew | apply keep_alloc) | exact HK.out)) hk (.inl rfl)); have n1_ := Aside0.mk (hb); have n2_ := Aside0.mk (hi); clear HK; clear HB; clear HI0; have HK := n0_; have HB := n1_; have HI0 := n2_; clear n0_ n1_ n2_; (try clear hb); (try clear hb2); (try clear hk); (try clear hi)) | ((with_reducible refine gate_callee (f := 23) rfl ?_); refine goesL_ (some 9) rfl rfl Try.func23 (by kernel_rfl) rfl #[.pointer (some ⟨g, 0, none⟩)] rfl (by (try simp only [List.map_toArray, List.map_cons, List.map_nil]); first | done | rfl | (simp only [List.length_drop, List.length_take]; rfl)) ?_; (with_reducible refine (vint_Source_Ok.calls g t103 t104 true t106 t107 w0 _ ?side1 ?side2 A4.out).mono ?_); (case side1 => repeat (first | (with_reducible first | exact HI0.out | apply IsS75.alloc | apply IsS75.drewN | apply IsS75.drew | apply IsS75.set_0 | apply IsS75.set_1) | exact HI0.out)); (case side2 => repeat (first | (with_reducible first | exact HB.out | apply below_alloc | apply pw_below_drewN | apply below_drew1 | refine below_set ?_ (IsS75.ge HI0.out)) | exact HB.out)); rintro e w9 ⟨rfl, hi, hb, hk⟩; refine ⟨_, rfl, ?_⟩; have n0_ := Aside0.mk (KeepBut.trans (by repeat (first | (with_reducible first | exact HK.out | apply KeepBut.set_ | apply keep_drewN | apply keep_drew | apply keep_alloc) | exact HK.out)) hk (.inl rfl)); have n1_ := Aside0.mk (hb); have n2_ := Aside0.mk (hi); clear HK; clear HB; clear HI0; have HK := n0_; have HB := n1_; have HI0 := n2_; clear n0_ n1_ n2_; (try clear hb); (try clear hb2); (try clear hk); (try clear hi)))
        go_ret
        exact ⟨by first | rfl | (simp [errW_none, errW_some] <;> rfl) | (simp [*, errW_none, errW_some] <;> rfl), by repeat (first | (with_reducible first | exact HI0.out | apply IsS75.alloc | apply IsS75.drewN | apply IsS75.drew | apply IsS75.set_0 | apply IsS75.set_1) | exact HI0.out), by repeat (first | (with_reducible first | exact HB.out | apply below_alloc | apply pw_below_drewN | apply below_drew1 | refine below_set ?_ (IsS75.ge HI0.out)) | exact HB.out), by repeat (first | (with_reducible first | exact HK.out | apply KeepBut.set_ | apply keep_drewN | apply keep_drew | apply keep_alloc) | exact HK.out)⟩
      · rw [if_neg c7] at H
        have c7b0 : decide (t102 < (IntKind.u64.wrap (a1))) = false := decide_eq_false c7
        clear c7
        replace H := Option.bind_eq_some_iff.mp H
        obtain ⟨⟨t108, t109⟩, A100, H⟩ := H
        replace H : (some (0, t108, t109)) = some (r1, r2, r3) := H
        have A10 := Aside0.mk A100
        clear A100
        simp only [Option.some.injEq, Prod.mk.injEq] at H
        obtain ⟨rfl, rfl, rfl⟩ := H
        go_enter Try.func57, Try.ntmps57
        go_wp2_with (first | ((with_reducible refine gate_callee (f := 83) rfl ?_); refine goesL_ (some 7) rfl rfl Try.func83 (by kernel_rfl) rfl #[.pointer (some ⟨g, 0, none⟩)] rfl (by (try simp only [List.map_toArray, List.map_cons, List.map_nil]); first | done | rfl | (simp only [List.length_drop, List.length_take]; rfl)) ?_; (with_reducible refine (vint_Source_Num.calls g s0_0 s0_1 t102 t103 t104 w0 _ ?side1 ?side2 A3.out).mono ?_); (case side1 => repeat (first | (with_reducible first | exact HI0.out | apply IsS75.alloc | apply IsS75.drewN | apply IsS75.drew | apply IsS75.set_0 | apply IsS75.set_1) | exact HI0.out)); (case side2 => repeat (first | (with_reducible first | exact HB.out | apply below_alloc | apply pw_below_drewN | apply below_drew1 | refine below_set ?_ (IsS75.ge HI0.out)) | exact HB.out)); rintro e w11 ⟨rfl, hi, hb, hk⟩; refine ⟨_, rfl, ?_⟩; have n0_ := Aside0.mk (KeepBut.trans (by repeat (first | (with_reducible first | exact HK.out | apply KeepBut.set_ | apply keep_drewN | apply keep_drew | apply keep_alloc) | exact HK.out)) hk (.inl rfl)); have n1_ := Aside0.mk (hb); have n2_ := Aside0.mk (hi); clear HK; clear HB; clear HI0; have HK := n0_; have HB := n1_; have HI0 := n2_; clear n0_ n1_ n2_; (try clear hb); (try clear hb2); (try clear hk); (try clear hi)) | ((with_reducible refine gate_callee (f := 23) rfl ?_); refine goesL_ (some 9) rfl rfl Try.func23 (by kernel_rfl) rfl #[.pointer (some ⟨g, 0, none⟩)] rfl (by (try simp only [List.map_toArray, List.map_cons, List.map_nil]); first | done | rfl | (simp only [List.length_drop, List.length_take]; rfl)) ?_; (with_reducible refine (vint_Source_Ok.calls g t103 t104 true t106 t107 w0 _ ?side1 ?side2 A4.out).mono ?_); (case side1 => repeat (first | (with_reducible first | exact HI0.out | apply IsS75.alloc | apply IsS75.drewN | apply IsS75.drew | apply IsS75.set_0 | apply IsS75.set_1) | exact HI0.out)); (case side2 => repeat (first | (with_reducible first | exact HB.out | apply below_alloc | apply pw_below_drewN | apply below_drew1 | refine below_set ?_ (IsS75.ge HI0.out)) | exact HB.out)); rintro e w12 ⟨rfl, hi, hb, hk⟩; refine ⟨_, rfl, ?_⟩; have n0_ := Aside0.mk (KeepBut.trans (by repeat (first | (with_reducible first | exact HK.out | apply KeepBut.set_ | apply keep_drewN | apply keep_drew | apply keep_alloc) | exact HK.out)) hk (.inl rfl)); have n1_ := Aside0.mk (hb); have n2_ := Aside0.mk (hi); clear HK; clear HB; clear HI0; have HK := n0_; have HB := n1_; have HI0 := n2_; clear n0_ n1_ n2_; (try clear hb); (try clear hb2); (try clear hk); (try clear hi)) | ((with_reducible refine gate_callee (f := 59) rfl ?_); refine goesL_ (some 23) rfl rfl Try.func59 (by kernel_rfl) rfl #[.pointer (some ⟨g, 0, none⟩)] rfl (by (try simp only [List.map_toArray, List.map_cons, List.map_nil]); first | done | rfl | (simp only [List.length_drop, List.length_take]; rfl)) ?_; (with_reducible refine (vint_Source_Fail.calls g t106 t107 t108 t109 w0 _ ?side1 ?side2 A10.out).mono ?_); (case side1 => repeat (first | (with_reducible first | exact HI0.out | apply IsS75.alloc | apply IsS75.drewN | apply IsS75.drew | apply IsS75.set_0 | apply IsS75.set_1) | exact HI0.out)); (case side2 => repeat (first | (with_reducible first | exact HB.out | apply below_alloc | apply pw_below_drewN | apply below_drew1 | refine below_set ?_ (IsS75.ge HI0.out)) | exact HB.out)); rintro e w13 ⟨rfl, hi, hb, hk⟩; refine ⟨_, rfl, ?_⟩; have n0_ := Aside0.mk (KeepBut.trans (by repeat (first | (with_reducible first | exact HK.out | apply KeepBut.set_ | apply keep_drewN | apply keep_drew | apply keep_alloc) | exact HK.out)) hk (.inl rfl)); have n1_ := Aside0.mk (hb); have n2_ := Aside0.mk (hi); clear HK; clear HB; clear HI0; have HK := n0_; have HB := n1_; have HI0 := n2_; clear n0_ n1_ n2_; (try clear hb); (try clear hb2); (try clear hk); (try clear hi)))
        go_ret
        exact ⟨by first | rfl | (simp [errW_none, errW_some] <;> rfl) | (simp [*, errW_none, errW_some] <;> rfl), by repeat (first | (with_reducible first | exact HI0.out | apply IsS75.alloc | apply IsS75.drewN | apply IsS75.drew | apply IsS75.set_0 | apply IsS75.set_1) | exact HI0.out), by repeat (first | (with_reducible first | exact HB.out | apply below_alloc | apply pw_below_drewN | apply below_drew1 | refine below_set ?_ (IsS75.ge HI0.out)) | exact HB.out), by repeat (first | (with_reducible first | exact HK.out | apply KeepBut.set_ | apply keep_drewN | apply keep_drew | apply keep_alloc) | exact HK.out)⟩
    · rw [if_neg c6] at H
      have c6b0 : decide (0 < a1) = false := decide_eq_false c6
      clear c6
      replace H := Option.bind_eq_some_iff.mp H
      obtain ⟨⟨t110, t111⟩, A140, H⟩ := H
      replace H : (some (0, t110, t111)) = some (r1, r2, r3) := H
      have A14 := Aside0.mk A140
      clear A140
      simp only [Option.some.injEq, Prod.mk.injEq] at H
      obtain ⟨rfl, rfl, rfl⟩ := H
      go_enter Try.func57, Try.ntmps57
      go_wp2_with (first | ((with_reducible refine gate_callee (f := 83) rfl ?_); refine goesL_ (some 7) rfl rfl Try.func83 (by kernel_rfl) rfl #[.pointer (some ⟨g, 0, none⟩)] rfl (by (try simp only [List.map_toArray, List.map_cons, List.map_nil]); first | done | rfl | (simp only [List.length_drop, List.length_take]; rfl)) ?_; (with_reducible refine (vint_Source_Num.calls g s0_0 s0_1 t102 t103 t104 w0 _ ?side1 ?side2 A3.out).mono ?_); (case side1 => repeat (first | (with_reducible first | exact HI0.out | apply IsS75.alloc | apply IsS75.drewN | apply IsS75.drew | apply IsS75.set_0 | apply IsS75.set_1) | exact HI0.out)); (case side2 => repeat (first | (with_reducible first | exact HB.out | apply below_alloc | apply pw_below_drewN | apply below_drew1 | refine below_set ?_ (IsS75.ge HI0.out)) | exact HB.out)); rintro e w15 ⟨rfl, hi, hb, hk⟩; refine ⟨_, rfl, ?_⟩; have n0_ := Aside0.mk (KeepBut.trans (by repeat (first | (with_reducible first | exact HK.out | apply KeepBut.set_ | apply keep_drewN | apply keep_drew | apply keep_alloc) | exact HK.out)) hk (.inl rfl)); have n1_ := Aside0.mk (hb); have n2_ := Aside0.mk (hi); clear HK; clear HB; clear HI0; have HK := n0_; have HB := n1_; have HI0 := n2_; clear n0_ n1_ n2_; (try clear hb); (try clear hb2); (try clear hk); (try clear hi)) | ((with_reducible refine gate_callee (f := 23) rfl ?_); refine goesL_ (some 9) rfl rfl Try.func23 (by kernel_rfl) rfl #[.pointer (some ⟨g, 0, none⟩)] rfl (by (try simp only [List.map_toArray, List.map_cons, List.map_nil]); first | done | rfl | (simp only [List.length_drop, List.length_take]; rfl)) ?_; (with_reducible refine (vint_Source_Ok.calls g t103 t104 true t106 t107 w0 _ ?side1 ?side2 A4.out).mono ?_); (case side1 => repeat (first | (with_reducible first | exact HI0.out | apply IsS75.alloc | apply IsS75.drewN | apply IsS75.drew | apply IsS75.set_0 | apply IsS75.set_1) | exact HI0.out)); (case side2 => repeat (first | (with_reducible first | exact HB.out | apply below_alloc | apply pw_below_drewN | apply below_drew1 | refine below_set ?_ (IsS75.ge HI0.out)) | exact HB.out)); rintro e w16 ⟨rfl, hi, hb, hk⟩; refine ⟨_, rfl, ?_⟩; have n0_ := Aside0.mk (KeepBut.trans (by repeat (first | (with_reducible first | exact HK.out | apply KeepBut.set_ | apply keep_drewN | apply keep_drew | apply keep_alloc) | exact HK.out)) hk (.inl rfl)); have n1_ := Aside0.mk (hb); have n2_ := Aside0.mk (hi); clear HK; clear HB; clear HI0; have HK := n0_; have HB := n1_; have HI0 := n2_; clear n0_ n1_ n2_; (try clear hb); (try clear hb2); (try clear hk); (try clear hi)) | ((with_reducible refine gate_callee (f := 59) rfl ?_); refine goesL_ (some 23) rfl rfl Try.func59 (by kernel_rfl) rfl #[.pointer (some ⟨g, 0, none⟩)] rfl (by (try simp only [List.map_toArray, List.map_cons, List.map_nil]); first | done | rfl | (simp only [List.length_drop, List.length_take]; rfl)) ?_; (with_reducible refine (vint_Source_Fail.calls g t106 t107 t110 t111 w0 _ ?side1 ?side2 A14.out).mono ?_); (case side1 => repeat (first | (with_reducible first | exact HI0.out | apply IsS75.alloc | apply IsS75.drewN | apply IsS75.drew | apply IsS75.set_0 | apply IsS75.set_1) | exact HI0.out)); (case side2 => repeat (first | (with_reducible first | exact HB.out | apply below_alloc | apply pw_below_drewN | apply below_drew1 | refine below_set ?_ (IsS75.ge HI0.out)) | exact HB.out)); rintro e w17 ⟨rfl, hi, hb, hk⟩; refine ⟨_, rfl, ?_⟩; have n0_ := Aside0.mk (KeepBut.trans (by repeat (first | (with_reducible first | exact HK.out | apply KeepBut.set_ | apply keep_drewN | apply keep_drew | apply keep_alloc) | exact HK.out)) hk (.inl rfl)); have n1_ := Aside0.mk (hb); have n2_ := Aside0.mk (hi); clear HK; clear HB; clear HI0; have HK := n0_; have HB := n1_; have HI0 := n2_; clear n0_ n1_ n2_; (try clear hb); (try clear hb2); (try clear hk); (try clear hi)))
      go_ret
      exact ⟨by first | rfl | (simp [errW_none, errW_some] <;> rfl) | (simp [*, errW_none, errW_some] <;> rfl), by repeat (first | (with_reducible first | exact HI0.out | apply IsS75.alloc | apply IsS75.drewN | apply IsS75.drew | apply IsS75.set_0 | apply IsS75.set_1) | exact HI0.out), by repeat (first | (with_reducible first | exact HB.out | apply below_alloc | apply pw_below_drewN | apply below_drew1 | refine below_set ?_ (IsS75.ge HI0.out)) | exact HB.out), by repeat (first | (with_reducible first | exact HK.out | apply KeepBut.set_ | apply keep_drewN | apply keep_drew | apply keep_alloc) | exact HK.out)⟩
  · replace c5 := Bool.eq_false_iff.mpr c5
    subst c5
    have H1 : ((vint_Source_Fail.f t106 t107).bind fun bt112 => (some (0, bt112.1, bt112.2))) = some (r1, r2, r3) := by rw [if_neg (show ¬ (false = true) by decide)] at H; exact H
    clear H
    have H := H1
    clear H1
    replace H := Option.bind_eq_some_iff.mp H
    obtain ⟨⟨t112, t113⟩, A180, H⟩ := H
    replace H : (some (0, t112, t113)) = some (r1, r2, r3) := H
    have A18 := Aside0.mk A180
    clear A180
    simp only [Option.some.injEq, Prod.mk.injEq] at H
    obtain ⟨rfl, rfl, rfl⟩ := H
    go_enter Try.func57, Try.ntmps57
    go_wp2_with (first | ((with_reducible refine gate_callee (f := 83) rfl ?_); refine goesL_ (some 7) rfl rfl Try.func83 (by kernel_rfl) rfl #[.pointer (some ⟨g, 0, none⟩)] rfl (by (try simp only [List.map_toArray, List.map_cons, List.map_nil]); first | done | rfl | (simp only [List.length_drop, List.length_take]; rfl)) ?_; (with_reducible refine (vint_Source_Num.calls g s0_0 s0_1 t102 t103 t104 w0 _ ?side1 ?side2 A3.out).mono ?_); (case side1 => repeat (first | (with_reducible first | exact HI0.out | apply IsS75.alloc | apply IsS75.drewN | apply IsS75.drew | apply IsS75.set_0 | apply IsS75.set_1) | exact HI0.out)); (case side2 => repeat (first | (with_reducible first | exact HB.out | apply below_alloc | apply pw_below_drewN | apply below_drew1 | refine below_set ?_ (IsS75.ge HI0.out)) | exact HB.out)); rintro e w19 ⟨rfl, hi, hb, hk⟩; refine ⟨_, rfl, ?_⟩; have n0_ := Aside0.mk (KeepBut.trans (by repeat (first | (with_reducible first | exact HK.out | apply KeepBut.set_ | apply keep_drewN | apply keep_drew | apply keep_alloc) | exact HK.out)) hk (.inl rfl)); have n1_ := Aside0.mk (hb); have n2_ := Aside0.mk (hi); clear HK; clear HB; clear HI0; have HK := n0_; have HB := n1_; have HI0 := n2_; clear n0_ n1_ n2_; (try clear hb); (try clear hb2); (try clear hk); (try clear hi)) | ((with_reducible refine gate_callee (f := 23) rfl ?_); refine goesL_ (some 9) rfl rfl Try.func23 (by kernel_rfl) rfl #[.pointer (some ⟨g, 0, none⟩)] rfl (by (try simp only [List.map_toArray, List.map_cons, List.map_nil]); first | done | rfl | (simp only [List.length_drop, List.length_take]; rfl)) ?_; (with_reducible refine (vint_Source_Ok.calls g t103 t104 false t106 t107 w0 _ ?side1 ?side2 A4.out).mono ?_); (case side1 => repeat (first | (with_reducible first | exact HI0.out | apply IsS75.alloc | apply IsS75.drewN | apply IsS75.drew | apply IsS75.set_0 | apply IsS75.set_1) | exact HI0.out)); (case side2 => repeat (first | (with_reducible first | exact HB.out | apply below_alloc | apply pw_below_drewN | apply below_drew1 | refine below_set ?_ (IsS75.ge HI0.out)) | exact HB.out)); rintro e w20 ⟨rfl, hi, hb, hk⟩; refine ⟨_, rfl, ?_⟩; have n0_ := Aside0.mk (KeepBut.trans (by repeat (first | (with_reducible first | exact HK.out | apply KeepBut.set_ | apply keep_drewN | apply keep_drew | apply keep_alloc) | exact HK.out)) hk (.inl rfl)); have n1_ := Aside0.mk (hb); have n2_ := Aside0.mk (hi); clear HK; clear HB; clear HI0; have HK := n0_; have HB := n1_; have HI0 := n2_; clear n0_ n1_ n2_; (try clear hb); (try clear hb2); (try clear hk); (try clear hi)) | ((with_reducible refine gate_callee (f := 59) rfl ?_); refine goesL_ (some 23) rfl rfl Try.func59 (by kernel_rfl) rfl #[.pointer (some ⟨g, 0, none⟩)] rfl (by (try simp only [List.map_toArray, List.map_cons, List.map_nil]); first | done | rfl | (simp only [List.length_drop, List.length_take]; rfl)) ?_; (with_reducible refine (vint_Source_Fail.calls g t106 t107 t112 t113 w0 _ ?side1 ?side2 A18.out).mono ?_); (case side1 => repeat (first | (with_reducible first | exact HI0.out | apply IsS75.alloc | apply IsS75.drewN | apply IsS75.drew | apply IsS75.set_0 | apply IsS75.set_1) | exact HI0.out)); (case side2 => repeat (first | (with_reducible first | exact HB.out | apply below_alloc | apply pw_below_drewN | apply below_drew1 | refine below_set ?_ (IsS75.ge HI0.out)) | exact HB.out)); rintro e w21 ⟨rfl, hi, hb, hk⟩; refine ⟨_, rfl, ?_⟩; have n0_ := Aside0.mk (KeepBut.trans (by repeat (first | (with_reducible first | exact HK.out | apply KeepBut.set_ | apply keep_drewN | apply keep_drew | apply keep_alloc) | exact HK.out)) hk (.inl rfl)); have n1_ := Aside0.mk (hb); have n2_ := Aside0.mk (hi); clear HK; clear HB; clear HI0; have HK := n0_; have HB := n1_; have HI0 := n2_; clear n0_ n1_ n2_; (try clear hb); (try clear hb2); (try clear hk); (try clear hi)))
    go_ret
    exact ⟨by first | rfl | (simp [errW_none, errW_some] <;> rfl) | (simp [*, errW_none, errW_some] <;> rfl), by repeat (first | (with_reducible first | exact HI0.out | apply IsS75.alloc | apply IsS75.drewN | apply IsS75.drew | apply IsS75.set_0 | apply IsS75.set_1) | exact HI0.out), by repeat (first | (with_reducible first | exact HB.out | apply below_alloc | apply pw_below_drewN | apply below_drew1 | refine below_set ?_ (IsS75.ge HI0.out)) | exact HB.out), by repeat (first | (with_reducible first | exact HK.out | apply KeepBut.set_ | apply keep_drewN | apply keep_drew | apply keep_alloc) | exact HK.out)⟩

end Go.Proofs.Ytbbffnlefmogbaa.X
-- Printed for this claim by a program of this session (wip/xprint.py) over the kit's printer; Lean checks it.
namespace Go.Proofs.Ytbbffnlefmogbaa.X
open Go.RowKit Go.Proofs.YtbbffnlefmogbaaW.PrintWords Go.Proofs.YtbbffnlefmogbaaW.PrintLast Go.Proofs.YtbbffnlefmogbaaW.PrintMore
attribute [local go_sem] max2_int min2_int max_two min_two max_three min_three max_four min_four   -- for this text's walks alone
set_option linter.unusedVariables false
set_option linter.unusedSimpArgs false

/-! ### firkinref01_S_Below: function 60 -/
def firkinref01_S_Below.f (s0_0 : List Int) (s0_1 : Bool) (a1 : Int) : Option (Int × List Int × Bool) := (firkinref01_S_Num.f s0_0 s0_1).bind fun bt114 => (if bt114.2.2 = true then ((firkinref01_S_Fail.f bt114.2.1 bt114.2.2).bind fun bt117 => (some (0, bt117.1, bt117.2))) else (if a1 < 1 then ((firkinref01_S_Fail.f bt114.2.1 bt114.2.2).bind fun bt119 => (some (0, bt119.1, bt119.2))) else (if bt114.1 ≥ (IntKind.u64.wrap (a1)) then ((firkinref01_S_Fail.f bt114.2.1 bt114.2.2).bind fun bt121 => (some (0, bt121.1, bt121.2))) else (some (wrap64 (bt114.1), bt114.2.1, bt114.2.2)))))
set_option maxHeartbeats 8000000 in
set_option maxRecDepth 100000 in
theorem firkinref01_S_Below.calls (g : Nat) (s0_0 : List Int) (s0_1 : Bool) (a1 : Int) (r1 : Int) (r2 : List Int) (r3 : Bool) (w0 w : World) (hI : IsS39 w0 w g s0_0 s0_1) (hB : Below w0.heap.size w0 w) (h : firkinref01_S_Below.f s0_0 s0_1 a1 = some (r1, r2, r3)) :
    Calls Try.prog 60 #[.pointer (some ⟨g, 0, none⟩), .int .i64 a1] w fun e w' => e = .returned (.int .i64 r1) ∧ IsS39 w0 w' g r2 r3 ∧ Below w0.heap.size w0 w' ∧ KeepBut w w' g none := by
  have HI0 := Aside0.mk hI
  have HK := Aside0.mk (KeepBut.refl w g none)
  have HL := Aside0.mk hB.size
  clear hI
  have HW0 := Aside0.mk hB.size
  have HB := Aside0.mk hB
  clear hB
  have H : ((firkinref01_S_Num.f s0_0 s0_1).bind fun bt114 => (if bt114.2.2 = true then ((firkinref01_S_Fail.f bt114.2.1 bt114.2.2).bind fun bt117 => (some (0, bt117.1, bt117.2))) else (if a1 < 1 then ((firkinref01_S_Fail.f bt114.2.1 bt114.2.2).bind fun bt119 => (some (0, bt119.1, bt119.2))) else (if bt114.1 ≥ (IntKind.u64.wrap (a1)) then ((firkinref01_S_Fail.f bt114.2.1 bt114.2.2).bind fun bt121 => (some (0, bt121.1, bt121.2))) else (some (wrap64 (bt114.1), bt114.2.1, bt114.2.2)))))) = some (r1, r2, r3) := h
  clear h
  replace H := Option.bind_eq_some_iff.mp H
  obtain ⟨⟨t114, t115, t116⟩, A30, H⟩ := H
  replace H : (if t116 = true then ((firkinref01_S_Fail.f t115 t116).bind fun bt117 => (some (0, bt117.1, bt117.2))) else (if a1 < 1 then ((firkinref01_S_Fail.f t115 t116).bind fun bt119 => (some (0, bt119.1, bt119.2))) else (if t114 ≥ (IntKind.u64.wrap (a1)) then ((firkinref01_S_Fail.f t115 t116).bind fun bt121 => (some (0, bt121.1, bt121.2))) else (some (wrap64 (t114), t115, t116))))) = some (r1, r2, r3) := H
  have A3 := Aside0.mk A30
  clear A30
  by_cases c4 : t116 = true
  · subst c4
    have H1 : ((firkinref01_S_Fail.f t115 true).bind fun bt117 => (some (0, bt117.1, bt117.2))) = some (r1, r2, r3) := by rw [if_pos rfl] at H; exact H
    clear H
    have H := H1
    clear H1
    replace H := Option.bind_eq_some_iff.mp H
    obtain ⟨⟨t117, t118⟩, A50, H⟩ := H
    replace H : (some (0, t117, t118)) = some (r1, r2, r3) := H
    have A5 := Aside0.mk A50
    clear A50
    simp only [Option.some.injEq, Prod.mk.injEq] at H
    obtain ⟨rfl, rfl, rfl⟩ := H
    go_enter Try.func60, Try.ntmps60
    go_wp2_with (first | ((with_reducible refine gate_callee (f := 79) rfl ?_); refine goesL_ (some 7) rfl rfl Try.func79 (by kernel_rfl) rfl #[.pointer (some ⟨g, 0, none⟩)] rfl (by (try simp only [List.map_toArray, List.map_cons, List.map_nil]); first | done | rfl | (simp only [List.length_drop, List.length_take]; rfl)) ?_; (with_reducible refine (firkinref01_S_Num.calls g s0_0 s0_1 t114 t115 true w0 _ ?side1 ?side2 A3.out).mono ?_); (case side1 => repeat (first | (with_reducible first | exact HI0.out | apply IsS39.alloc | apply IsS39.drewN | apply IsS39.drew | apply IsS39.set_0 | apply IsS39.set_1) | exact HI0.out)); (case side2 => repeat (first | (with_reducible first | exact HB.out | apply below_alloc | apply pw_below_drewN | apply below_drew1 | refine below_set ?_ (IsS39.ge HI0.out)) | exact HB.out)); rintro e w6 ⟨rfl, hi, hb, hk⟩; refine ⟨_, rfl, ?_⟩; have n0_ := Aside0.mk (KeepBut.trans (by repeat (first | (with_reducible first | exact HK.out | apply KeepBut.set_ | apply keep_drewN | apply keep_drew | apply keep_alloc) | exact HK.out)) hk (.inl rfl)); have n1_ := Aside0.mk (hb); have n2_ := Aside0.mk (hi); clear HK; clear HB; clear HI0; have HK := n0_; have HB := n1_; have HI0 := n2_; clear n0_ n1_ n2_; (try clear hb); (try clear hb2); (try clear hk); (try clear hi); obtain ⟨ASz7_0, cSz7_0, HGz7, hgz7, ⟨HSz7_0, _⟩⟩ := HI0.out; have hcz7_0 := cellS39_0 HGz7; have hcz7_1 := cellS39_1 HGz7; have hfz7_0 := blk_frozen HGz7 0; have hfz7_1 := blk_frozen HGz7 1; clear HGz7 hgz7) | ((with_reducible refine gate_callee (f := 62) rfl ?_); refine goesL_ (some 23) rfl rfl Try.func62 (by kernel_rfl) rfl #[.pointer (some ⟨g, 0, none⟩)] rfl (by (try simp only [List.map_toArray, List.map_cons, List.map_nil]); first | done | rfl | (simp only [List.length_drop, List.length_take]; rfl)) ?_; (with_reducible refine (firkinref01_S_Fail.calls g t115 true t117 t118 w0 _ ?side1 ?side2 A5.out).mono ?_); (case side1 => repeat (first | (with_reducible first | exact HI0.out | apply IsS39.alloc | apply IsS39.drewN | apply IsS39.drew | apply IsS39.set_0 | apply IsS39.set_1) | exact HI0.out)); (case side2 => repeat (first | (with_reducible first | exact HB.out | apply below_alloc | apply pw_below_drewN | apply below_drew1 | refine below_set ?_ (IsS39.ge HI0.out)) | exact HB.out)); rintro e w8 ⟨rfl, hi, hb, hk⟩; refine ⟨_, rfl, ?_⟩; have n0_ := Aside0.mk (KeepBut.trans (by repeat (first | (with_reducible first | exact HK.out | apply KeepBut.set_ | apply keep_drewN | apply keep_drew | apply keep_alloc) | exact HK.out)) hk (.inl rfl)); have n1_ := Aside0.mk (hb); have n2_ := Aside0.mk (hi); clear HK; clear HB; clear HI0; have HK := n0_; have HB := n1_; have HI0 := n2_; clear n0_ n1_ n2_; (try clear hb); (try clear hb2); (try clear hk); (try clear hi)))
    go_ret
    exact ⟨by first | rfl | (simp [errW_none, errW_some] <;> rfl) | (simp [*, errW_none, errW_some] <;> rfl), by repeat (first | (with_reducible first | exact HI0.out | apply IsS39.alloc | apply IsS39.drewN | apply IsS39.drew | apply IsS39.set_0 | apply IsS39.set_1) | exact HI0.out), by repeat (first | (with_reducible first | exact HB.out | apply below_alloc | apply pw_below_drewN | apply below_drew1 | refine below_set ?_ (IsS39.ge HI0.out)) | exact HB.out), by repeat (first | (with_reducible first | exact HK.out | apply KeepBut.set_ | apply keep_drewN | apply keep_drew | apply keep_alloc) | exact HK.out)⟩
  · replace c4 := Bool.eq_false_iff.mpr c4
    subst c4
    have H1 : (if a1 < 1 then ((firkinref01_S_Fail.f t115 false).bind fun bt119 => (some (0, bt119.1, bt119.2))) else (if t114 ≥ (IntKind.u64.wrap (a1)) then ((firkinref01_S_Fail.f t115 false).bind fun bt121 => (some (0, bt121.1, bt121.2))) else (some (wrap64 (t114), t115, false)))) = some (r1, r2, r3) := by rw [if_neg (show ¬ (false = true) by decide)] at H; exact H
    clear H
    have H := H1
    clear H1
    by_cases c9 : a1 < 1
    · rw [if_pos c9] at H
      have c9b0 : decide (a1 < 1) = true := decide_eq_true c9
      clear c9
      replace H := Option.bind_eq_some_iff.mp H
      obtain ⟨⟨t119, t120⟩, A100, H⟩ := H
      replace H : (some (0, t119, t120)) = some (r1, r2, r3) := H
      have A10 := Aside0.mk A100
      clear A100
      simp only [Option.some.injEq, Prod.mk.injEq] at H
      obtain ⟨rfl, rfl, rfl⟩ := H
      go_enter Try.func60, Try.ntmps60
      go_wp2_with (first | ((with_reducible refine gate_callee (f := 79) rfl ?_); refine goesL_ (some 7) rfl rfl Try.func79 (by kernel_rfl) rfl #[.pointer (some ⟨g, 0, none⟩)] rfl (by (try simp only [List.map_toArray, List.map_cons, List.map_nil]); first | done | rfl | (simp only [List.length_drop, List.length_take]; rfl)) ?_; (with_reducible refine (firkinref01_S_Num.calls g s0_0 s0_1 t114 t115 false w0 _ ?side1 ?side2 A3.out).mono ?_); (case side1 => repeat (first | (with_reducible first | exact HI0.out | apply IsS39.alloc | apply IsS39.drewN | apply IsS39.drew | apply IsS39.set_0 | apply IsS39.set_1) | exact HI0.out)); (case side2 => repeat (first | (with_reducible first | exact HB.out | apply below_alloc | apply pw_below_drewN | apply below_drew1 | refine below_set ?_ (IsS39.ge HI0.out)) | exact HB.out)); rintro e w11 ⟨rfl, hi, hb, hk⟩; refine ⟨_, rfl, ?_⟩; have n0_ := Aside0.mk (KeepBut.trans (by repeat (first | (with_reducible first | exact HK.out | apply KeepBut.set_ | apply keep_drewN | apply keep_drew | apply keep_alloc) | exact HK.out)) hk (.inl rfl)); have n1_ := Aside0.mk (hb); have n2_ := Aside0.mk (hi); clear HK; clear HB; clear HI0; have HK := n0_; have HB := n1_; have HI0 := n2_; clear n0_ n1_ n2_; (try clear hb); (try clear hb2); (try clear hk); (try clear hi); obtain ⟨ASz12_0, cSz12_0, HGz12, hgz12, ⟨HSz12_0, _⟩⟩ := HI0.out; have hcz12_0 := cellS39_0 HGz12; have hcz12_1 := cellS39_1 HGz12; have hfz12_0 := blk_frozen HGz12 0; have hfz12_1 := blk_frozen HGz12 1; clear HGz12 hgz12) | ((with_reducible refine gate_callee (f := 62) rfl ?_); refine goesL_ (some 23) rfl rfl Try.func62 (by kernel_rfl) rfl #[.pointer (some ⟨g, 0, none⟩)] rfl (by (try simp only [List.map_toArray, List.map_cons, List.map_nil]); first | done | rfl | (simp only [List.length_drop, List.length_take]; rfl)) ?_; (with_reducible refine (firkinref01_S_Fail.calls g t115 false t119 t120 w0 _ ?side1 ?side2 A10.out).mono ?_); (case side1 => repeat (first | (with_reducible first | exact HI0.out | apply IsS39.alloc | apply IsS39.drewN | apply IsS39.drew | apply IsS39.set_0 | apply IsS39.set_1) | exact HI0.out)); (case side2 => repeat (first | (with_reducible first | exact HB.out | apply below_alloc | apply pw_below_drewN | apply below_drew1 | refine below_set ?_ (IsS39.ge HI0.out)) | exact HB.out)); rintro e w13 ⟨rfl, hi, hb, hk⟩; refine ⟨_, rfl, ?_⟩; have n0_ := Aside0.mk (KeepBut.trans (by repeat (first | (with_reducible first | exact HK.out | apply KeepBut.set_ | apply keep_drewN | apply keep_drew | apply keep_alloc) | exact HK.out)) hk (.inl rfl)); have n1_ := Aside0.mk (hb); have n2_ := Aside0.mk (hi); clear HK; clear HB; clear HI0; have HK := n0_; have HB := n1_; have HI0 := n2_; clear n0_ n1_ n2_; (try clear hb); (try clear hb2); (try clear hk); (try clear hi)))
      go_ret
      exact ⟨by first | rfl | (simp [errW_none, errW_some] <;> rfl) | (simp [*, errW_none, errW_some] <;> rfl), by repeat (first | (with_reducible first | exact HI0.out | apply IsS39.alloc | apply IsS39.drewN | apply IsS39.drew | apply IsS39.set_0 | apply IsS39.set_1) | exact HI0.out), by repeat (first | (with_reducible first | exact HB.out | apply below_alloc | apply pw_below_drewN | apply below_drew1 | refine below_set ?_ (IsS39.ge HI0.out)) | exact HB.out), by repeat (first | (with_reducible first | exact HK.out | apply KeepBut.set_ | apply keep_drewN | apply keep_drew | apply keep_alloc) | exact HK.out)⟩
    · rw [if_neg c9] at H
      have c9b0 : decide (a1 < 1) = false := decide_eq_false c9
      clear c9
      by_cases c14 : t114 ≥ (IntKind.u64.wrap (a1))
      · rw [if_pos c14] at H
        have c14b0 : decide ((IntKind.u64.wrap (a1)) ≤ t114) = true := decide_eq_true c14
        clear c14
        replace H := Option.bind_eq_some_iff.mp H
        obtain ⟨⟨t121, t122⟩, A150, H⟩ := H
        replace H : (some (0, t121, t122)) = some (r1, r2, r3) := H
        have A15 := Aside0.mk A150
        clear A150
        simp only [Option.some.injEq, Prod.mk.injEq] at H
        obtain ⟨rfl, rfl, rfl⟩ := H
        go_enter Try.func60, Try.ntmps60
        go_wp2_with (first | ((with_reducible refine gate_callee (f := 79) rfl ?_); refine goesL_ (some 7) rfl rfl Try.func79 (by kernel_rfl) rfl #[.pointer (some ⟨g, 0, none⟩)] rfl (by (try simp only [List.map_toArray, List.map_cons, List.map_nil]); first | done | rfl | (simp only [List.length_drop, List.length_take]; rfl)) ?_; (with_reducible refine (firkinref01_S_Num.calls g s0_0 s0_1 t114 t115 false w0 _ ?side1 ?side2 A3.out).mono ?_); (case side1 => repeat (first | (with_reducible first | exact HI0.out | apply IsS39.alloc | apply IsS39.drewN | apply IsS39.drew | apply IsS39.set_0 | apply IsS39.set_1) | exact HI0.out)); (case side2 => repeat (first | (with_reducible first | exact HB.out | apply below_alloc | apply pw_below_drewN | apply below_drew1 | refine below_set ?_ (IsS39.ge HI0.out)) | exact HB.out)); rintro e w16 ⟨rfl, hi, hb, hk⟩; refine ⟨_, rfl, ?_⟩; have n0_ := Aside0.mk (KeepBut.trans (by repeat (first | (with_reducible first | exact HK.out | apply KeepBut.set_ | apply keep_drewN | apply keep_drew | apply keep_alloc) | exact HK.out)) hk (.inl rfl)); have n1_ := Aside0.mk (hb); have n2_ := Aside0.mk (hi); clear HK; clear HB; clear HI0; have HK := n0_; have HB := n1_; have HI0 := n2_; clear n0_ n1_ n2_; (try clear hb); (try clear hb2); (try clear hk); (try clear hi); obtain ⟨ASz17_0, cSz17_0, HGz17, hgz17, ⟨HSz17_0, _⟩⟩ := HI0.out; have hcz17_0 := cellS39_0 HGz17; have hcz17_1 := cellS39_1 HGz17; have hfz17_0 := blk_frozen HGz17 0; have hfz17_1 := blk_frozen HGz17 1; clear HGz17 hgz17) | ((with_reducible refine gate_callee (f := 62) rfl ?_); refine goesL_ (some 23) rfl rfl Try.func62 (by kernel_rfl) rfl #[.pointer (some ⟨g, 0, none⟩)] rfl (by (try simp only [List.map_toArray, List.map_cons, List.map_nil]); first | done | rfl | (simp only [List.length_drop, List.length_take]; rfl)) ?_; (with_reducible refine (firkinref01_S_Fail.calls g t115 false t121 t122 w0 _ ?side1 ?side2 A15.out).mono ?_); (case side1 => repeat (first | (with_reducible first | exact HI0.out | apply IsS39.alloc | apply IsS39.drewN | apply IsS39.drew | apply IsS39.set_0 | apply IsS39.set_1) | exact HI0.out)); (case side2 => repeat (first | (with_reducible first | exact HB.out | apply below_alloc | apply pw_below_drewN | apply below_drew1 | refine below_set ?_ (IsS39.ge HI0.out)) | exact HB.out)); rintro e w18 ⟨rfl, hi, hb, hk⟩; refine ⟨_, rfl, ?_⟩; have n0_ := Aside0.mk (KeepBut.trans (by repeat (first | (with_reducible first | exact HK.out | apply KeepBut.set_ | apply keep_drewN | apply keep_drew | apply keep_alloc) | exact HK.out)) hk (.inl rfl)); have n1_ := Aside0.mk (hb); have n2_ := Aside0.mk (hi); clear HK; clear HB; clear HI0; have HK := n0_; have HB := n1_; have HI0 := n2_; clear n0_ n1_ n2_; (try clear hb); (try clear hb2); (try clear hk); (try clear hi)))
        go_ret
        exact ⟨by first | rfl | (simp [errW_none, errW_some] <;> rfl) | (simp [*, errW_none, errW_some] <;> rfl), by repeat (first | (with_reducible first | exact HI0.out | apply IsS39.alloc | apply IsS39.drewN | apply IsS39.drew | apply IsS39.set_0 | apply IsS39.set_1) | exact HI0.out), by repeat (first | (with_reducible first | exact HB.out | apply below_alloc | apply pw_below_drewN | apply below_drew1 | refine below_set ?_ (IsS39.ge HI0.out)) | exact HB.out), by repeat (first | (with_reducible first | exact HK.out | apply KeepBut.set_ | apply keep_drewN | apply keep_drew | apply keep_alloc) | exact HK.out)⟩
      · rw [if_neg c14] at H
        have c14b0 : decide ((IntKind.u64.wrap (a1)) ≤ t114) = false := decide_eq_false c14
        clear c14
        simp only [Option.some.injEq, Prod.mk.injEq] at H
        obtain ⟨rfl, rfl, rfl⟩ := H
        go_enter Try.func60, Try.ntmps60
        go_wp2_with (first | ((with_reducible refine gate_callee (f := 79) rfl ?_); refine goesL_ (some 7) rfl rfl Try.func79 (by kernel_rfl) rfl #[.pointer (some ⟨g, 0, none⟩)] rfl (by (try simp only [List.map_toArray, List.map_cons, List.map_nil]); first | done | rfl | (simp only [List.length_drop, List.length_take]; rfl)) ?_; (with_reducible refine (firkinref01_S_Num.calls g s0_0 s0_1 t114 t115 false w0 _ ?side1 ?side2 A3.out).mono ?_); (case side1 => repeat (first | (with_reducible first | exact HI0.out | apply IsS39.alloc | apply IsS39.drewN | apply IsS39.drew | apply IsS39.set_0 | apply IsS39.set_1) | exact HI0.out)); (case side2 => repeat (first | (with_reducible first | exact HB.out | apply below_alloc | apply pw_below_drewN | apply below_drew1 | refine below_set ?_ (IsS39.ge HI0.out)) | exact HB.out)); rintro e w19 ⟨rfl, hi, hb, hk⟩; refine ⟨_, rfl, ?_⟩; have n0_ := Aside0.mk (KeepBut.trans (by repeat (first | (with_reducible first | exact HK.out | apply KeepBut.set_ | apply keep_drewN | apply keep_drew | apply keep_alloc) | exact HK.out)) hk (.inl rfl)); have n1_ := Aside0.mk (hb); have n2_ := Aside0.mk (hi); clear HK; clear HB; clear HI0; have HK := n0_; have HB := n1_; have HI0 := n2_; clear n0_ n1_ n2_; (try clear hb); (try clear hb2); (try clear hk); (try clear hi); obtain ⟨ASz20_0, cSz20_0, HGz20, hgz20, ⟨HSz20_0, _⟩⟩ := HI0.out; have hcz20_0 := cellS39_0 HGz20; have hcz20_1 := cellS39_1 HGz20; have hfz20_0 := blk_frozen HGz20 0; have hfz20_1 := blk_frozen HGz20 1; clear HGz20 hgz20))
        go_ret
        exact ⟨by first | rfl | (simp [errW_none, errW_some] <;> rfl) | (simp [*, errW_none, errW_some] <;> rfl), by repeat (first | (with_reducible first | exact HI0.out | apply IsS39.alloc | apply IsS39.drewN | apply IsS39.drew | apply IsS39.set_0 | apply IsS39.set_1) | exact HI0.out), by repeat (first | (with_reducible first | exact HB.out | apply below_alloc | apply pw_below_drewN | apply below_drew1 | refine below_set ?_ (IsS39.ge HI0.out)) | exact HB.out), by repeat (first | (with_reducible first | exact HK.out | apply KeepBut.set_ | apply keep_drewN | apply keep_drew | apply keep_alloc) | exact HK.out)⟩

end Go.Proofs.Ytbbffnlefmogbaa.X
/- What is read of a source, plain law: numbers, numbers below another one: the code's source and the document's read the same. -/
namespace Go.Proofs.Ytbbffnlefmogbaa.Read
open Go Go.RowKit Go.Proofs.Ytbbffnlefmogbaa.X Go.Proofs.Ytbbffnlefmogbaa.Dec Go.Proofs.Ytbbffnlefmogbaa.Enc Go.Proofs.Ytbbffnlefmogbaa.Round Go.Proofs.YtbbffnlefmogbaaW.PrintWords Go.Proofs.YtbbffnlefmogbaaW.PrintLast Go.Proofs.YtbbffnlefmogbaaW.PrintMore
set_option linter.unusedVariables false
/-- A source as it can be: of one that failed nothing is left. -/
def GoodS (l : List Int) (bad : Bool) : Prop := Fit l ∧ (bad = true → l = [])
theorem GoodS.nil (b : Bool) : GoodS [] b := ⟨Fit.nil, fun _ => rfl⟩
theorem GoodS.of {l : List Int} (h : Fit l) : GoodS l false := ⟨h, fun h => by cases h⟩
theorem GoodS.drop {l : List Int} {b : Bool} (h : GoodS l b) (k : Nat) : GoodS (l.drop k) b := ⟨h.1.drop k, fun e => by rw [h.2 e]; exact List.drop_nil⟩
def gNum (l : List Int) (bad : Bool) : Int × List Int × Bool :=
  if bad = true ∨ szS 0 l = 0 then (0, [], true) else (((valS 0 (l.take (szS 0 l)) : Nat) : Int), l.drop (szS 0 l), false)
theorem gNum_good {l : List Int} {b : Bool} (h : GoodS l b) : GoodS (gNum l b).2.1 (gNum l b).2.2 := by
  unfold gNum; split
  · exact GoodS.nil _
  · exact GoodS.of (h.1.drop _)
theorem gNum_len (l : List Int) (b : Bool) : (gNum l b).2.1.length ≤ l.length := by
  unfold gNum; split <;> simp
theorem gNum_range {l : List Int} {b : Bool} (h : GoodS l b) : 0 ≤ (gNum l b).1 ∧ (gNum l b).1 < 18446744073709551616 := by
  unfold gNum; split
  · simp
  · have := val_lt h.1.1 (Nat.le_refl (szS 0 l))
    show 0 ≤ ((_ : Nat) : Int) ∧ ((_ : Nat) : Int) < _
    omega
theorem num_g {l : List Int} {b : Bool} (h : GoodS l b) : vint_Source_Num.f l b = some (gNum l b) := by
  unfold vint_Source_Num.f numS gNum
  rw [if_pos h.1]
  cases b with
  | true => rw [if_pos rfl, if_pos (.inl rfl), h.2 rfl]
  | false =>
    rw [if_neg (by decide)]
    by_cases hz : szS 0 l = 0
    · rw [if_pos hz, if_pos (.inr hz)]
    · rw [if_neg hz, if_neg (by simp [hz])]
theorem rnum_g {l : List Int} {b : Bool} (h : GoodS l b) : firkinref01_S_Num.f l b = some (gNum l b) := by
  unfold firkinref01_S_Num.f rnumS gNum
  rw [if_pos h.1]
  cases b with
  | true => obtain rfl := h.2 rfl; rfl
  | false =>
    by_cases hz : szS 0 l = 0
    · rw [if_pos hz, if_pos (.inr hz)]
    · rw [if_neg hz, if_neg (by simp [hz])]
def gBelow (l : List Int) (bad : Bool) (n : Int) : Int × List Int × Bool :=
  if (gNum l bad).2.2 = true ∨ n ≤ 0 ∨ n ≤ (gNum l bad).1 then (0, [], true) else gNum l bad
theorem gBelow_good {l : List Int} {b : Bool} (h : GoodS l b) (n : Int) : GoodS (gBelow l b n).2.1 (gBelow l b n).2.2 := by
  unfold gBelow; split
  · exact GoodS.nil _
  · exact gNum_good h
theorem gBelow_len (l : List Int) (b : Bool) (n : Int) : (gBelow l b n).2.1.length ≤ l.length := by
  unfold gBelow; split
  · simp
  · exact gNum_len l b
theorem gBelow_range {l : List Int} {b : Bool} (h : GoodS l b) (n : Int) : 0 ≤ (gBelow l b n).1 ∧ ((gBelow l b n).1 < n ∨ (gBelow l b n).1 = 0) := by
  unfold gBelow; split
  · simp
  · have := gNum_range h; omega
theorem wrap_u64_of {n : Int} (h0 : 0 ≤ n) (h1 : n < 18446744073709551616) : IntKind.u64.wrap n = n := by rw [IntKind.wrap_u64]; omega
theorem below_g {l : List Int} {b : Bool} (h : GoodS l b) (n : Int) (hn : n < 9223372036854775808) : vint_Source_Below.f l b n = some (gBelow l b n) := by
  unfold vint_Source_Below.f vint_Source_Ok.f vint_Source_Fail.f
  rw [num_g h, Option.bind_some]
  obtain ⟨h0, h1⟩ := gNum_range h
  unfold gBelow
  generalize gNum l b = g at h0 h1 ⊢
  obtain ⟨x, l', b'⟩ := g
  simp only [Option.bind_some] at h0 h1 ⊢
  cases b' with
  | true => simp
  | false =>
    by_cases hn0 : n > 0
    · rw [wrap_u64_of (by omega) (by omega)]
      by_cases hx : x < n
      · have hw : wrap64 x = x := w64 (by omega) (by omega)
        have : ¬ n ≤ 0 := by omega
        simp [hn0, hx, hw, this]
      · have : n ≤ x := by omega
        simp [hn0, hx, this]
    · have : n ≤ 0 := by omega
      simp [hn0, this]
theorem rbelow_g {l : List Int} {b : Bool} (h : GoodS l b) (n : Int) (hn : n < 9223372036854775808) : firkinref01_S_Below.f l b n = some (gBelow l b n) := by
  unfold firkinref01_S_Below.f firkinref01_S_Fail.f
  rw [rnum_g h, Option.bind_some]
  obtain ⟨h0, h1⟩ := gNum_range h
  unfold gBelow
  generalize gNum l b = g at h0 h1 ⊢
  obtain ⟨x, l', b'⟩ := g
  simp only [Option.bind_some] at h0 h1 ⊢
  cases b' with
  | true => simp
  | false =>
    by_cases hn0 : n < 1
    · have : n ≤ 0 := by omega
      simp [hn0, this]
    · have hn2 : ¬ n ≤ 0 := by omega
      rw [wrap_u64_of (by omega) (by omega)]
      by_cases hx : x ≥ n
      · have : n ≤ x := by omega
        simp [hn0, hn2, this]
      · have hw : wrap64 x = x := w64 (by omega) (by omega)
        have : ¬ n ≤ x := by omega
        simp [hn0, hn2, hw, this]
end Go.Proofs.Ytbbffnlefmogbaa.Read
/- Signed numbers that are read, plain law. -/
namespace Go.Proofs.Ytbbffnlefmogbaa.Read
open Go Go.RowKit Go.Proofs.Ytbbffnlefmogbaa.X Go.Proofs.Ytbbffnlefmogbaa.Dec Go.Proofs.Ytbbffnlefmogbaa.Enc Go.Proofs.Ytbbffnlefmogbaa.Round Go.Proofs.YtbbffnlefmogbaaW.PrintWords Go.Proofs.YtbbffnlefmogbaaW.PrintLast Go.Proofs.YtbbffnlefmogbaaW.PrintMore
set_option linter.unusedVariables false
def gInt (l : List Int) (bad : Bool) : Int × List Int × Bool := (zag (gNum l bad).1.toNat, (gNum l bad).2.1, (gNum l bad).2.2)
theorem int_g {l : List Int} {b : Bool} (h : GoodS l b) : vint_Source_Int.f l b = some (gInt l b) := by
  unfold vint_Source_Int.f
  rw [num_g h, Option.bind_some]
  obtain ⟨h0, h1⟩ := gNum_range h
  have e := int_val (gNum l b).1.toNat (by omega)
  rw [Int.toNat_of_nonneg h0] at e
  rw [e]
  rfl
theorem rint_val (n : Int) (h0 : 0 ≤ n) (h1 : n < 18446744073709551616) :
    (if Int.tmod n 2 = 1 then wrap64 ((wrap64 (-(wrap64 (IntKind.u64.wrap (Int.tdiv n 2))))) - 1) else wrap64 (IntKind.u64.wrap (Int.tdiv n 2))) = zag n.toNat := by
  rw [Int.tmod_eq_emod_of_nonneg h0, Int.tdiv_eq_ediv_of_nonneg h0, IntKind.wrap_u64]
  unfold zag wrap64
  split <;> split <;> omega
theorem rint_g {l : List Int} {b : Bool} (h : GoodS l b) : firkinref01_S_Int.f l b = some (gInt l b) := by
  unfold firkinref01_S_Int.f
  rw [rnum_g h, Option.bind_some]
  obtain ⟨h0, h1⟩ := gNum_range h
  have e := rint_val _ h0 h1
  unfold gInt
  rw [← e]
  by_cases hc : Int.tmod (gNum l b).1 2 = 1
  · rw [if_pos hc, if_pos hc]
  · rw [if_neg hc, if_neg hc]
end Go.Proofs.Ytbbffnlefmogbaa.Read
/- What is read of a source, plain law: bytes; the code's source and the document's read the same. -/
namespace Go.Proofs.Ytbbffnlefmogbaa.Read
open Go Go.RowKit Go.Proofs.Ytbbffnlefmogbaa.X Go.Proofs.Ytbbffnlefmogbaa.Dec Go.Proofs.Ytbbffnlefmogbaa.Enc Go.Proofs.Ytbbffnlefmogbaa.Round Go.Proofs.YtbbffnlefmogbaaW.PrintWords Go.Proofs.YtbbffnlefmogbaaW.PrintLast Go.Proofs.YtbbffnlefmogbaaW.PrintMore
set_option linter.unusedVariables false
def gTake (l : List Int) (bad : Bool) (n : Int) : List Int × List Int × Bool :=
  if bad = true ∨ n < 0 ∨ (l.length : Int) < n then ([], [], true) else (l.take n.toNat, l.drop n.toNat, false)
theorem gTake_good {l : List Int} {b : Bool} (h : GoodS l b) (n : Int) : GoodS (gTake l b n).2.1 (gTake l b n).2.2 := by
  unfold gTake; split
  · exact GoodS.nil _
  · exact GoodS.of (h.1.drop _)
theorem gTake_len (l : List Int) (b : Bool) (n : Int) : (gTake l b n).2.1.length ≤ l.length := by unfold gTake; split <;> simp
theorem gTake_bytes {l : List Int} {b : Bool} (h : GoodS l b) (n : Int) : IsBytes (gTake l b n).1 := by
  unfold gTake; split
  · intro x hx; simp at hx
  · exact h.1.1.take _
theorem take_g {l : List Int} {b : Bool} (h : GoodS l b) (n : Int) : vint_Source_Take.f l b n = some (gTake l b n) := by
  unfold vint_Source_Take.f; rw [if_pos h.1.2]; rfl
theorem rtake_g {l : List Int} {b : Bool} (h : GoodS l b) (n : Int) : firkinref01_S_Take.f l b n = some (gTake l b n) := by
  unfold firkinref01_S_Take.f; rw [if_pos h.1.2]; rfl
end Go.Proofs.Ytbbffnlefmogbaa.Read
/- tight, plain law: Put and Get always answer; what they answer is of so many numbers, and is put again. -/
namespace Go.Proofs.Ytbbffnlefmogbaa.Tight
open Go Go.RowKit Go.Proofs.Ytbbffnlefmogbaa.X Go.Proofs.Ytbbffnlefmogbaa.Dec Go.Proofs.Ytbbffnlefmogbaa.Enc Go.Proofs.Ytbbffnlefmogbaa.Round Go.Proofs.Ytbbffnlefmogbaa.Read Go.Proofs.YtbbffnlefmogbaaW.PrintWords Go.Proofs.YtbbffnlefmogbaaW.PrintLast Go.Proofs.YtbbffnlefmogbaaW.PrintMore
set_option linter.unusedVariables false
set_option linter.unusedSimpArgs false
def I64 (x : Int) : Prop := -9223372036854775808 ≤ x ∧ x < 9223372036854775808
theorem min_loop (l : List Int) (hl : l.length ≤ 4096) : ∀ (d k i : Nat) (m : Int), i + d = l.length → d < k → slices_Min_int64_int64.l0 k l m (i : Int) = some ((l.drop i).foldl mn m) := by
  intro d
  induction d with
  | zero =>
    intro k i m h hk
    obtain ⟨k, rfl⟩ : ∃ q, k = q + 1 := ⟨k - 1, by omega⟩
    rw [slices_Min_int64_int64.l0, if_neg (by omega), List.drop_eq_nil_of_le (by omega)]; rfl
  | succ d ih =>
    intro k i m h hk
    obtain ⟨k, rfl⟩ : ∃ q, k = q + 1 := ⟨k - 1, by omega⟩
    have hi : i < l.length := by omega
    have e : rd l (i : Int) = l[i] := by unfold rd; simp [hi]
    rw [slices_Min_int64_int64.l0, if_pos (by omega), if_pos (by omega), e, show wrap64 ((i : Int) + 1) = ((i + 1 : Nat) : Int) by unfold wrap64; omega, ih k (i + 1) _ (by omega) (by omega), List.drop_eq_getElem_cons hi, List.foldl_cons]
theorem max_loop (l : List Int) (hl : l.length ≤ 4096) : ∀ (d k i : Nat) (m : Int), i + d = l.length → d < k → slices_Max_int64_int64.l0 k l m (i : Int) = some ((l.drop i).foldl mx m) := by
  intro d
  induction d with
  | zero =>
    intro k i m h hk
    obtain ⟨k, rfl⟩ : ∃ q, k = q + 1 := ⟨k - 1, by omega⟩
    rw [slices_Max_int64_int64.l0, if_neg (by omega), List.drop_eq_nil_of_le (by omega)]; rfl
  | succ d ih =>
    intro k i m h hk
    obtain ⟨k, rfl⟩ : ∃ q, k = q + 1 := ⟨k - 1, by omega⟩
    have hi : i < l.length := by omega
    have e : rd l (i : Int) = l[i] := by unfold rd; simp [hi]
    rw [slices_Max_int64_int64.l0, if_pos (by omega), if_pos (by omega), e, show wrap64 ((i : Int) + 1) = ((i + 1 : Nat) : Int) by unfold wrap64; omega, ih k (i + 1) _ (by omega) (by omega), List.drop_eq_getElem_cons hi, List.foldl_cons]
def lowOf (l : List Int) : Int := (l.drop 1).foldl mn (rd l 0)
def highOf (l : List Int) : Int := (l.drop 1).foldl mx (rd l 0)
theorem min_is (l : List Int) (hl : l.length ≤ 4096) (h0 : l ≠ []) (k : Nat) (hk : 4096 < k) : slices_Min_int64_int64.f k l = some (lowOf l) := by
  have hp := List.length_pos_iff.mpr h0
  unfold slices_Min_int64_int64.f
  rw [if_neg (by omega), if_pos (by omega)]
  exact min_loop l hl (l.length - 1) k 1 _ (by omega) (by omega)
theorem max_is (l : List Int) (hl : l.length ≤ 4096) (h0 : l ≠ []) (k : Nat) (hk : 4096 < k) : slices_Max_int64_int64.f k l = some (highOf l) := by
  have hp := List.length_pos_iff.mpr h0
  unfold slices_Max_int64_int64.f
  rw [if_neg (by omega), if_pos (by omega)]
  exact max_loop l hl (l.length - 1) k 1 _ (by omega) (by omega)
theorem fold_mn : ∀ (l : List Int) (m : Int), I64 m → (∀ x ∈ l, I64 x) → I64 (l.foldl mn m) ∧ l.foldl mn m ≤ m ∧ ∀ x ∈ l, l.foldl mn m ≤ x
  | [], m, h, _ => ⟨h, Int.le_refl _, fun _ h => by cases h⟩
  | x :: l, m, h, hl => by
    rw [List.foldl_cons]
    have hx := hl x List.mem_cons_self
    have hm : I64 (mn m x) ∧ mn m x ≤ m ∧ mn m x ≤ x := by unfold mn; split <;> (refine ⟨?_, ?_, ?_⟩ <;> first | assumption | omega)
    obtain ⟨h1, h2, h3⟩ := fold_mn l (mn m x) hm.1 (fun y hy => hl y (List.mem_cons_of_mem _ hy))
    refine ⟨h1, by omega, ?_⟩
    intro y hy
    rcases List.mem_cons.mp hy with rfl | hy
    · omega
    · exact h3 y hy
theorem fold_mx : ∀ (l : List Int) (m : Int), I64 m → (∀ x ∈ l, I64 x) → I64 (l.foldl mx m) ∧ m ≤ l.foldl mx m ∧ ∀ x ∈ l, x ≤ l.foldl mx m
  | [], m, h, _ => ⟨h, Int.le_refl _, fun _ h => by cases h⟩
  | x :: l, m, h, hl => by
    rw [List.foldl_cons]
    have hx := hl x List.mem_cons_self
    have hm : I64 (mx m x) ∧ m ≤ mx m x ∧ x ≤ mx m x := by unfold mx; split <;> (refine ⟨?_, ?_, ?_⟩ <;> first | assumption | omega)
    obtain ⟨h1, h2, h3⟩ := fold_mx l (mx m x) hm.1 (fun y hy => hl y (List.mem_cons_of_mem _ hy))
    refine ⟨h1, by omega, ?_⟩
    intro y hy
    rcases List.mem_cons.mp hy with rfl | hy
    · omega
    · exact h3 y hy
theorem low_high (l : List Int) (h0 : l ≠ []) (hl : ∀ x ∈ l, I64 x) : I64 (lowOf l) ∧ I64 (highOf l) ∧ ∀ x ∈ l, lowOf l ≤ x ∧ x ≤ highOf l := by
  obtain ⟨a, t, rfl⟩ : ∃ a t, l = a :: t := by cases l with | nil => exact absurd rfl h0 | cons a t => exact ⟨a, t, rfl⟩
  have ea : rd (a :: t) 0 = a := rfl
  have ha := hl a List.mem_cons_self
  have ht : ∀ x ∈ t, I64 x := fun x hx => hl x (List.mem_cons_of_mem _ hx)
  obtain ⟨p1, p2, p3⟩ := fold_mn t a ha ht
  obtain ⟨q1, q2, q3⟩ := fold_mx t a ha ht
  unfold lowOf highOf
  rw [ea, List.drop_one, List.tail_cons]
  refine ⟨p1, q1, ?_⟩
  intro x hx
  rcases List.mem_cons.mp hx with rfl | hx
  · exact ⟨p2, q2⟩
  · exact ⟨p3 x hx, q3 x hx⟩
theorem bitLenAux_le : ∀ f x, Lib.bitLenAux f x ≤ f
  | 0, _ => Nat.le_refl _
  | f + 1, x => by rw [Lib.bitLenAux]; split; omega; have := bitLenAux_le f (x / 2); omega
theorem above_range (x low : Int) : 0 ≤ above x low ∧ above x low < 18446744073709551616 := by unfold above; rw [IntKind.wrap_u64]; omega
/-- How wide the numbers are. -/
def wideOf (l : List Int) : Nat := Lib.bitLen (above (highOf l) (lowOf l)).toNat
theorem wide_le (l : List Int) : wideOf l ≤ 64 := bitLenAux_le 64 _
theorem putGo_len (lo : Int) (n : Nat) : ∀ (l b : List Int) (a : Nat), b.length = (a + 7) / 8 → (putGo lo n l b a).length = (a + l.length * n + 7) / 8
  | [], b, a, h => by rw [putGo, h]; simp
  | x :: l, b, a, h => by rw [putGo, putGo_len lo n l _ _ (bitsGo_len _ _ _ _ _ h), List.length_cons, Nat.succ_mul, show a + n + l.length * n = a + (l.length * n + n) by omega]
theorem enc_le (n : Nat) (h : n < 18446744073709551616) : (enc n).length ≤ 10 := by
  have : (enc n).length = grp n := encL_length _ _
  rw [this]; exact grp_le h
def putL (l : List Int) : List Int := if l = [] then [] else enc (zig (lowOf l)) ++ ((wideOf l : Nat) : Int) :: putGo (lowOf l) (wideOf l) l [] 0
theorem put_is (l : List Int) (hl : l.length ≤ 4096) (hz : ∀ x ∈ l, I64 x) (k : Nat) (hk : 4096 < k) : tight_Put.f k l = some (putL l) := by
  unfold tight_Put.f putL
  by_cases h0 : l = []
  · rw [if_pos h0, if_pos h0]
  · obtain ⟨h1, h2, h3⟩ := low_high l h0 hz
    have ha := above_range (highOf l) (lowOf l)
    have hw := wide_le l
    have hlen := putGo_len (lowOf l) (wideOf l) l [] 0 rfl
    have hm : l.length * wideOf l ≤ 4096 * 64 := Nat.mul_le_mul hl hw
    have he := enc_le (zig (lowOf l)) (zig_lt h1.1 h1.2)
    rw [if_neg h0, if_neg h0, min_is l hl h0 k hk, Option.bind_some, max_is l hl h0 k hk, Option.bind_some]
    unfold bits_Len64.f
    rw [if_pos (by omega), Option.bind_some, int_is _ h1.1 h1.2 k (by omega), Option.bind_some]
    show (if l.length < 1000000 ∧ 0 ≤ ((wideOf l : Nat) : Int) ∧ ((wideOf l : Nat) : Int) ≤ 64 then slices_Concat_byte.f [enc (zig (lowOf l)), [IntKind.u8.wrap ((wideOf l : Nat) : Int)], putGo (lowOf l) ((wideOf l : Nat) : Int).toNat l [] 0] else none) = _
    rw [if_pos (by omega), Int.toNat_natCast, show IntKind.u8.wrap ((wideOf l : Nat) : Int) = ((wideOf l : Nat) : Int) by rw [IntKind.wrap_u8]; omega]
    unfold slices_Concat_byte.f
    have hf : [enc (zig (lowOf l)), [((wideOf l : Nat) : Int)], putGo (lowOf l) (wideOf l) l [] 0].flatten = enc (zig (lowOf l)) ++ ((wideOf l : Nat) : Int) :: putGo (lowOf l) (wideOf l) l [] 0 := by simp
    rw [hf, if_pos (by rw [List.length_append, List.length_cons, hlen]; omega)]
theorem nextOf_i64 (lo u : Int) : I64 (nextOf lo u) := by unfold nextOf I64; rw [IntKind.wrap_i64]; omega
theorem getGo_i64 (lo : Int) (m : Nat) (b : List Int) : ∀ d a, ∀ x ∈ getGo lo m b d a, I64 x
  | 0, _, x, h => by cases h
  | d + 1, a, x, h => by
    rw [getGo] at h
    rcases List.mem_cons.mp h with rfl | h
    · exact nextOf_i64 _ _
    · exact getGo_i64 lo m b d _ x h
theorem fits_mul {n y L : Nat} (h : fits n y L = true) : n * y ≤ 8 * L := by
  unfold fits at h
  by_cases hy : y = 0
  · rw [hy, Nat.mul_zero]; omega
  · rw [if_neg hy] at h
    simp only [Bool.and_eq_true, decide_eq_true_eq] at h
    have h1 := h.1.1
    have := (Nat.le_div_iff_mul_le (by omega)).mp h1
    exact this
/-- What bytes are opened as. -/
def openL (l : List Int) (n : Nat) : Option (Int × Int × List Int × Bool) :=
  let a := gInt l false
  let t := gTake a.2.1 a.2.2 1
  if t.2.2 = true then none else if rd t.1 0 > 64 then none else some (a.1, rd t.1 0, t.2.1, fits n (rd t.1 0).toNat t.2.1.length)
theorem open_is (l : List Int) (hb : IsBytes l) (hl : l.length ≤ 100000) (n : Nat) (h1 : 1 ≤ n) (h2 : n ≤ 4096) : tight_open.f l n = some (openL l n) := by
  have hg : GoodS l false := GoodS.of ⟨hb, by omega⟩
  have hg1 : GoodS (gInt l false).2.1 (gInt l false).2.2 := gNum_good hg
  have hn1 : (gInt l false).2.1.length ≤ l.length := gNum_len l false
  have hg2 := gTake_good hg1 1
  have hn2 := gTake_len (gInt l false).2.1 (gInt l false).2.2 1
  have hby := gTake_bytes hg1 1
  unfold tight_open.f openL
  rw [if_pos ⟨by omega, h1, h2⟩, int_g hg, Option.bind_some, take_g hg1, Option.bind_some]
  simp only
  generalize gTake (gInt l false).2.1 (gInt l false).2.2 1 = t at *
  obtain ⟨t1, l2, b2⟩ := t
  simp only at *
  cases b2 with
  | true => rw [if_pos rfl, if_pos rfl]
  | false =>
    simp only [Bool.false_eq_true, if_false]
    by_cases h64 : rd t1 0 > 64
    · rw [if_pos h64, if_pos h64]
    · have h0 : 0 ≤ rd t1 0 := by
        cases t1 with
        | nil => exact Int.le_refl _
        | cons a r => exact (hby a List.mem_cons_self).1
      rw [if_neg h64, if_neg h64, if_pos h0]
      have e1 : vint_Source_Left.f l2 false = some ((l2.length : Int), l2, false) := rfl
      rw [e1, Option.bind_some]
      simp only
      have e2 : vint_Source_Take.f l2 false (l2.length : Int) = some (l2, [], false) := by
        unfold vint_Source_Take.f takeS
        rw [if_pos (by omega), if_neg (by simp), Int.toNat_natCast, List.take_of_length_le (Nat.le_refl _), List.drop_eq_nil_of_le (Nat.le_refl _)]
      rw [e2, Option.bind_some]
      simp only
      rw [if_pos (by omega)]
/-- Get always answers; what it says are numbers: so many, and put again. -/
theorem get_is (b : List Int) (hb : IsBytes b) (hl : b.length ≤ 400) (n : Int) (hn : n ≤ 400) (k : Nat) (hk : 4096 < k) :
    ∃ x t, tight_Get.f k b n = some (x, t) ∧ (t = false → x = []) ∧ (t = true → (x.length : Int) = n ∧ (∀ z ∈ x, I64 z) ∧ tight_Put.f k x = some (putL x) ∧ ((strOfNums (putL x)).toList == (strOfNums b).toList) = true) := by
  unfold tight_Get.f
  by_cases h0 : n ≤ 0 ∨ n > 4096
  · refine ⟨[], _, if_pos h0, fun _ => rfl, fun ht => ?_⟩
    simp only [Bool.and_eq_true, decide_eq_true_eq, beq_iff_eq] at ht
    obtain ⟨rfl, hz⟩ := ht
    obtain rfl : b = [] := List.eq_nil_of_length_eq_zero hz
    exact ⟨rfl, by simp, rfl, by simp [putL]⟩
  · rw [if_neg h0, open_is b hb (by omega) n.toNat (by omega) (by omega), Option.bind_some]
    cases ho : openL b n.toNat with
    | none => exact ⟨[], false, rfl, fun _ => rfl, nofun⟩
    | some q =>
      obtain ⟨lo, y, u, t⟩ := q
      simp only
      cases t with
      | false => exact ⟨[], false, by rw [if_pos rfl], fun _ => rfl, nofun⟩
      | true =>
        rw [if_neg (by decide)]
        have hq : 0 ≤ y ∧ y ≤ 64 ∧ n.toNat * y.toNat ≤ 8 * u.length ∧ u.length < 1000000000 := by
          have hg : GoodS b false := GoodS.of ⟨hb, by omega⟩
          have hg1 : GoodS (gInt b false).2.1 (gInt b false).2.2 := gNum_good hg
          have hn1 : (gInt b false).2.1.length ≤ b.length := gNum_len b false
          have hn2 := gTake_len (gInt b false).2.1 (gInt b false).2.2 1
          have hby := gTake_bytes hg1 1
          unfold openL at ho
          simp only at ho
          generalize gTake (gInt b false).2.1 (gInt b false).2.2 1 = t at *
          obtain ⟨t1, l2, b2⟩ := t
          simp only at *
          split at ho
          · cases ho
          split at ho
          · cases ho
          rename_i h64
          simp only [Option.some.injEq, Prod.mk.injEq] at ho
          obtain ⟨_, rfl, rfl, hf⟩ := ho
          refine ⟨?_, by omega, fits_mul hf, by omega⟩
          cases t1 with
          | nil => exact Int.le_refl _
          | cons a r => exact (hby a List.mem_cons_self).1
        rw [if_pos hq, put_is _ (by rw [getGo_len]; omega) (getGo_i64 _ _ _ _ _) k hk, Option.bind_some]
        unfold bytes_Equal.f
        rw [Option.bind_some]
        by_cases he : ((strOfNums (putL (getGo lo y.toNat u n.toNat 0))).toList == (strOfNums b).toList) = true
        · rw [if_pos he]
          exact ⟨_, _, rfl, nofun, fun _ => ⟨by rw [getGo_len]; omega, getGo_i64 _ _ _ _ _, put_is _ (by rw [getGo_len]; omega) (getGo_i64 _ _ _ _ _) k hk, he⟩⟩
        · rw [if_neg he]
          exact ⟨_, _, rfl, fun _ => rfl, nofun⟩
theorem live_is : firkinlaw07_live.f 5000 = some true := by
  unfold firkinlaw07_live.f
  rw [put_is [5, 6, 8] (by decide) (by unfold I64; decide) 5000 (by decide), Option.bind_some]
  decide +kernel
theorem live_at (k : Nat) (h : 5000 ≤ k) : firkinlaw07_live.f k = some true := by
  obtain ⟨d, rfl⟩ : ∃ d, k = 5000 + d := ⟨k - 5000, by omega⟩
  clear h
  induction d with
  | zero => exact live_is
  | succ d ih => exact firkinlaw07_live.mono _ _ ih
end Go.Proofs.Ytbbffnlefmogbaa.Tight
/- What was written is read again: numbers. -/
namespace Go.Proofs.Ytbbffnlefmogbaa.Read
open Go Go.RowKit Go.Proofs.Ytbbffnlefmogbaa.X Go.Proofs.Ytbbffnlefmogbaa.Dec Go.Proofs.Ytbbffnlefmogbaa.Enc Go.Proofs.Ytbbffnlefmogbaa.Round Go.Proofs.YtbbffnlefmogbaaW.PrintWords Go.Proofs.YtbbffnlefmogbaaW.PrintLast Go.Proofs.YtbbffnlefmogbaaW.PrintMore
set_option linter.unusedVariables false
theorem gNum_enc {n : Nat} (h : n < 18446744073709551616) (rest : List Int) : gNum (enc n ++ rest) false = ((n : Int), rest, false) := by
  have h1 := num_enc h rest
  unfold numS at h1
  rw [if_neg (by decide)] at h1
  unfold gNum
  by_cases hz : szS 0 (enc n ++ rest) = 0
  · rw [if_pos hz] at h1; simp at h1
  · rw [if_neg hz] at h1
    rw [if_neg (by simp [hz])]
    exact h1
theorem gBelow_enc {n : Nat} {m : Int} (h : (n : Int) < m) (hm : m < 9223372036854775808) (rest : List Int) : gBelow (enc n ++ rest) false m = ((n : Int), rest, false) := by
  unfold gBelow
  rw [gNum_enc (by omega)]
  rw [if_neg]
  simp only [not_or]
  exact ⟨by decide, by omega, by omega⟩
end Go.Proofs.Ytbbffnlefmogbaa.Read
/- What was written is read again, plain law: signed numbers. -/
namespace Go.Proofs.Ytbbffnlefmogbaa.Read
open Go Go.RowKit Go.Proofs.Ytbbffnlefmogbaa.X Go.Proofs.Ytbbffnlefmogbaa.Dec Go.Proofs.Ytbbffnlefmogbaa.Enc Go.Proofs.Ytbbffnlefmogbaa.Round Go.Proofs.YtbbffnlefmogbaaW.PrintWords Go.Proofs.YtbbffnlefmogbaaW.PrintLast Go.Proofs.YtbbffnlefmogbaaW.PrintMore
set_option linter.unusedVariables false
theorem gInt_enc {n : Int} (h0 : -9223372036854775808 ≤ n) (h1 : n < 9223372036854775808) (rest : List Int) : gInt (enc (zig n) ++ rest) false = (n, rest, false) := by
  unfold gInt
  rw [gNum_enc (zig_lt h0 h1)]
  simp [zag_zig]
end Go.Proofs.Ytbbffnlefmogbaa.Read
/- firkinref07.Put, plain law: the bytes are the program's; what is put is got. -/
namespace Go.Proofs.Ytbbffnlefmogbaa.Tight
open Go Go.RowKit Go.Proofs.Ytbbffnlefmogbaa.X Go.Proofs.Ytbbffnlefmogbaa.Dec Go.Proofs.Ytbbffnlefmogbaa.Enc Go.Proofs.Ytbbffnlefmogbaa.Round Go.Proofs.Ytbbffnlefmogbaa.Read Go.Proofs.Ytbbffnlefmogbaa.TightB Go.Proofs.YtbbffnlefmogbaaW.PrintWords Go.Proofs.YtbbffnlefmogbaaW.PrintLast Go.Proofs.YtbbffnlefmogbaaW.PrintMore
set_option linter.unusedVariables false
set_option linter.unusedSimpArgs false
theorem need_loop : ∀ (F x n k : Nat), x < 2 ^ F → F ≤ 64 → n + F ≤ 100 → F < k → firkinref07_need.l0 k (x : Int) (n : Int) = some ((n + Lib.bitLenAux F x : Nat) : Int)
  | F, 0, n, k, h, hF, hn, hk => by
    obtain ⟨k, rfl⟩ : ∃ q, k = q + 1 := ⟨k - 1, by omega⟩
    have e : Lib.bitLenAux F 0 = 0 := by cases F <;> rfl
    rw [firkinref07_need.l0, if_neg (by decide), e, Nat.add_zero]
  | 0, x + 1, n, k, h, hF, hn, hk => by simp at h
  | F + 1, x + 1, n, k, h, hF, hn, hk => by
    obtain ⟨k, rfl⟩ : ∃ q, k = q + 1 := ⟨k - 1, by omega⟩
    have hp : (2 : Nat) ^ (F + 1) ≤ 2 ^ 64 := Nat.pow_le_pow_right (by decide) hF
    rw [Nat.pow_succ] at h hp
    have e1 : IntKind.u64.wrap (Int.tdiv ((x + 1 : Nat) : Int) 2) = (((x + 1) / 2 : Nat) : Int) := by
      rw [Int.tdiv_eq_ediv_of_nonneg (by omega), IntKind.wrap_u64]; omega
    have e2 : wrap64 ((n : Int) + 1) = ((n + 1 : Nat) : Int) := by unfold wrap64; omega
    rw [firkinref07_need.l0, if_pos (by omega), e1, e2, need_loop F ((x + 1) / 2) (n + 1) k (by omega) (by omega) (by omega) (by omega), Lib.bitLenAux, if_neg (by omega)]
    congr 2; omega
theorem need_is (x : Int) (h0 : 0 ≤ x) (h1 : x < 18446744073709551616) (k : Nat) (hk : 64 < k) : firkinref07_need.f k x = some ((Lib.bitLen x.toNat : Nat) : Int) := by
  obtain ⟨n, rfl⟩ := Int.eq_ofNat_of_zero_le h0
  unfold firkinref07_need.f
  have := need_loop 64 n 0 k (by omega) (Nat.le_refl _) (by omega) hk
  rw [Int.toNat_natCast]
  rw [Nat.zero_add] at this
  exact this
theorem t8 (a : Nat) : Int.tmod (a : Int) 8 = ((a % 8 : Nat) : Int) := by rw [Int.tmod_eq_emod_of_nonneg (Int.natCast_nonneg a)]; omega
theorem tu (z : Nat) : Int.tmod (z : Int) 2 % 256 = ((z % 2 : Nat) : Int) := by rw [Int.tmod_eq_emod_of_nonneg (Int.natCast_nonneg z)]; omega
theorem du (z : Nat) (h : z < 18446744073709551616) : IntKind.u64.wrap (Int.tdiv (z : Int) 2) = ((z / 2 : Nat) : Int) := by
  rw [Int.tdiv_eq_ediv_of_nonneg (Int.natCast_nonneg z), IntKind.wrap_u64]; omega
theorem shl_is (t r : Nat) (ht : t ≤ 1) (hr : r < 8) : shl .u8 (t : Int) (r : Int) = ((t * 2 ^ r : Nat) : Int) := by
  have hp := pow_lt8 hr
  have hm1 : t * 2 ^ r ≤ 1 * 2 ^ r := Nat.mul_le_mul_right _ ht
  unfold shl
  rw [Int.toNat_natCast, show min r IntKind.u8.bits = r by show min r 8 = r; omega]
  have : (t : Int) * 2 ^ r = ((t * 2 ^ r : Nat) : Int) := by rw [Int.natCast_mul, Int.natCast_pow]; rfl
  rw [this, IntKind.wrap_u8]; omega
theorem sum_is (y t r : Nat) (hy : y < 2 ^ r) (ht : t ≤ 1) (hr : r < 8) : ((y : Int) + ((t * 2 ^ r : Nat) : Int)) % 256 = ((y + t * 2 ^ r : Nat) : Int) := by
  have hp := pow_lt8 hr
  have hm1 : t * 2 ^ r ≤ 1 * 2 ^ r := Nat.mul_le_mul_right _ ht
  omega
theorem get_last (pre b0 : List Int) (y : Int) : rd (pre ++ (b0 ++ [y])) ((pre.length + b0.length : Nat) : Int) = y := by
  rw [← List.append_assoc]; unfold rd; rw [Int.toNat_natCast, ← List.length_append]; simp
theorem set_last (pre b0 : List Int) (y z : Int) : (pre ++ (b0 ++ [y])).set (((pre.length + b0.length : Nat) : Int)).toNat z = pre ++ (b0 ++ [z]) := by
  rw [Int.toNat_natCast, ← List.append_assoc, ← List.length_append, List.set_append_right _ _ (Nat.le_refl _), Nat.sub_self, List.set_cons_zero, List.append_assoc]
theorem len_last (pre b0 : List Int) (y : Int) (h : pre.length + b0.length < 1000000000) : wrap64 (((pre ++ (b0 ++ [y])).length : Int) - 1) = ((pre.length + b0.length : Nat) : Int) := by
  rw [List.length_append, List.length_append, List.length_singleton]; unfold wrap64; omega
theorem wr1 (a : Nat) (h : a < 1000000000) : wrap64 ((a : Int) + 1) = ((a + 1 : Nat) : Int) := by unfold wrap64; omega
/-- One bit. -/
theorem ref_step (F : Nat) (l : List Int) (lo : Int) (m : Nat) (hm : m ≤ 64) (pre : List Int) (hpre : pre.length ≤ 1000) (U : Nat) (hU : U < 18446744073709551616) (i j a N : Nat) (b : List Int) (hp : Pk b a N) (hj : j < m) (ha : a < 1000000) :
    firkinref07_Put.l2 (F + 1) l lo (m : Int) (pre ++ b) (a : Int) (i : Int) ((U / 2 ^ j : Nat) : Int) (j : Int) = firkinref07_Put.l2 F l lo (m : Int) (pre ++ bitStep (U : Int) b a j) ((a + 1 : Nat) : Int) (i : Int) ((U / 2 ^ (j + 1) : Nat) : Int) ((j + 1 : Nat) : Int) := by
  obtain ⟨b0, y, e, hl, hy, hs, _⟩ := step_eq hp (U : Int) (Int.natCast_nonneg U) (by omega) j (by omega)
  rw [Int.toNat_natCast] at hs
  have hlen := hp.len
  have hr : a % 8 < 8 := Nat.mod_lt _ (by decide)
  have ht : U / 2 ^ j % 2 ≤ 1 := by have := Nat.mod_lt (U / 2 ^ j) (show 0 < 2 by decide); omega
  have hq : U / 2 ^ j < 18446744073709551616 := Nat.lt_of_le_of_lt (Nat.div_le_self _ _) hU
  have ed : IntKind.u64.wrap (Int.tdiv ((U / 2 ^ j : Nat) : Int) 2) = ((U / 2 ^ (j + 1) : Nat) : Int) := by rw [du _ hq, Nat.div_div_eq_div_mul, Nat.pow_succ]
  have hjm : (j : Int) < (m : Int) := by omega
  have hg1 : (0 : Int) ≤ ((pre.length + b0.length : Nat) : Int) := Int.natCast_nonneg _
  have hg2 : ((pre.length + b0.length : Nat) : Int) < ((pre ++ (b0 ++ [(y : Int)])).length : Int) := by rw [List.length_append, List.length_append, List.length_singleton]; omega
  have hg3 : (0 : Int) ≤ ((a % 8 : Nat) : Int) := Int.natCast_nonneg _
  have hbl : (pre ++ b).length < 140737488355328 := by rw [List.length_append]; omega
  have hll : pre.length + b0.length < 1000000000 := by omega
  rw [firkinref07_Put.l2, if_pos hjm, t8, tu, ed, shl_is _ _ ht hr, wr1 a (by omega), wr1 j (by omega), hs]
  by_cases h8 : a % 8 = 0
  · have e2 : pre ++ b ++ [0] = pre ++ (b0 ++ [(y : Int)]) := by rw [← e, if_pos h8, List.append_assoc]
    rw [if_pos (by rw [h8]; rfl), if_pos hbl, Option.bind_some, e2, len_last _ _ _ hll, if_pos hg1, if_pos hg2, if_pos hg3, get_last, set_last, sum_is _ _ _ hy ht hr]
  · have e3 : pre ++ b = pre ++ (b0 ++ [(y : Int)]) := by rw [← e, if_neg h8]
    rw [if_neg (by omega), e3, len_last _ _ _ hll, if_pos hg1, if_pos hg2, if_pos hg3, get_last, set_last, sum_is _ _ _ hy ht hr]
/-- One number's bits, one by one. -/
theorem ref_l2 (l : List Int) (lo : Int) (m : Nat) (hm : m ≤ 64) (pre : List Int) (hpre : pre.length ≤ 1000) (U : Nat) (hU : U < 18446744073709551616) (i : Nat) (hi : i ≤ 4096) (f : Nat) : ∀ (d j : Nat) (b : List Int) (a N : Nat), j + d = m → Pk b a N → a + d ≤ 1000000 →
    firkinref07_Put.l2 (f + d + 1) l lo (m : Int) (pre ++ b) (a : Int) (i : Int) ((U / 2 ^ j : Nat) : Int) (j : Int) = firkinref07_Put.l1 f l lo (m : Int) (pre ++ bitsGo (U : Int) d j b a) ((a + d : Nat) : Int) ((i + 1 : Nat) : Int)
  | 0, j, b, a, N, h, hp, ha => by
    rw [firkinref07_Put.l2, if_neg (by omega), wr1 i (by omega)]; rfl
  | d + 1, j, b, a, N, h, hp, ha => by
    rw [show f + (d + 1) + 1 = (f + d + 1) + 1 by omega, ref_step (f + d + 1) l lo m hm pre hpre U hU i j a N b hp (by omega) (by omega),
      ref_l2 l lo m hm pre hpre U hU i hi f d (j + 1) _ (a + 1) _ (by omega) (step_pk hp (U : Int) (Int.natCast_nonneg U) (by omega) j (by omega)) (by omega), bitsGo, show a + 1 + d = a + (d + 1) by omega]
theorem ref_l1 (l : List Int) (hl : l.length ≤ 4096) (lo : Int) (m : Nat) (hm : m ≤ 64) (pre : List Int) (hpre : pre.length ≤ 1000) : ∀ (d i f : Nat) (b : List Int) (a N : Nat), i + d = l.length → Pk b a N → a + d * m ≤ 1000000 →
    firkinref07_Put.l1 (f + d * (m + 2) + 1) l lo (m : Int) (pre ++ b) (a : Int) (i : Int) = some (pre ++ putGo lo m (l.drop i) b a)
  | 0, i, f, b, a, N, h, hp, ha => by
    rw [firkinref07_Put.l1, if_neg (by omega), List.drop_eq_nil_of_le (by omega), putGo]
  | d + 1, i, f, b, a, N, h, hp, ha => by
    have hi : i < l.length := by omega
    have e : rd l (i : Int) = l[i] := by unfold rd; simp [hi]
    have hr := TightB.above_range l[i] lo
    have hb := bits_pk (above l[i] lo) hr.1 hr.2 m 0 b a N (by omega) hp
    have hU : ((above l[i] lo).toNat : Int) = above l[i] lo := Int.toNat_of_nonneg hr.1
    rw [Nat.succ_mul] at ha
    have h2 := ref_l2 l lo m hm pre hpre (above l[i] lo).toNat (by omega) i (by omega) (f + d * (m + 2) + 1) m 0 b a N (by omega) hp (by omega)
    rw [Nat.pow_zero, Nat.div_one, hU] at h2
    rw [show f + (d + 1) * (m + 2) = (f + d * (m + 2) + 1) + m + 1 by rw [Nat.succ_mul]; omega, firkinref07_Put.l1, if_pos (by omega), if_pos (by omega), e]
    refine h2.trans ?_
    rw [ref_l1 l hl lo m hm pre hpre d (i + 1) f _ _ _ (by omega) hb (by omega), List.drop_eq_getElem_cons hi, putGo]
theorem ref_l0 (l : List Int) (hl : l.length ≤ 4096) : ∀ (d i f : Nat) (lo hi : Int), i + d = l.length →
    firkinref07_Put.l0 (f + d + 1) l lo hi (i : Int) = ((firkinref07_need.f f (above ((l.drop i).foldl mx hi) ((l.drop i).foldl mn lo))).bind fun t => (firkinref01_Int.f f ((l.drop i).foldl mn lo)).bind fun v => if v.length < 140737488355328 then firkinref07_Put.l1 f l ((l.drop i).foldl mn lo) t (v ++ [t % 256]) 0 0 else none)
  | 0, i, f, lo, hi, h => by
    rw [firkinref07_Put.l0, if_neg (by omega), List.drop_eq_nil_of_le (by omega)]; rfl
  | d + 1, i, f, lo, hi, h => by
    have hi' : i < l.length := by omega
    have e : rd l (i : Int) = l[i] := by unfold rd; simp [hi']
    have ew : wrap64 ((i : Int) + 1) = ((i + 1 : Nat) : Int) := by unfold wrap64; omega
    rw [show f + (d + 1) + 1 = (f + d + 1) + 1 by omega, firkinref07_Put.l0, if_pos (by omega), if_pos (by omega), e, ew, List.drop_eq_getElem_cons hi', List.foldl_cons, List.foldl_cons, ← ref_l0 l hl d (i + 1) f (mn lo l[i]) (mx hi l[i]) (by omega)]
    unfold mn mx
    by_cases h1 : l[i] < lo
    · rw [if_pos h1, if_pos h1]
      by_cases h2 : l[i] > hi
      · rw [if_pos h2, if_pos h2]
      · rw [if_neg h2, if_neg h2]
    · rw [if_neg h1, if_neg h1]
      by_cases h2 : l[i] > hi
      · rw [if_pos h2, if_pos h2]
      · rw [if_neg h2, if_neg h2]
theorem Pk.nil : Pk [] 0 0 := ⟨rfl, fun _ h => (by cases h), rfl, by decide⟩
theorem mn_self (a : Int) : mn a a = a := by unfold mn; split <;> rfl
theorem mx_self (a : Int) : mx a a = a := by unfold mx; split <;> rfl
/-- The document's bytes are the program's. -/
theorem rput_is (l : List Int) (hl : l.length ≤ 400) (hz : ∀ x ∈ l, I64 x) (k : Nat) (hk : 40000 ≤ k) : firkinref07_Put.f k l = some (putL l) := by
  unfold firkinref07_Put.f putL
  by_cases h0 : l = []
  · subst h0; rfl
  · have hp := List.length_pos_iff.mpr h0
    obtain ⟨h1, h2, h3⟩ := low_high l h0 hz
    have ha := Tight.above_range (highOf l) (lowOf l)
    have hw := wide_le l
    have he := enc_le (zig (lowOf l)) (zig_lt h1.1 h1.2)
    have hmul : l.length * (wideOf l + 2) ≤ 400 * 66 := Nat.mul_le_mul hl (by omega)
    have hmul2 : l.length * wideOf l ≤ 400 * 64 := Nat.mul_le_mul hl hw
    rw [if_neg (by omega), if_neg h0, if_pos (by omega)]
    have el := ref_l0 l (by omega) l.length 0 (k - l.length - 1) (rd l 0) (rd l 0) (by omega)
    rw [show k - l.length - 1 + l.length + 1 = k by omega] at el
    have e1 : (l.drop 0).foldl mn (rd l 0) = lowOf l := by
      obtain ⟨a, t, rfl⟩ : ∃ a t, l = a :: t := by cases l with | nil => exact absurd rfl h0 | cons a t => exact ⟨a, t, rfl⟩
      unfold lowOf
      rw [List.drop_zero, List.foldl_cons, List.drop_one, List.tail_cons, show rd (a :: t) 0 = a from rfl, mn_self]
    have e2 : (l.drop 0).foldl mx (rd l 0) = highOf l := by
      obtain ⟨a, t, rfl⟩ : ∃ a t, l = a :: t := by cases l with | nil => exact absurd rfl h0 | cons a t => exact ⟨a, t, rfl⟩
      unfold highOf
      rw [List.drop_zero, List.foldl_cons, List.drop_one, List.tail_cons, show rd (a :: t) 0 = a from rfl, mx_self]
    refine el.trans ?_
    rw [e1, e2, need_is _ ha.1 ha.2 _ (by omega), Option.bind_some, rint_is _ h1.1 h1.2 _ (by omega), Option.bind_some, if_pos (by omega)]
    have h4 := ref_l1 l (by omega) (lowOf l) (wideOf l) hw (enc (zig (lowOf l)) ++ [((wideOf l : Nat) : Int)]) (by rw [List.length_append, List.length_singleton]; omega) l.length 0 (k - l.length - 1 - (l.length * (wideOf l + 2) + 1)) [] 0 0 (by omega) Pk.nil (by omega)
    rw [show k - l.length - 1 - (l.length * (wideOf l + 2) + 1) + l.length * (wideOf l + 2) + 1 = k - l.length - 1 by omega, List.append_nil, List.drop_zero] at h4
    have e5 : ((Lib.bitLen (above (highOf l) (lowOf l)).toNat : Nat) : Int) % 256 = ((wideOf l : Nat) : Int) := by
      show ((wideOf l : Nat) : Int) % 256 = _; omega
    rw [e5]
    refine h4.trans ?_
    rw [List.append_assoc]; rfl
theorem bitLen_lt : ∀ f x, x < 2 ^ f → x < 2 ^ Lib.bitLenAux f x
  | 0, x, h => h
  | f + 1, x, h => by
    rw [Lib.bitLenAux]
    by_cases h0 : x = 0
    · rw [if_pos h0, h0]; decide
    · rw [if_neg h0, Nat.add_comm, Nat.pow_succ]
      rw [Nat.pow_succ] at h
      have := bitLen_lt f (x / 2) (by omega)
      omega
theorem above_lt (l : List Int) (h0 : l ≠ []) (hz : ∀ x ∈ l, I64 x) : ∀ x ∈ l, (above x (lowOf l)).toNat < 2 ^ wideOf l := by
  intro x hx
  obtain ⟨h1, h2, h3⟩ := low_high l h0 hz
  have hx1 := h3 x hx
  have hx2 := hz x hx
  have ha := Tight.above_range (highOf l) (lowOf l)
  have hle : (above x (lowOf l)).toNat ≤ (above (highOf l) (lowOf l)).toNat := by
    unfold above I64 at *
    simp only [IntKind.wrap_u64] at *; omega
  have hb : (above (highOf l) (lowOf l)).toNat < 2 ^ wideOf l := by
    by_cases hz0 : (above (highOf l) (lowOf l)).toNat = 0
    · rw [hz0]; exact Nat.two_pow_pos _
    · exact bitLen_lt 64 _ (by omega)
  omega
theorem fits_is (n m L : Nat) (h : L = (n * m + 7) / 8) (hm : m ≤ 64) : fits n m L = true := by
  unfold fits
  by_cases h0 : m = 0
  · rw [if_pos h0, h, h0, Nat.mul_zero]; rfl
  · have hp : 0 < m := by omega
    have h1 : n ≤ 8 * L / m := (Nat.le_div_iff_mul_le hp).mpr (by omega)
    have h2 : 8 * L / m < n + 8 := (Nat.div_lt_iff_lt_mul hp).mpr (by rw [Nat.add_mul]; omega)
    rw [if_neg h0, ← h]
    rw [decide_eq_true h1, decide_eq_true (show 8 * L / m - n < 8 by omega)]; simp
/-- What is put is got. -/
theorem get_put (l : List Int) (hl : l.length ≤ 300) (hz : ∀ x ∈ l, I64 x) (k : Nat) (hk : 4096 < k) : tight_Get.f k (putL l) (l.length : Int) = some (l, true) := by
  by_cases h0 : l = []
  · subst h0; rfl
  · have hp := List.length_pos_iff.mpr h0
    obtain ⟨h1, h2, h3⟩ := low_high l h0 hz
    have hw := wide_le l
    have he := enc_le (zig (lowOf l)) (zig_lt h1.1 h1.2)
    have hab := above_lt l h0 hz
    have hpk := put_pk (lowOf l) (wideOf l) hw l [] 0 0 hab Pk.nil
    rw [Nat.zero_add, Nat.zero_add, Nat.pow_zero, Nat.mul_one] at hpk
    have hmul2 : l.length * wideOf l ≤ 300 * 64 := Nat.mul_le_mul hl hw
    have hlen := hpk.len
    have ePut : putL l = enc (zig (lowOf l)) ++ ((wideOf l : Nat) : Int) :: putGo (lowOf l) (wideOf l) l [] 0 := by unfold putL; rw [if_neg h0]
    have hB : IsBytes (putL l) := by
      rw [ePut]
      intro x hx
      rcases List.mem_append.mp hx with hx | hx
      · exact enc_bytes _ x hx
      · rcases List.mem_cons.mp hx with rfl | hx
        · omega
        · exact hpk.byte x hx
    have hL : (putL l).length ≤ 100000 := by rw [ePut, List.length_append, List.length_cons]; omega
    have ho : openL (putL l) l.length = some (lowOf l, ((wideOf l : Nat) : Int), putGo (lowOf l) (wideOf l) l [] 0, true) := by
      unfold openL
      rw [ePut, gInt_enc h1.1 h1.2]
      simp only
      have et : gTake (((wideOf l : Nat) : Int) :: putGo (lowOf l) (wideOf l) l [] 0) false 1 = ([((wideOf l : Nat) : Int)], putGo (lowOf l) (wideOf l) l [] 0, false) := by
        unfold gTake
        rw [if_neg (by rw [List.length_cons]; simp; omega)]; rfl
      rw [et]
      simp only [Bool.false_eq_true, if_false]
      rw [show rd [((wideOf l : Nat) : Int)] 0 = ((wideOf l : Nat) : Int) from rfl, if_neg (by omega), Int.toNat_natCast, fits_is _ _ _ hlen hw]
    have hg : getGo (lowOf l) (wideOf l) (putGo (lowOf l) (wideOf l) l [] 0) l.length 0 = l := get_pk (lowOf l) (wideOf l) hw _ hpk.byte l 0 (fun x hx => ⟨hab x hx, (hz x hx).1, (hz x hx).2⟩) (by rw [hlen]; omega) (by rw [hpk.val, Nat.pow_zero, Nat.div_one])
    unfold tight_Get.f
    rw [if_neg (by omega), Int.toNat_natCast, open_is _ hB hL _ hp (by omega), Option.bind_some, ho]
    simp only
    rw [if_neg (by decide), if_pos ⟨by omega, by omega, by rw [Int.toNat_natCast, hlen]; omega, by rw [hlen]; omega⟩, Int.toNat_natCast, hg, put_is l (by omega) hz k hk, Option.bind_some]
    unfold bytes_Equal.f
    rw [Option.bind_some, if_pos (by simp)]
theorem same_loop (l : List Int) (hl : l.length ≤ 4096) : ∀ (d i k : Nat), i + d = l.length → d < k → firkinref07_Same.l0 k l l (i : Int) = some true
  | 0, i, k, h, hk => by
    obtain ⟨k, rfl⟩ : ∃ q, k = q + 1 := ⟨k - 1, by omega⟩
    rw [firkinref07_Same.l0, if_neg (by omega)]
  | d + 1, i, k, h, hk => by
    obtain ⟨k, rfl⟩ : ∃ q, k = q + 1 := ⟨k - 1, by omega⟩
    rw [firkinref07_Same.l0, if_pos (by omega), if_pos (by omega), if_pos (by omega), if_pos rfl, show wrap64 ((i : Int) + 1) = ((i + 1 : Nat) : Int) by unfold wrap64; omega]
    exact same_loop l hl d (i + 1) k (by omega) (by omega)
theorem same_is (l : List Int) (hl : l.length ≤ 4096) (k : Nat) (hk : 4096 < k) : firkinref07_Same.f k l l = some true := by
  unfold firkinref07_Same.f
  rw [if_pos rfl]
  exact same_loop l hl l.length 0 k (by omega) (by omega)
end Go.Proofs.Ytbbffnlefmogbaa.Tight
/- firkinref07.Get, plain law: it answers as the program's. -/
namespace Go.Proofs.Ytbbffnlefmogbaa.Tight
open Go Go.RowKit Go.Proofs.Ytbbffnlefmogbaa.X Go.Proofs.Ytbbffnlefmogbaa.Dec Go.Proofs.Ytbbffnlefmogbaa.Enc Go.Proofs.Ytbbffnlefmogbaa.Round Go.Proofs.Ytbbffnlefmogbaa.Read Go.Proofs.Ytbbffnlefmogbaa.TightB Go.Proofs.YtbbffnlefmogbaaW.PrintWords Go.Proofs.YtbbffnlefmogbaaW.PrintLast Go.Proofs.YtbbffnlefmogbaaW.PrintMore
set_option linter.unusedVariables false
set_option linter.unusedSimpArgs false
theorem byte_bit {b : List Int} (hb : Byte b) (i : Nat) (hi : i / 8 < b.length) : Int.tmod (rd b ((i / 8 : Nat) : Int) / 2 ^ (i % 8)) 2 = ((valL b / 2 ^ i % 2 : Nat) : Int) := by
  have hv := valL_byte b (i / 8) hb hi
  have hr : 0 ≤ rd b ((i / 8 : Nat) : Int) ∧ rd b ((i / 8 : Nat) : Int) < 256 := by
    have e : rd b ((i / 8 : Nat) : Int) = b[i / 8] := by
      show b.getD ((i / 8 : Nat) : Int).toNat 0 = _
      rw [Int.toNat_natCast]; simp [hi]
    rw [e]; exact hb _ (List.getElem_mem hi)
  obtain ⟨y, hy⟩ := Int.eq_ofNat_of_zero_le hr.1
  rw [hy] at hv hr ⊢
  rw [Int.toNat_natCast] at hv
  have e : (y : Int) / 2 ^ (i % 8) = ((y / 2 ^ (i % 8) : Nat) : Int) := by rw [Int.natCast_ediv, Int.natCast_pow]; rfl
  rw [e, Int.tmod_eq_emod_of_nonneg (Int.natCast_nonneg _), show ((y / 2 ^ (i % 8) : Nat) : Int) % 2 = ((y / 2 ^ (i % 8) % 2 : Nat) : Int) by generalize y / 2 ^ (i % 8) = z; omega]
  congr 1
  have hp : 2 ^ i = 256 ^ (i / 8) * 2 ^ (i % 8) := by rw [Nat.mul_comm]; exact pow8 i
  rw [hp, ← Nat.div_div_eq_div_mul, ← hv]
  have h256 : (256 : Nat) = 2 ^ (i % 8) * 2 ^ (8 - i % 8) := by rw [← Nat.pow_add, show i % 8 + (8 - i % 8) = 8 by omega]
  obtain ⟨z, hz⟩ : ∃ z, valL b / 256 ^ (i / 8) = z := ⟨_, rfl⟩
  rw [hz]
  rw [h256, Nat.mod_mul_right_div_self, Nat.mod_mod_of_dvd]
  exact ⟨2 ^ (8 - i % 8 - 1), by rw [← Nat.pow_succ', show (8 - i % 8 - 1).succ = 8 - i % 8 by omega]⟩
theorem add_read (u t k : Nat) (hu : u < 2 ^ k) (ht : t ≤ 1) (hk : k < 64) : IntKind.u64.wrap ((u : Int) + IntKind.u64.wrap (IntKind.u64.wrap (t : Int) * 2 ^ min k 64)) = ((u + t * 2 ^ k : Nat) : Int) := by
  have hp : (2 : Nat) ^ k ≤ 2 ^ 63 := Nat.pow_le_pow_right (by decide) (by omega)
  have hm : t * 2 ^ k ≤ 1 * 2 ^ k := Nat.mul_le_mul_right _ ht
  have e : IntKind.u64.wrap (IntKind.u64.wrap (t : Int) * 2 ^ min k 64) = ((t * 2 ^ k : Nat) : Int) := by
    rw [show min k 64 = k by omega, show IntKind.u64.wrap (t : Int) = (t : Int) by rw [IntKind.wrap_u64]; omega]
    have : (t : Int) * 2 ^ k = ((t * 2 ^ k : Nat) : Int) := by rw [Int.natCast_mul, Int.natCast_pow]; rfl
    rw [this, IntKind.wrap_u64]; omega
  rw [e, IntKind.wrap_u64]; omega
theorem rread_is {b : List Int} (hb : Byte b) : ∀ (d k u a : Nat), k + d ≤ 64 → u < 2 ^ k → a + d ≤ 8 * b.length → rread b d k (u : Int) a = ((u + (valL b / 2 ^ a % 2 ^ d) * 2 ^ k : Nat) : Int)
  | 0, k, u, a, _, _, _ => by rw [rread, Nat.pow_zero, Nat.mod_one, Nat.zero_mul, Nat.add_zero]
  | d + 1, k, u, a, hk, hu, ha => by
    have ht : valL b / 2 ^ a % 2 ≤ 1 := by omega
    have hm : valL b / 2 ^ a % 2 * 2 ^ k ≤ 1 * 2 ^ k := Nat.mul_le_mul_right _ ht
    rw [rread, byte_bit hb a (by omega), add_read u _ k hu ht (by omega), rread_is hb d (k + 1) _ (a + 1) (by omega) (by rw [Nat.pow_succ]; omega) (by omega), mod_succ, show valL b / 2 ^ a / 2 = valL b / 2 ^ (a + 1) by rw [Nat.div_div_eq_div_mul, Nat.pow_succ]]
    congr 1
    rw [Nat.add_mul, Nat.pow_succ 2 k, Nat.mul_assoc 2, Nat.mul_comm 2, Nat.mul_assoc _ (2 ^ k)]; omega
theorem rget_eq (lo : Int) (m : Nat) (hm : m ≤ 64) (b : List Int) (hb : Byte b) : ∀ (d a : Nat), a + d * m ≤ 8 * b.length → rgetGo lo m b d a = getGo lo m b d a
  | 0, _, _ => rfl
  | d + 1, a, h => by
    rw [Nat.succ_mul] at h
    have e1 : rread b m 0 0 a = readGo b m 0 0 a := (rread_is hb m 0 0 a (by omega) (by decide) (by omega)).trans (read_is hb m 0 0 a (by omega) (by decide) (by omega)).symm
    rw [rgetGo, getGo, rget_eq lo m hm b hb d (a + m) (by omega), e1]; rfl
theorem fits_iff (n m L : Nat) (hm : m ≤ 64) : fits n m L = decide (L = (n * m + 7) / 8) := by
  by_cases h : L = (n * m + 7) / 8
  · rw [fits_is n m L h hm, decide_eq_true h]
  · rw [decide_eq_false h]
    unfold fits
    by_cases h0 : m = 0
    · rw [if_pos h0]
      rw [h0, Nat.mul_zero] at h
      exact beq_eq_false_iff_ne.mpr h
    · rw [if_neg h0, beq_eq_false_iff_ne.mpr (Ne.symm h), Bool.and_false]
/-- The document's answer is the program's. -/
theorem rget_is (b : List Int) (hb : IsBytes b) (hl : b.length ≤ 400) (n : Int) (hn : n ≤ 400) (k : Nat) (hk : 40000 ≤ k) : firkinref07_Get.f k b n = tight_Get.f k b n := by
  have hg : GoodS b false := GoodS.of ⟨hb, by omega⟩
  have hg1 : GoodS (gInt b false).2.1 (gInt b false).2.2 := gNum_good hg
  have hn1 : (gInt b false).2.1.length ≤ b.length := gNum_len b false
  have hg2 := gTake_good hg1 1
  have hn2 := gTake_len (gInt b false).2.1 (gInt b false).2.2 1
  have hby := gTake_bytes hg1 1
  unfold firkinref07_Get.f tight_Get.f
  by_cases h0 : n = 0
  · subst h0
    rw [if_pos rfl, if_pos (Or.inl (Int.le_refl _))]; rfl
  · rw [if_neg h0, rint_g hg, Option.bind_some, rtake_g hg1, Option.bind_some]
    by_cases hneg : n < 0
    · rw [if_pos (Or.inl (by omega)), decide_eq_false h0, Bool.false_and, if_pos hneg]
      split <;> rfl
    · have hnn : ¬ (n ≤ 0 ∨ n > 4096) := by omega
      rw [if_neg hnn, open_is b hb (by omega) n.toNat (by omega) (by omega), Option.bind_some]
      unfold openL
      simp only
      generalize gTake (gInt b false).2.1 (gInt b false).2.2 1 = t at *
      obtain ⟨t1, l2, b2⟩ := t
      simp only at *
      cases b2 with
      | true => rw [if_pos rfl, if_pos rfl]
      | false =>
        simp only [Bool.false_eq_true, if_false]
        rw [if_neg hneg, if_neg (by omega)]
        by_cases h64 : rd t1 0 > 64
        · rw [if_pos h64, if_pos h64]
        · have hy0 : 0 ≤ rd t1 0 := by
            cases t1 with
            | nil => exact Int.le_refl _
            | cons a r => exact (hby a List.mem_cons_self).1
          have hB2 : Byte l2 := hg2.1.1
          rw [if_neg h64, if_neg h64, if_pos ⟨hy0, by omega⟩, fits_iff _ _ _ (by omega)]
          simp only
          by_cases hL : l2.length = (n.toNat * (rd t1 0).toNat + 7) / 8
          · rw [if_pos hL, decide_eq_true hL]
            have hmul : n.toNat * (rd t1 0).toNat ≤ 8 * l2.length := by omega
            have eL := rget_eq (gInt b false).1 (rd t1 0).toNat (by omega) l2 hB2 n.toNat 0 (by omega)
            rw [eL, if_neg (by decide), if_pos ⟨hy0, by omega, hmul, by omega⟩, rput_is _ (by rw [getGo_len]; omega) (getGo_i64 _ _ _ _ _) k hk, put_is _ (by rw [getGo_len]; omega) (getGo_i64 _ _ _ _ _) k (by omega), Option.bind_some, Option.bind_some]
            unfold bytes_Equal.f
            rw [Option.bind_some]
          · rw [if_neg hL, decide_eq_false hL, if_pos rfl]
end Go.Proofs.Ytbbffnlefmogbaa.Tight
/- TightGets: which numbers whatever bytes are, the document says the same. No condition. -/
namespace Go.Proofs.Ytbbffnlefmogbaa.True_
open Go Go.RowKit Go.Proofs.Ytbbffnlefmogbaa.X Go.Proofs.Ytbbffnlefmogbaa.Dec Go.Proofs.Ytbbffnlefmogbaa.Tight Go.Proofs.YtbbffnlefmogbaaW.PrintWords Go.Proofs.YtbbffnlefmogbaaW.PrintLast Go.Proofs.YtbbffnlefmogbaaW.PrintMore
set_option linter.unusedVariables false
set_option linter.unusedSimpArgs false
theorem TightGets : ∀ (x0 : List Int) (x1 : Int), (x0.length ≤ maxLen ∧ ∀ z ∈ x0, (Lit.int .u8 z).wf = true) → (Lit.int .i64 x1).wf = true → ∃ k, firkinlaw07_TightGets.f k x0 x1 = some true := by
  intro b n h0 h1
  have hb : IsBytes b := fun x hx => byte_bounds (h0.2 x hx)
  have lv : ∀ k, 5000 ≤ k → ((firkinlaw07_live.f k).bind fun t => some t) = some true := fun k hk => by rw [live_at k hk]; rfl
  refine ⟨50000, ?_⟩
  have ht : ∀ t, t = true → firkinlaw07_TightGets.j0 50000 b n t = some true := by
    rintro t rfl
    rw [firkinlaw07_TightGets.j0, if_pos rfl]; exact lv _ (by decide)
  unfold firkinlaw07_TightGets.f
  by_cases hl : (b.length : Int) > 400
  · rw [if_pos hl]; exact ht _ rfl
  rw [if_neg hl]
  by_cases hn : n > 400
  · exact ht _ (decide_eq_true hn)
  rw [decide_eq_false hn, firkinlaw07_TightGets.j0, if_neg (by decide)]
  obtain ⟨x, t, e1, f1, t1⟩ := get_is b hb (by omega) n (by omega) 49999 (by decide)
  rw [rget_is b hb (by omega) n (by omega) 49999 (by decide), e1, Option.bind_some, Option.bind_some]
  simp only [beq_self_eq_true, if_true]
  have hx : x.length ≤ 4096 := by
    cases t with
    | false => rw [f1 rfl]; decide
    | true => have := (t1 rfl).1; omega
  rw [same_is x hx 49999 (by decide), Option.bind_some, if_pos rfl]
  exact lv _ (by decide)
end Go.Proofs.Ytbbffnlefmogbaa.True_
/- TightGets: for every input the call returns true, and each argument reads behind the call as it read before it. No condition. -/
namespace Go.Proofs.Ytbbffnlefmogbaa.tightGets
open Go.ChangeShapes Go.WideShapes Go.ChangeAt Go.RowKit Go.Proofs.Ytbbffnlefmogbaa.Opens Go.Proofs.Ytbbffnlefmogbaa.X Go.Proofs.YtbbffnlefmogbaaW.PrintWords Go.Proofs.YtbbffnlefmogbaaW.PrintLast Go.Proofs.YtbbffnlefmogbaaW.PrintMore
open Go.ChangeMaps (open_string shut_string)
set_option linter.unusedVariables false
set_option linter.unusedSimpArgs false
theorem own : ownKnob Try.prog.godebug = none := by kernel_rfl
theorem laidOut : laidOutB Try.prog = true := by kernel_rfl
set_option maxRecDepth 100000 in
theorem lifted (os : Os) (started : os.Started) (H : Type) (enc : TypeId × Value → H) :
    ReturnsInHanded {} Try.checked os 4 .any (Rows.tightGetsSpec.pre6 enc Try.prog Try.f4 Rows.tightGetsRow.domain false) (Rows.tightGetsSpec.post enc Try.prog Try.f4 false true false false) := by
  refine returnsInHanded_of_change_sized (C := Try.checked) own started (by kernel_rfl) Try.func4
    (ChangeSpec.witness6 (enc := enc) (C := Try.checked) false ⟨#[], #[.slice none 0 0, .int .i64 0], []⟩ 8 (by kernel_rfl) (by kernel_rfl) (by kernel_rfl) (by kernel_rfl)) ?_
  intro W base args ds gs before hval0 hW hcnd hsz0 _
  have hval : ∀ (j : Nat) t v, Try.f4.params[j]? = some t → args[j]? = some v → Value.okWide Try.prog W .any base t v := hval0
  have hW' := hW
  obtain ⟨p, q, hA0, hV, rfl, hfz, hnd⟩ := hW
  have hA : DataW.TrodAll enc Try.prog W 0 (fun _ => true) true Try.f4.params.toList args.toList ds p := hA0
  rw [Try.params4] at hA hval
  obtain ⟨v0, vs0, d0, ds0, p0, q0, hargs, rfl, rfl, h0, r0⟩ := trodAll_cons hA
  obtain ⟨v1, vs1, d1, ds1, p1, q1, rfl, rfl, rfl, h1, r1⟩ := trodAll_cons r0
  obtain ⟨rfl, rfl, rfl⟩ := trodAll_nil r1
  obtain rfl : args = #[v0, v1] := by cases args; simp_all
  obtain ⟨rfl, rfl⟩ := trodVars_none hV
  have k0 := h0
  have lt0 : ∀ x ∈ p0, x.block < W.heap.size := by obtain ⟨m, hm⟩ := k0; exact DataW.trod_lt m _ _ _ hm
  obtain ⟨x0, hk0, ok0⟩ := Opens.arg (Opens.slice Try.underlying24 (by kernel_rfl) (Opens.int Try.underlying5 (by kernel_rfl))) h0
  obtain ⟨a0, len0, cap0, rfl⟩ := okWide_slice Try.underlying24 (hval 0 24 v0 rfl rfl)
  obtain ⟨A0, c0, hcs0, hc0, hr0⟩ := hk0
  simp only [Value.cells] at hcs0
  injection hcs0 with hcs0 _
  injection hcs0 with e1_0 e2_0 e3_0
  subst e1_0 e2_0 e3_0
  have k1 := h1
  have lt1 : ∀ x ∈ p1, x.block < W.heap.size := by obtain ⟨m, hm⟩ := k1; exact DataW.trod_lt m _ _ _ hm
  obtain ⟨x1, hk1, ok1⟩ := Opens.arg (Opens.int Try.underlying3 (by kernel_rfl)) h1
  obtain ⟨y1, rfl⟩ := okWide_int Try.underlying3 (hval 1 3 v1 rfl rfl)
  injection (show _ = [_] from hk1) with e1 _
  injection e1 with e1a e1
  subst e1
  clear hA0 hval0 hsz0
  obtain ⟨k, h⟩ := True_.TightGets x0 y1 ok0 ok1
  refine (firkinlaw07_TightGets.calls k _ _ x0 y1 true W hr0 hc0 h).mono fun e W' ⟨he, bel0⟩ => ?_
  have bel : Below W.heap.size W W' := bel0
  subst he
  exact ⟨_, rfl, _, _, _, [], _, [], hW', trodAll_mk1 (shut_bool Try.underlying4 _), (trodAll_cons_mk (Below.trod laidOut (by kernel_rfl) (of_decide_eq_true (by kernel_rfl)) k0 bel lt0) (trodAll_cons_mk (Below.trod laidOut (by kernel_rfl) (of_decide_eq_true (by kernel_rfl)) k1 bel lt1) trodAll_mk0)), rfl, bel.frame _, fun h => by cases h⟩
theorem over : Rows.tightGetsRow.holds Try.pinned (OpenSpec.ofChange Rows.tightGetsSpec) :=
  OpenClaim.holds_of_wide 4 Try.f4 rfl rfl rfl rfl rfl rfl rfl ⟨rfl, rfl, rfl, rfl, rfl⟩ rfl rfl rfl rfl rfl (by kernel_rfl) Try.func4 (by kernel_rfl)
    (of_decide_eq_true (by kernel_rfl)) (by unfold Func.isWrapper; first | (rw [if_pos (by decide +kernel)]; kernel_rfl) | (rw [if_neg (by decide +kernel)]; exact ⟨rfl, rfl⟩))
    (fun os started H enc _ => lifted os started H enc)
theorem proved : Rows.TightGetsSaid := over
end Go.Proofs.Ytbbffnlefmogbaa.tightGets
namespace Go.Proofs.Ytbbffnlefmogbaa
/-- The row, under a short name, for the claim. -/
theorem tightGets_holds : Rows.TightGetsSaid := tightGets.proved
end Go.Proofs.Ytbbffnlefmogbaa
