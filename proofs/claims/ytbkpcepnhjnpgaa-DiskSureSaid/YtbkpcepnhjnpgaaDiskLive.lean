/- Disks in laws; the contract of firkinlaw25.live. -/
import Derived.Test.YtbkpcepnhjnpgaaDiskC
import Derived.Test.YtbkpcepnhjnpgaaDiskR
import Derived.Test.YtbkpcepnhjnpgaaX6
import Derived.Test.YtbkpcepnhjnpgaaX6
import Derived.Test.YtbkpcepnhjnpgaaX2
namespace Go.Proofs.Ytbkpcepnhjnpgaa.X
open Go.RowKit Go.Maps Go.Proofs.YtbkpcepnhjnpgaaW.PrintWords Go.Proofs.YtbkpcepnhjnpgaaW.PrintLast Go.Proofs.YtbkpcepnhjnpgaaW.PrintMore
set_option linter.unusedVariables false
set_option linter.unusedSimpArgs false
theorem to25 {P : Program} {f : Nat} {args : Array Value} {w : World} {v : Value} {Q : Ending → World → Prop} (h : Calls P f args w fun e w' => e = .returned v ∧ w' = w) (hq : Q (.returned v) w) : Calls P f args w Q :=
  h.mono (by rintro e w' ⟨rfl, rfl⟩; exact hq)
theorem num25_same (x : Int) (w : World) : Calls Try.prog 34 #[.int .i64 x] w fun e w' => e = .returned (.int .i64 x) ∧ w' = w := by
  go_enter Try.func34, Try.ntmps34
  go_wp2_with fail
  go_ret
  exact ⟨rfl, rfl⟩
def full (c : Int) : List Int := List.replicate 64 c
theorem full_len (c : Int) : (full c).length = 64 := List.length_replicate
theorem full_l0 (c : Int) : ∀ d i k : Nat, i + d = 64 → d + 1 ≤ k → firkinlaw25_Full.l0 k c (List.replicate i c ++ List.replicate d 0) (i : Int) = some (full c)
  | 0, i, k, hi, hk => by
    obtain ⟨k, rfl⟩ : ∃ m, k = m + 1 := ⟨k - 1, by omega⟩
    obtain rfl : i = 64 := by omega
    simp only [firkinlaw25_Full.l0]
    rw [if_neg (by simp)]
    simp [full]
  | d + 1, i, k, hi, hk => by
    obtain ⟨k, rfl⟩ : ∃ m, k = m + 1 := ⟨k - 1, by omega⟩
    have ih := full_l0 c d (i + 1) k (by omega) (by omega)
    simp only [firkinlaw25_Full.l0]
    rw [if_pos (by simp; omega), if_pos (by omega), show wrap64 ((i : Int) + 1) = ((i + 1 : Nat) : Int) by unfold wrap64; omega, Int.toNat_natCast, List.set_append_right _ _ (by simp)]
    rw [List.length_replicate, Nat.sub_self, List.replicate_succ, List.set_cons_zero]
    rw [← ih, List.replicate_succ', List.append_assoc]
    rfl
theorem full_is (c : Int) : firkinlaw25_Full.f 65 c = some (full c) := by
  unfold firkinlaw25_Full.f
  rw [if_pos (by omega)]
  exact full_l0 c 64 0 65 (by omega) (by omega)
theorem full_calls (c : Int) (w : World) : Calls Try.prog 36 #[.int .u8 c] w fun e w' => ∃ A cp, e = .returned (.slice A 64 cp) ∧ Kd.C (Kd.int .u8) w' A 64 (full c) ∧ 64 ≤ cp ∧ (∀ ad, A = some ad → w.heap.size ≤ ad.block) ∧ Fr (fun _ => True) w w' := by
  refine (firkinlaw25_Full.calls 65 c (full c) w (full_is c)).mono ?_
  rintro e w' ⟨v, rfl, hr, hb⟩
  obtain ⟨A, cp, rfl, hcp, hC⟩ := Kd.R_reads hr
  rw [full_len] at hcp hC
  obtain ⟨inner, hown⟩ := Kd.R_own hr
  exact ⟨A, cp, by rw [full_len], hC, hcp, fun ad e => own_base hown ad.block (by rw [e]; rfl), Fr.of_below hb (fun k hk _ => hk)⟩
/-- A disk, made behind n0. -/
structure DW (n0 : Nat) (w : World) (b : Nat) (d : DS) : Prop where
  isD : IsD w b d
  live : Live w d.bw
  new : n0 ≤ b ∧ n0 ≤ d.bw ∧ n0 ≤ d.bm ∧ n0 ≤ d.bs
  cnt : d.cnt ≤ 900000
theorem DW.kept {n0 : Nat} {w w' : World} {b : Nat} {d : DS} (h : DW n0 w b d) (hf : Fr (fun _ => True) w w') : DW n0 w' b d :=
  ⟨h.isD.kept hf trivial trivial trivial, h.live.kept hf trivial, h.new, h.cnt⟩
def putD (d : DS) (i : Nat) (xs : List Int) : DS := { d with wait := putW d.wait i xs, cnt := d.cnt + 1 }
theorem DW.lt {n0 : Nat} {w : World} {b : Nat} {d : DS} (h : DW n0 w b d) : d.bw < w.heap.size ∧ d.bm < w.heap.size ∧ d.bs < w.heap.size := by
  obtain ⟨s5, h5, _⟩ := h.live
  exact ⟨h5.lt, h.isD.2.2.1.lt, h.isD.2.1.lt⟩
theorem disk_New.dw {n0 bw m n : Nat} {w : World} (hw : IsW w bw (newW m)) (h0 : n0 ≤ bw) (hs : n0 ≤ w.heap.size) (h1 : 1 ≤ n) (h2 : n ≤ 1024) :
    Calls Try.prog 13 #[.pointer (some ⟨bw, 0, none⟩), .int .i64 (n : Int)] w fun e w' => ∃ b d, e = .returned (.tuple #[.pointer (some ⟨b, 0, none⟩), .int .i64 0]) ∧ DW n0 w' b d ∧ (d.n = n ∧ d.sure = (fun _ => zbytes) ∧ d.wait = (fun _ => none) ∧ d.cnt = 0) ∧ Fr (fun _ => True) w w' := by
  refine (disk_New.calls bw _ n w hw h1 h2).mono ?_
  rintro e w' ⟨rfl, hd, hf, hs2⟩
  exact ⟨_, newD bw w.heap.size (w.heap.size + 1) n, rfl, ⟨hd, ⟨_, hw.kept hf trivial, rfl, show (-1 : Int) ≤ 0 by decide⟩, ⟨by omega, h0, show n0 ≤ w.heap.size + 1 by omega, hs⟩, Nat.zero_le _⟩, ⟨rfl, rfl, rfl, rfl⟩, hf⟩
theorem disk_Write.dw {n0 b i : Nat} {d : DS} {A : Option Addr} {cp : Nat} {xs : List Int} {w : World} (h : DW n0 w b d) (hi : i < d.n) (hx : Kd.C (Kd.int .u8) w A 64 xs) (hc : 64 ≤ cp) (hn : d.cnt < 900000) (hA : ∀ ad, A = some ad → ad.block ≠ d.bw) :
    Calls Try.prog 35 #[.pointer (some ⟨b, 0, none⟩), .int .i64 (i : Int), .slice A 64 cp] w fun e w' => e = .returned (.int .i64 0) ∧ DW n0 w' b (putD d i xs) ∧ Fr (fun k => k ≠ d.bw ∧ k ≠ d.bm) w w' := by
  obtain ⟨s, hw, hs1, hs2⟩ := h.live
  have hl : xs.length = 64 := hx.1
  have hap := h.isD.apart hw
  refine (disk_Write.calls b d s i A cp xs w h.isD hi hw hs1 (by rw [hl]; exact hx) (by rw [hl]; exact hc) hl (by omega) ⟨hap.1, hap.2.1, hap.2.2.1, hap.2.2.2.1, hap.2.2.2.2.1⟩ hA).mono ?_
  rintro e w' ⟨rfl, hd, hw', hf⟩
  exact ⟨rfl, ⟨hd, Live.step hw' hs1 hs2, h.new, by show d.cnt + 1 ≤ 900000; omega⟩, hf⟩
theorem disk_Sync.dw {n0 b : Nat} {d : DS} {w : World} (h : DW n0 w b d) :
    Calls Try.prog 37 #[.pointer (some ⟨b, 0, none⟩)] w fun e w' => e = .returned (.int .i64 0) ∧ DW n0 w' b (syncD d) ∧ Fr (fun k => k ≠ d.bw ∧ k ≠ d.bm ∧ k ≠ d.bs) w w' := by
  obtain ⟨s, hw, hs1, hs2⟩ := h.live
  refine (disk_Sync.calls b d s w h.isD hw hs1).mono ?_
  rintro e w' ⟨rfl, hd, hw', hf⟩
  exact ⟨rfl, ⟨hd, Live.step hw' hs1 hs2, h.new, Nat.zero_le _⟩, hf⟩
theorem disk_Crash.dw {n0 b : Nat} {d : DS} {A0 : Option Addr} {c0 : Nat} {keep : List Int} {w : World} (h : DW n0 w b d) (hk : Kd.C (Kd.int .i64) w A0 keep.length keep) (hkc : keep.length ≤ c0) (hbs : 0 < keep.length → ∀ ad, A0 = some ad → ad.block ≠ d.bs) :
    Calls Try.prog 38 #[.pointer (some ⟨b, 0, none⟩), .slice A0 keep.length c0] w fun e w' => e = .returned (.tuple #[]) ∧ DW n0 w' b (crashD d keep) ∧ Fr (fun k => k ≠ d.bm ∧ k ≠ d.bs) w w' := by
  obtain ⟨s, hw, hs1, hs2⟩ := h.live
  have hap := h.isD.apart hw
  refine (disk_Crash.calls b d A0 c0 keep w h.isD (by have := h.cnt; omega) hk hkc hbs).mono ?_
  rintro e w' ⟨rfl, hd, hf⟩
  exact ⟨rfl, ⟨hd, h.live.kept hf ⟨fun e => hap.2.1 e.symm, fun e => hap.2.2.1 e.symm⟩, h.new, Nat.zero_le _⟩, hf⟩
theorem disk_Read.dw {n0 b i : Nat} {d : DS} {w : World} (h : DW n0 w b d) (hi : i < d.n) (hw : d.wait = fun _ => none) :
    Calls Try.prog 39 #[.pointer (some ⟨b, 0, none⟩), .int .i64 (i : Int)] w fun e w' => ∃ A, e = .returned (.tuple #[.slice A 64 64, .int .i64 0]) ∧ Kd.C (Kd.int .u8) w' A 64 (d.sure i) ∧ (∀ ad, A = some ad → w.heap.size ≤ ad.block) ∧ Fr (fun _ => True) w w' := by
  obtain ⟨s, hws, hs1, hs2⟩ := h.live
  have hnow : d.now i = d.sure i := by unfold DS.now; rw [hw]; rfl
  have hl : (d.sure i).length = 64 := by obtain ⟨arr, _, _, _, h4⟩ := h.isD.2.1; exact h4 i hi
  refine (disk_Read.calls b d s i w h.isD hi hws hs1 (by rw [hnow]; exact hl)).mono ?_
  rintro e w' ⟨g, rfl, hg, hh, hf⟩
  rw [hnow] at hh
  refine ⟨_, rfl, ?_, fun ad e => by injection e with e; rw [← e]; exact hg, hf⟩
  have h1 := Mem.C_ints (k := .u8) hh (xs := d.sure i) (fun j hj => by
    have h := sec_get (d.sure i) hl j (by omega)
    rwa [Nat.zero_add] at h) (by omega)
  rwa [hl] at h1
theorem same25 (l : List Int) : firkinref01_Same.f l l = some true := by unfold firkinref01_Same.f; simp
theorem same_calls {A B : Option Addr} {ca cb n : Nat} {l : List Int} {w : World} (ha : Kd.C (Kd.int .u8) w A n l) (hca : n ≤ ca) (hb : Kd.C (Kd.int .u8) w B n l) (hcb : n ≤ cb) : Calls Try.prog 22 #[.slice A n ca, .slice B n cb] w fun e w' => e = .returned (.bool true) ∧ Fr (fun _ => True) w w' := by
  have hl : l.length = n := ha.1
  subst hl
  refine (firkinref01_Same.calls A ca l B cb l true w ha hca hb hcb (same25 l)).mono ?_
  rintro e w' ⟨rfl, hd⟩
  exact ⟨rfl, Fr.drawn hd⟩
theorem nil_C (w : World) : Kd.C (Kd.int .i64) w none ([] : List Int).length [] := ⟨rfl, by simp, fun h => absurd h (by simp)⟩
theorem pend_one (d : DS) (i : Nat) (xs : List Int) (hi : i < d.n) (hw : d.wait = fun _ => none) : pendN (putD d i xs) = [i] := by
  unfold pendN putD putW
  rw [hw]
  simp only
  have h : ∀ n, i < n → (List.range n).filter (fun j => (if j = i then some xs else none).isSome) = [i] := by
    intro n
    induction n with
    | zero => intro h; omega
    | succ n ih =>
      intro h
      rw [List.range_succ, List.filter_append]
      by_cases e : i = n
      · subst e
        have h0 : (List.range i).filter (fun j => (if j = i then some xs else none).isSome) = [] := by
          rw [List.filter_eq_nil_iff]
          intro a ha
          have := List.mem_range.mp ha
          rw [if_neg (by omega)]; simp
        rw [h0]; simp
      · rw [ih (by omega)]
        rw [List.filter_cons, if_neg (by rw [if_neg (by omega)]; simp)]
        rfl
  exact h d.n hi
theorem pend_none (d : DS) (hw : d.wait = fun _ => none) : pendN d = [] := by
  unfold pendN
  rw [hw, List.filter_eq_nil_iff]
  intro a _; simp
end Go.Proofs.Ytbkpcepnhjnpgaa.X
