/- The contract of firkinlaw35.StagePuts. -/
import Derived.Test.YtbkpcepnhjnpgaaStageAny
import Derived.Deep.CutBlock
import Derived.Test.YtbkpcepnhjnpgaaX2
namespace Go.Proofs.Ytbkpcepnhjnpgaa.X
open Go.RowKit Go.Maps Go.Proofs.YtbkpcepnhjnpgaaW.PrintWords Go.Proofs.YtbkpcepnhjnpgaaW.PrintLast Go.Proofs.YtbkpcepnhjnpgaaW.PrintMore
set_option linter.unusedVariables false
set_option linter.unusedSimpArgs false
def firkinlaw35_StagePuts.f (a0 : Int) (l1 : List SIt) (a2 : Int) : Option Bool := if (l1.all fun x => x.f1.all fun z => decide (0 ≤ z) && decide (z < 256)) = true then some true else none
theorem items_bytes {l : List SIt} (h : (l.all fun x => x.f1.all fun z => decide (0 ≤ z) && decide (z < 256)) = true) : ∀ k, k < l.length → Crc.IsBytes (l.getD k zSIt).f1 := by
  intro k hk z hz
  have hm : l.getD k zSIt ∈ l := by rw [List.getD_eq_getElem?_getD, List.getElem?_eq_getElem hk]; exact List.getElem_mem hk
  have h1 := List.all_eq_true.mp (List.all_eq_true.mp h _ hm) z hz
  simpa using h1
/-- The cells of the items of a row, by numbers. -/
theorem item_row {w : World} {A : Option Addr} {n : Nat} {l : List SIt} (h : Kd.C k37 w A n l) : ∃ (ad : Addr) (f : Nat → Option Addr × Nat), ∀ i, i < n → A = some ad ∧ w.cell? (ad.add (i * 2)) = some (.string (l.getD i zSIt).f0) ∧ w.cell? ⟨(ad.add (i * 2)).block, (ad.add (i * 2)).off + 1, none⟩ = some (.slice (f i).1 (l.getD i zSIt).f1.length (f i).2) ∧ (l.getD i zSIt).f1.length ≤ (f i).2 ∧ Kd.C (Kd.int .u8) w (f i).1 (l.getD i zSIt).f1.length (l.getD i zSIt).f1 := by
  by_cases hn : n = 0
  · exact ⟨⟨0, 0, none⟩, fun _ => (none, 0), fun i hi => by omega⟩
  obtain ⟨ad, _, _, e0, _⟩ := at_T37 h 0 (by omega) (by omega)
  have h1 : ∀ i : Nat, ∃ p : Option Addr × Nat, i < n → A = some ad ∧ w.cell? (ad.add (i * 2)) = some (.string (l.getD i zSIt).f0) ∧ w.cell? ⟨(ad.add (i * 2)).block, (ad.add (i * 2)).off + 1, none⟩ = some (.slice p.1 (l.getD i zSIt).f1.length p.2) ∧ (l.getD i zSIt).f1.length ≤ p.2 ∧ Kd.C (Kd.int .u8) w p.1 (l.getD i zSIt).f1.length (l.getD i zSIt).f1 := by
    intro i
    by_cases hi : i < n
    · obtain ⟨ad2, A1, c1, e, h2, h3, h4, h5⟩ := at_T37 h (i : Int) (by omega) (by omega)
      rw [e0] at e
      injection e with e
      subst e
      rw [Int.toNat_natCast] at h2 h3
      exact ⟨(A1, c1), fun _ => ⟨e0, h2, h3, h4, h5⟩⟩
    · exact ⟨(none, 0), fun h => absurd h hi⟩
  obtain ⟨f, hf⟩ := Classical.axiomOfChoice h1
  exact ⟨ad, f, hf⟩
def cellsOf (l : List SIt) (f : Nat → Option Addr × Nat) (k : Nat) : List Value := [.string (l.getD k zSIt).f0, .slice (f k).1 (l.getD k zSIt).f1.length (f k).2]
theorem cell_fr {w w' : World} {P : Nat → Prop} {p : Addr} {v : Value} (hf : Fr P w w') (h : w.cell? p = some v) (hp : P p.block) : w'.cell? p = some v := by
  rw [← h]
  exact World.cell?_of_block (w := w) (hf.block _ (World.block_lt_of_cell? _ _ h) hp)
theorem C_fr2 {k : IntKind} {P : Nat → Prop} {a b : World} {A : Option Addr} {n : Nat} {xs : List Int} (h : (Kd.int k).C a A n xs) (hf : Fr P a b) (hp : ∀ k, k < a.heap.size → P k) : (Kd.int k).C b A n xs := by
  obtain ⟨h1, h2, h3⟩ := h
  refine ⟨h1, h2, fun hn => ?_⟩
  obtain ⟨ad, ea, hc⟩ := h3 hn
  refine ⟨ad, ea, fun j p hj => ?_⟩
  obtain ⟨cs, hl, hk, hu⟩ := hc j p hj
  refine ⟨cs, hl, hk, fun i u hi => ?_⟩
  have h5 := hu i u hi
  have hlt := World.block_lt_of_cell? _ _ h5
  exact cell_fr hf h5 (hp _ hlt)
theorem C_at2 {k : IntKind} {w : World} {A : Option Addr} {n : Nat} {xs : List Int} (h : (Kd.int k).C w A n xs) (h1 : 1 ≤ n) : True ∧ ∃ ad, A = some ad ∧ ad.block < w.heap.size := by
  obtain ⟨_, h2⟩ := C_at h
  obtain ⟨ad, e, hc⟩ := h2 0 (by omega)
  refine ⟨trivial, ad, e, ?_⟩
  have hlt := World.block_lt_of_cell? _ _ hc
  rwa [show (ad.add 0).block = ad.block by unfold Addr.add; split <;> rfl] at hlt
theorem raw_nil (w : World) (e base : Nat) (hb : base ≤ w.heap.size) : Kd.R (Kd.raw 2) e (w.alloc (.cells #[] e)) base (fun _ => True) (.slice (some ⟨w.heap.size, 0, none⟩) 0 0) [] :=
  ⟨fun _ _ => trivial, [], World.ownsRow_made w #[] 0 hb (by unfold maxLen; omega) rfl, Reps.none _ _⟩
/-- A stage stays where items' rows of the law are written. -/
theorem SS.kept_in {n0 : Nat} {w w' : World} {b : Nat} {t : TS} {d : DS} {P : Nat → Prop} (h : SS n0 w b t d) (hf : Fr P w w') (hp : ∀ k o, w.heap[k]? = some o → (∀ cells, o ≠ .cells cells 37 (0, 0)) → P k) : SS n0 w' b t d := by
  obtain ⟨A, c, hb, _⟩ := h.isT
  obtain ⟨hd, ⟨arr, hs, _⟩, ⟨D, ⟨es, clock, hm, _⟩, _⟩, _⟩ := h.isD
  obtain ⟨s, hw, _⟩ := h.live
  have pb := hp b _ hb (fun cells e => by unfold tBlk at e; injection e with _ e; cases e)
  have pd := hp t.bd _ hd (fun cells e => by injection e with _ e; cases e)
  have ps := hp d.bs _ hs (fun cells e => by injection e with _ e; cases e)
  have pm := hp d.bm _ hm (fun cells e => by cases e)
  have pw := hp d.bw _ hw (fun cells e => by injection e with _ e; cases e)
  exact ⟨h.isT.kept hf pb (fun k cells hk => hp k _ hk (fun cells e => by injection e with _ e; cases e)), h.isD.kept hf pd ps pm, h.live.kept hf pw, h.wt, h.cn, h.hB, h.new, Nat.le_trans h.size hf.size, h.fit⟩
theorem item_info : (Try.prog.info? 37).map (fun i => (i.zero, i.size, i.bytes)) = some (some (.agg #[.string ⟨#[]⟩, .slice none 0 0]), 2, 40) := by kernel_rfl
theorem cellsOf_M (l : List SIt) (f : Nat → Option Addr × Nat) (k : Nat) (w : World) (base : Nat) (ok : Nat → Prop) : (Kd.raw 2).M w base ok (cellsOf l f k) (cellsOf l f k) :=
  ⟨rfl, rfl, fun u hu => by
    simp only [cellsOf, List.mem_cons, List.not_mem_nil, or_false] at hu
    rcases hu with rfl | rfl <;> rfl⟩
theorem SS.off_in {n0 : Nat} {w : World} {b k : Nat} {t : TS} {d : DS} {cells : Array Value} (h : SS n0 w b t d) (hk : w.heap[k]? = some (.cells cells 37 (0, 0))) : Off w b t d k := by
  obtain ⟨A, c, hb, _⟩ := h.isT
  obtain ⟨hd, ⟨arr, hs, _⟩, ⟨D, ⟨es, clock, hm, _⟩, _⟩, _⟩ := h.isD
  obtain ⟨s, hw, _⟩ := h.live
  unfold IsW at hw
  refine ⟨fun e => ?_, fun e => ?_, fun e => ?_, fun e => ?_, .inr (fun c2 e => ?_)⟩
  · rw [e, hb] at hk; unfold tBlk at hk; injection hk with hk; injection hk with _ hk; cases hk
  · rw [e, hw] at hk; injection hk with hk; injection hk with _ hk; cases hk
  · rw [e, hm] at hk; cases hk
  · rw [e, hs] at hk; injection hk with hk; injection hk with _ hk; cases hk
  · rw [hk] at e; injection e with e; injection e with _ e; cases e
theorem raw_cells {w : World} {B : Nat} {ok : Nat → Prop} {e : Nat} {A : Option Addr} {n c j : Nat} {xs : List (List Value)} (h : Kd.R (Kd.raw 2) e w B ok (.slice A n c) xs) (hj : j < xs.length) :
    ∃ g, A = some ⟨g, 0, none⟩ ∧ ∀ q u, xs[j][q]? = some u → w.cell? ⟨g, j * 2 + q, none⟩ = some u := by
  obtain ⟨hn, hc, hC⟩ := Kd.R_reads' h
  obtain ⟨inner, hown⟩ := Kd.R_own h
  obtain ⟨ad, cs, eA, hl, hK, hcell⟩ := Kd.C_get hC [] (j : Int) (by omega) (by omega)
  rw [Int.toNat_natCast] at hK hcell
  have ex : xs.getD j [] = xs[j] := by rw [List.getD_eq_getElem?_getD, List.getElem?_eq_getElem hj]; rfl
  rw [ex] at hK
  obtain ⟨rfl, _⟩ := hK
  rcases hown.2 with ⟨e, _⟩ | ⟨g, cap, cur, e, _⟩
  · injection e with e _ _; rw [eA] at e; cases e
  · injection e with e _ _
    rw [eA] at e
    injection e with e
    subst e
    refine ⟨g, eA, fun q u hq => ?_⟩
    have h9 := hcell q u hq
    rw [add_plain] at h9
    exact h9
theorem same_self (l : List Int) : firkinref01_Same.f l l = some true := by unfold firkinref01_Same.f; simp
set_option maxHeartbeats 16000000 in
set_option maxRecDepth 100000 in
theorem firkinlaw35_StagePuts.calls (a0 : Int) (A1 : Option Addr) (c1 : Nat) (l1 : List SIt) (a2 : Int) (r : Bool) (w : World) (hr1 : Kd.C k37 w A1 l1.length l1) (hc1 : l1.length ≤ c1) (h : firkinlaw35_StagePuts.f a0 l1 a2 = some r) :
    Calls Try.prog 3 #[.int .i64 a0, .slice A1 l1.length c1, .int .i64 a2] w fun e w' => e = .returned (.bool r) ∧ Below w.heap.size w w' := by
  unfold firkinlaw35_StagePuts.f at h
  by_cases hall : (l1.all fun x => x.f1.all fun z => decide (0 ≤ z) && decide (z < 256)) = true
  case neg => rw [if_neg hall] at h; cases h
  rw [if_pos hall] at h
  obtain rfl := Option.some.inj h
  clear h
  have HIB := Aside0.mk (items_bytes hall)
  obtain ⟨rs, hs1, hs2⟩ := small_is l1
  have HR1 := Aside0.mk hr1
  have HC1 := Aside0.mk hc1
  have HSM := Aside0.mk hs1
  have HSO := Aside0.mk hs2
  obtain ⟨m, hm⟩ : ∃ m, l1.length = m := ⟨_, rfl⟩
  have HML := Aside0.mk hm
  obtain ⟨ad, f, hir⟩ := item_row hr1
  have HIR := Aside0.mk hir
  have HCS := firkinlaw35_small.calls 42 A1 c1 l1 rs w hr1 hc1 hs1
  rw [hm] at HCS HIR ⊢
  have HCS := Aside0.mk HCS
  clear hall hr1 hc1 hs1 hs2 hm hir
  obtain ⟨t1, c2⟩ : ∃ t : Bool, decide (a0 < 0) = t := ⟨_, rfl⟩
  obtain ⟨t2, c3⟩ : ∃ t : Bool, decide (a0 > 20) = t := ⟨_, rfl⟩
  have HT := Aside0.mk (And.intro c2 c3)
  have hsp : (rs = false ∨ (rs = true ∧ t1 = true) ∨ (rs = true ∧ t1 = false ∧ t2 = true)) ∨ (rs = true ∧ t1 = false ∧ t2 = false) := by
    cases rs <;> cases t1 <;> cases t2 <;> simp
  rcases hsp with hsp | ⟨rfl, rfl, rfl⟩
  · rcases hsp with rfl | ⟨rfl, rfl⟩ | ⟨rfl, rfl, rfl⟩
    all_goals (
      go_enter Try.func3, Try.ntmps3
      go_wp2_with fail
      refine HCS.out.mono ?_
      rintro e w1 ⟨rfl, hd1⟩
      have HF1 := Aside0.mk (Fr.drawn hd1)
      clear hd1
      go_wp2_with fail
      refine (firkinlaw35_live.calls w1).mono ?_
      rintro e w2 ⟨rfl, hf2⟩
      have HF2 := Aside0.mk ((HF1.out.mono (fun _ _ _ => trivial)).step hf2 (fun k hk (h : k < w.heap.size) => by have := HF1.out.size; omega))
      clear hf2
      go_wp2_with fail
      go_ret
      exact ⟨rfl, HF2.out.below (fun k hk => hk) (Nat.le_refl _)⟩)
  · obtain ⟨n, hn⟩ : ∃ n : Nat, a0 = (n : Int) := ⟨a0.toNat, by have := of_decide_eq_false c2; omega⟩
    subst hn
    have HN := Aside0.mk (show n ≤ 20 by have := of_decide_eq_false c3; omega)
    have HSO2 := Aside0.mk (HSO.out rfl)
    go_enter Try.func3, Try.ntmps3
    go_wp2_with fail
    refine HCS.out.mono ?_
    rintro e w1 ⟨rfl, hd1⟩
    have HF1 := Aside0.mk (Fr.drawn hd1)
    clear hd1 HCS HSM HSO
    go_wp2_with fail
    refine (world_New.calls w1).mono ?_
    rintro e w2 ⟨rfl, hw2, _, hf2, hs2⟩
    have HW2 := Aside0.mk hw2
    have HF2 := Aside0.mk (HF1.out.trans hf2)
    have HS2 := Aside0.mk (show w.heap.size ≤ w1.heap.size from HF1.out.size)
    clear hw2 hf2 hs2
    go_wp2_with fail
    refine (disk_New.live (n0 := w.heap.size) (n := 21) HW2.out (by have := HS2.out; omega) HF2.out.size (by omega) (by omega)).mono ?_
    rintro e w3 ⟨bd, d0, rfl, hd, hf3⟩
    have HD := Aside0.mk hd
    have HF3 := Aside0.mk (HF2.out.trans hf3)
    clear hd hf3
    go_wp2_with fail
    refine (stage_New.ss (n0 := w.heap.size) (x := 1) (y := n) HD.out.isD HD.out.live HD.out.eq.2.2.1 HD.out.eq.2.2.2 (by rw [HD.out.eq.1]; omega) (by rw [HD.out.eq.1]; have := HN.out; omega) HF3.out.size HD.out.new).mono ?_
    rintro e w4 ⟨rfl, hss, hf4⟩
    have HSS := Aside0.mk hss
    have HF4 := Aside0.mk (HF3.out.trans hf4)
    clear hss hf4
    generalize w3.heap.size = b at HSS ⊢
    go_wp2_with (first
      | (go_at_call 16; refine num35_to ?_))
    have HSS5 := Aside0.mk (HSS.out.kept (fr_alloc w4 (.cells #[] 37) (fun _ => True)))
    have HF5 := Aside0.mk ((HF4.out.trans (fr_alloc w4 (.cells #[] 37) (fun _ => True))).mono (Q := fun k => k < w.heap.size) (fun _ _ _ => trivial))
    have HR5 := Aside0.mk (raw_nil w4 37 w.heap.size HF4.out.size)
    go_loopg [11, 12, 13] (m + 1) (fun kq v11 v12 v13 wr => ∃ (i : Nat) (ks : List Nat) (t : TS) (d : DS) (Ai : Option Addr) (ci : Nat), v13 = .int .i64 (i : Int) ∧ v12 = .int .i64 (t.used : Int) ∧ v11 = .slice Ai ks.length ci ∧ Aside0 (kq + i = m + 1) ∧ Aside0 (i ≤ m) ∧ Aside0 (SS w.heap.size wr b t d) ∧ Aside0 (Has l1 t d ks) ∧ Aside0 (ks.length ≤ i) ∧ Aside0 (t.n = n ∧ t.frm = 1) ∧ Aside0 (Kd.R (Kd.raw 2) 37 wr w.heap.size (fun _ => True) (.slice Ai ks.length ci) (ks.map (cellsOf l1 f))) ∧ Aside0 (Fr (fun k => k < w.heap.size) w wr))
    case atStart => exact ⟨0, [], _, d0, _, 0, rfl, rfl, rfl, ⟨by omega⟩, ⟨by omega⟩, HSS5, ⟨Has.nil _ _ _ _ _ _⟩, ⟨Nat.le_refl _⟩, ⟨rfl, rfl⟩, HR5, HF5⟩
    case round =>
      obtain ⟨i, ks, t, d, Ai, ci, rfl, rfl, rfl, HK, HI, HSR, HHR, HKL, HTN, HRR, HFR⟩ := hrel
      cases gk with
      | zero => have h1 := HK.out; have h2 := HI.out; omega
      | succ k2 =>
      by_cases hi : i < m
      · have c4 : decide ((i : Int) < (m : Int)) = true := decide_eq_true (by omega)
        have c4b : decide (i < m) = true := decide_eq_true hi
        have hi0 : (0 : Int) ≤ (i : Int) := Int.natCast_nonneg _
        have hi1 : (i : Int) < (m : Int) := by omega
        have HIL := Aside0.mk hi
        obtain ⟨hA1, hx1, hx2, hx3, hx4⟩ := HIR.out i hi
        subst hA1
        have HY1 := Aside0.mk hx1
        have HY2 := Aside0.mk hx2
        replace hx1 := cell_fr HFR.out hx1 (World.block_lt_of_cell? _ _ hx1)
        replace hx2 := cell_fr HFR.out hx2 (World.block_lt_of_cell? _ _ hx2)
        have HX3 := Aside0.mk hx3
        have HX4 := Aside0.mk hx4
        have HIB2 := Aside0.mk (HIB.out i (by rw [HML.out]; exact HIL.out))
        have HOK := Aside0.mk (HSO2.out.2 i (by rw [HML.out]; exact HIL.out))
        have HCE := Aside0.mk (show cellsOf l1 f i = [.string (l1.getD i zSIt).f0, .slice (f i).1 (l1.getD i zSIt).f1.length (f i).2] from rfl)
        have HPU := Aside0.mk (HHR.out.put HSR.out.wt (i := i) (by rw [HML.out]; exact HIL.out))
        have HKE := Aside0.mk (show anyK t l1 i ks = if want35 t.n t.used (l1.getD i zSIt) = 0 then ks ++ [i] else ks from rfl)
        clear hi hx3 hx4
        obtain ⟨x, hx⟩ : ∃ x, l1.getD i zSIt = x := ⟨_, rfl⟩
        have HXE := Aside0.mk hx
        rw [hx] at hx1 hx2 HX3 HX4 HIB2 HOK HCE HPU HKE
        clear hx
        obtain ⟨Ax, hAx⟩ : ∃ Ax, (f i).1 = Ax := ⟨_, rfl⟩
        obtain ⟨cx, hcx⟩ : ∃ cx, (f i).2 = cx := ⟨_, rfl⟩
        rw [hAx] at hx2 HX4 HCE
        rw [hcx] at hx2 HX3 HCE
        clear hAx hcx
        have HNM := Aside0.mk (name_is x.f0 (by have := HOK.out; unfold okIt at this; omega))
        obtain ⟨nb, hnb⟩ : ∃ nb, wname x.f0 = nb := ⟨_, rfl⟩
        have HNB := Aside0.mk hnb
        rw [hnb] at HNM
        obtain ⟨q, hq⟩ : ∃ q, x.f1.length = q := ⟨_, rfl⟩
        have HQ := Aside0.mk hq
        rw [hq] at hx2 HCE
        have HQL := Aside0.mk (show q ≤ 400 by have := HOK.out.1; omega)
        clear hnb hq
        go_upto_block 2 with (fail)
        have HND := Aside0.mk (show wrap64 (Int.tdiv (wrap64 ((q : Int) + 63)) 64) = ((nsec q : Nat) : Int) by
          have := HQL.out
          have h1 : wrap64 ((q : Int) + 63) = ((q + 63 : Nat) : Int) := by unfold wrap64; omega
          rw [h1, Int.tdiv_eq_ediv_of_nonneg (Int.natCast_nonneg _)]
          unfold nsec wrap64; omega)
        rw [HND.out]
        clear HND
        obtain ⟨ns, hns⟩ : ∃ ns, nsec q = ns := ⟨_, rfl⟩
        rw [hns]
        have HNS := Aside0.mk hns
        clear hns
        have HWN := Aside0.mk (show wrap64 ((n : Int) - (t.used : Int)) = (n : Int) - (t.used : Int) by have h1 := HSR.out.fit.1; have h2 := HTN.out.1; have h3 := HN.out; unfold wrap64; omega)
        go_cut [11, 12, 15] (fun v11 v12 v15 wx => ∃ (Ai' : Option Addr) (ci' : Nat), v11 = .slice Ai' (anyK t l1 i ks).length ci' ∧ v12 = .int .i64 ((anyT t x).used : Int) ∧ v15 = .int .i64 (want35 t.n t.used x) ∧ Aside0 (SS w.heap.size wx b t d) ∧ Aside0 (Kd.R (Kd.raw 2) 37 wx w.heap.size (fun _ => True) (.slice Ai' (anyK t l1 i ks).length ci') ((anyK t l1 i ks).map (cellsOf l1 f))) ∧ Aside0 (Fr (fun k => k < w.heap.size) wr wx))
        case first =>
          cases nb with
          | false =>
            go_wp2_with fail
            refine (firkinref24_Name.calls _ _ _ _ HNM.out).mono ?_
            rintro e w5 ⟨rfl, hdr⟩
            have hf5 := Fr.drawn hdr
            have HF6 := Aside0.mk hf5
            clear hdr hf5
            go_wp2_with fail
            have e1 : want35 t.n t.used x = 1 := by unfold want35; rw [if_pos (.inl HNB.out)]
            go_meet
            case rel =>
              rw [show anyK t l1 i ks = ks by rw [HKE.out, e1]; rfl, show anyT t x = t by unfold anyT; rw [e1]; rfl, e1]
              exact ⟨Ai, ci, rfl, rfl, rfl, ⟨HSR.out.kept HF6.out⟩, ⟨R_fr HRR.out HF6.out (fun _ _ _ => trivial)⟩, ⟨HF6.out.mono (fun _ _ _ => trivial)⟩⟩
          | true =>
            obtain ⟨zb, hzb⟩ : ∃ zb : Bool, ((q : Int) == 0) = zb := ⟨_, rfl⟩
            have hzc : (q == 0) = zb := by rw [← hzb, Bool.eq_iff_iff]; simp
            have HZB := Aside0.mk hzc
            cases zb with
            | true =>
              go_wp2_with fail
              refine (firkinref24_Name.calls _ _ _ _ HNM.out).mono ?_
              rintro e w5 ⟨rfl, hdr⟩
              have hf5 := Fr.drawn hdr
              have HF6 := Aside0.mk hf5
              have hx2 := cell_fr hf5 hx2 trivial
              clear hdr hf5
              go_wp2_with fail
              have e1 : want35 t.n t.used x = 1 := by unfold want35; rw [if_pos (.inr (by rw [HQ.out]; have h := HZB.out; simpa using h))]
              go_meet
              case rel =>
                rw [show anyK t l1 i ks = ks by rw [HKE.out, e1]; rfl, show anyT t x = t by unfold anyT; rw [e1]; rfl, e1]
                exact ⟨Ai, ci, rfl, rfl, rfl, ⟨HSR.out.kept HF6.out⟩, ⟨R_fr HRR.out HF6.out (fun _ _ _ => trivial)⟩, ⟨HF6.out.mono (fun _ _ _ => trivial)⟩⟩
            | false =>
              obtain ⟨tb, htb⟩ : ∃ tb : Bool, decide ((ns : Int) > wrap64 ((n : Int) - (t.used : Int))) = tb := ⟨_, rfl⟩
              have HTB := Aside0.mk htb
              cases tb with
              | true =>
                go_wp2_with fail
                refine (firkinref24_Name.calls _ _ _ _ HNM.out).mono ?_
                rintro e w5 ⟨rfl, hdr⟩
                have hf5 := Fr.drawn hdr
                have HF6 := Aside0.mk hf5
                have hx2 := cell_fr hf5 hx2 trivial
                clear hdr hf5
                go_wp2_with fail
                have e1 : want35 t.n t.used x = 7 := by
                  have h1 := HTB.out
                  rw [HWN.out] at h1
                  have h2 := of_decide_eq_true h1
                  have h3 := HTN.out.1
                  unfold want35
                  rw [if_neg (by rw [HQ.out, HNB.out]; have h := HZB.out; simpa using h), if_pos (by rw [HQ.out, HNS.out]; omega)]
                go_meet
                case rel =>
                  rw [show anyK t l1 i ks = ks by rw [HKE.out, e1]; rfl, show anyT t x = t by unfold anyT; rw [e1]; rfl, e1]
                  exact ⟨Ai, ci, rfl, rfl, rfl, ⟨HSR.out.kept HF6.out⟩, ⟨R_fr HRR.out HF6.out (fun _ _ _ => trivial)⟩, ⟨HF6.out.mono (fun _ _ _ => trivial)⟩⟩
              | false =>
                go_wp2_with fail
                refine (firkinref24_Name.calls _ _ _ _ HNM.out).mono ?_
                rintro e w5 ⟨rfl, hdr⟩
                have hf5 := Fr.drawn hdr
                have HF6 := Aside0.mk hf5
                have hx1 := cell_fr hf5 hx1 trivial
                have hx2 := cell_fr hf5 hx2 trivial
                have HR6 := Aside0.mk (R_fr HRR.out hf5 (fun _ _ _ => trivial))
                clear hdr hf5
                have HB5 := Aside0.mk (show w.heap.size ≤ w5.heap.size by have h1 := HFR.out.size; have h2 := HF6.out.size; omega)
                have HLM := Aside0.mk (show (ks.map (cellsOf l1 f)).length = ks.length from List.length_map _)
                have HUW := Aside0.mk (show wrap64 ((t.used : Int) + (ns : Int)) = ((t.used + ns : Nat) : Int) by
                  have h1 := HSR.out.fit.1; have h2 := HTN.out.1; have h3 := HN.out; have h4 := HTB.out; rw [HWN.out] at h4; have h5 := of_decide_eq_false h4; unfold wrap64; omega)
                go_wp2_with (first
                  | ((with_reducible refine gate_builtin (b := .append) (xs := #[.tmp 67, .tmp 72]) rfl ?_); refine Kd.R_append (Kd.raw 2) (w0 := w5) w.heap.size rfl (.tmp 67) (.tmp 72) 22 37 _ 40 rfl Try.underlying22 item_info rfl (by decide) (by omega) (.slice Ai ks.length ci) (ks.map (cellsOf l1 f)) (cellsOf l1 f i) [.string x.f0, .slice Ax q cx] (fun _ => True) (fun _ => False) rfl rfl (by rw [← HCE.out]; exact cellsOf_M _ _ _ _ _ _) (fun _ h => h.elim) (fun _ _ => trivial) HR6.out (Below.refl _ _) HB5.out (by have h1 := HLM.out; have h2 := HKL.out; have h3 := HI.out; have h4 := HSO2.out.1; have h5 := HML.out; omega) ?_; intro v6 w6 ho hb6 hg6 hat6; have HO := Aside0.mk ho; have HG := Aside0.mk hg6; clear ho hb6 hg6 hat6))
                have e1 : want35 t.n t.used x = 0 := by
                  have h1 := HTB.out
                  rw [HWN.out] at h1
                  have h2 := of_decide_eq_false h1
                  have h3 := HTN.out.1
                  unfold want35
                  rw [if_neg (by rw [HQ.out, HNB.out]; have h := HZB.out; simpa using h), if_neg (by rw [HQ.out, HNS.out]; omega)]
                have ek : anyK t l1 i ks = ks ++ [i] := by rw [HKE.out, e1]; rfl
                have et : (anyT t x).used = t.used + ns := by unfold anyT; rw [if_pos e1]; show t.used + nsec x.f1.length = _; rw [HQ.out, HNS.out]
                have em : List.map (cellsOf l1 f) ks ++ [cellsOf l1 f i] = (ks ++ [i]).map (cellsOf l1 f) := by rw [List.map_append]; rfl
                have ho := HO.out
                obtain ⟨Ai', ci', ev6⟩ := Kd.R_slice ho
                subst ev6
                rw [em, List.length_map] at ho
                go_meet
                case rel =>
                  rw [em, List.length_map, ek, et, e1, HUW.out]
                  have hfg := Fr.of_grown HG.out
                  refine ⟨Ai', ci', rfl, rfl, rfl, ⟨(HSR.out.kept HF6.out).kept_in hfg (fun k o hk hne e => ?_)⟩, ⟨ho⟩, ⟨((HF6.out.mono (Q := fun k => k < w.heap.size) (fun _ _ _ => trivial)).step hfg (fun k hk (h : k < w.heap.size) e => ?_))⟩⟩
                  · obtain ⟨inner, hown⟩ := Kd.R_own HR6.out
                    obtain ⟨cells, hc9⟩ := own_typed hown k e.symm
                    rw [hk] at hc9
                    injection hc9 with hc9
                    exact hne cells hc9
                  · obtain ⟨inner, hown⟩ := Kd.R_own HR6.out
                    have h8 := own_base hown k e.symm
                    omega
        case rest =>
          obtain ⟨Ai', ci', rfl, rfl, rfl, HSC, HRC, HFC⟩ := hcut
          have HF7 := Aside0.mk (HFR.out.step HFC.out (fun _ _ h => h))
          replace hx1 := cell_fr HFC.out hx1 (World.block_lt_of_cell? _ _ HY1.out)
          replace hx2 := cell_fr HFC.out hx2 (World.block_lt_of_cell? _ _ HY2.out)
          have HLT1 := Aside0.mk (World.block_lt_of_cell? _ _ HY1.out)
          have HLT2 := Aside0.mk (World.block_lt_of_cell? _ _ HY2.out)
          have HKL' := Aside0.mk (show (anyK t l1 i ks).length ≤ i + 1 by rw [HKE.out]; have := HKL.out; split <;> simp <;> omega)
          have hPut := fun (w5 : World) (hf : Fr (fun _ => True) wc w5) => stage_Put.any (x := x) (A0 := Ax) (c0 := cx) (HSC.out.kept hf) (C_fr2 HX4.out (HF7.out.step hf (fun _ _ _ => trivial)) (fun k hk => hk)) HX3.out HIB2.out HOK.out (by have h1 := HTN.out.1; have h2 := HN.out; omega) (by have h1 := HHR.out.len; have h2 := HKL.out; have h3 := HI.out; have h4 := HSO2.out.1; have h5 := HML.out; omega) (fun h1 ad e => by
              obtain ⟨_, ad2, e2, hlt⟩ := C_at2 HX4.out h1
              rw [e] at e2
              injection e2 with e2
              subst e2
              have h9 := HSC.out.new
              omega)
          simp only [HQ.out] at hPut
          have HPUT := Aside0.mk hPut
          have HTS := Aside0.mk (anyT_same t x)
          clear hPut
          generalize anyK t l1 i ks = ks' at HPU HRC HKL' ⊢
          generalize want35 t.n t.used x = wv at HPUT ⊢
          generalize anyT t x = t' at HPU HPUT HTS ⊢
          generalize anyD t d x = d' at HPU HPUT
          have HLT8 := Aside0.mk (show ∀ w5 w6, Fr (fun _ => True) wc w5 → Fr (Off w5 b t d) w5 w6 → (w6.cell? (ad.add (i * 2)) = some (.string x.f0) ∧ w6.cell? ⟨(ad.add (i * 2)).block, (ad.add (i * 2)).off + 1, none⟩ = some (.slice Ax q cx)) from fun w5 w6 h5 h6 =>
            ⟨cell_fr h6 (cell_fr h5 hx1 trivial) ((HSC.out.kept h5).off HLT1.out), cell_fr h6 (cell_fr h5 hx2 trivial) ((HSC.out.kept h5).off HLT2.out)⟩)
          go_wp2_with fail
          have hvo := @valOf_ok
          have HSX := Aside0.mk (show wc.drew.cell? (ad.add (i * 2)) = some (.string x.f0) ∧ wc.drew.cell? ⟨(ad.add (i * 2)).block, (ad.add (i * 2)).off + 1, none⟩ = some (.slice Ax q cx) from ⟨hx1, hx2⟩)
          refine wp_region_mix 33 [(true, 0), (true, 1), (true, 2), (true, 3), (true, 4), (true, 5), (true, 6), (true, 7), (true, 8), (true, 9), (true, 10), (true, 13), (false, 11), (false, 12), (true, 14), (true, 15), (true, 16), (true, 18), (false, 17), (true, 19), (true, 20), (true, 21), (true, 22), (true, 24), (true, 25), (false, 23), (true, 26), (true, 27), (true, 28), (true, 29), (true, 31), (false, 30), (true, 32)] [33] (fun w9 => w9.cell? (ad.add (i * 2)) = some (.string x.f0) ∧ w9.cell? ⟨(ad.add (i * 2)).block, (ad.add (i * 2)).off + 1, none⟩ = some (.slice Ax q cx)) (by kernel_rfl) (by kernel_rfl) (fun _ _ d _ _ h => by cases d <;> exact h) HSX.out ?_
          have HEX : ∃ w8, (fun w9 : World => w9.cell? (ad.add (i * 2)) = some (.string x.f0) ∧ w9.cell? ⟨(ad.add (i * 2)).block, (ad.add (i * 2)).off + 1, none⟩ = some (.slice Ax q cx)) w8 := ⟨wc.drew, HSX.out⟩
          simp only [List.map_cons, List.map_nil, List.getD_cons_zero, List.getD_cons_succ]
          clear hx1 hx2
          repeat (apply mix_held HEX; (case h => intro w9 hS J hJ; have hy1 := hS.1; have hy2 := hS.2; clear hS; go_simp; exact hJ))
          refine mix_step (fun K hK => ?_)
          have HK' := Aside0.mk hK
          clear hK
          go_wp2_with fail
          refine (HPUT.out _ (Fr.refl (fun _ => True) wc).drew).mono ?_
          rintro e w8 ⟨rfl, hs8, hf8⟩
          have HSX8 := Aside0.mk (HLT8.out _ _ (Fr.refl (fun _ => True) wc).drew hf8)
          have HS8 := Aside0.mk hs8
          have HFO := Aside0.mk hf8
          have hu8 := stage_Used.calls b _ w8 hs8.isT
          have hl8 := stage_Len.calls b _ w8 hs8.isT
          rw [HPU.out.len] at hl8
          have HU8 := Aside0.mk hu8
          have HL8 := Aside0.mk hl8
          have c6 : decide ((t'.used : Int) > (n : Int)) = false := decide_eq_false (by have h1 := hs8.fit.1; have h2 := HTS.out.2.2.1; have h3 := HTN.out.1; omega)
          have c6b : decide (n < t'.used) = false := decide_eq_false (by have h1 := hs8.fit.1; have h2 := HTS.out.2.2.1; have h3 := HTN.out.1; omega)
          clear hs8 hf8 hu8 hl8
          go_wp2_with fail
          refine HK'.out _ _ HSX8.out ?_
          clear HK' K
          refine mix_step (fun K hK => ?_)
          have HK' := Aside0.mk hK
          clear hK
          go_wp2_with fail
          refine num35_to ?_
          go_wp2_with fail
          refine HK'.out _ _ HSX8.out ?_
          clear HK' K
          repeat (apply mix_held HEX; (case h => intro w9 hS J hJ; clear hS; go_simp; exact hJ))
          refine mix_step (fun K hK => ?_)
          have HK' := Aside0.mk hK
          clear hK
          go_wp2_with fail
          refine calls_to HU8.out ?_
          go_wp2_with fail
          refine HK'.out _ _ HSX8.out ?_
          clear HK' K
          repeat (apply mix_held HEX; (case h => intro w9 hS J hJ; clear hS; go_simp; exact hJ))
          refine mix_step (fun K hK => ?_)
          have HK' := Aside0.mk hK
          clear hK
          go_wp2_with fail
          refine calls_to HL8.out ?_
          go_wp2_with fail
          refine HK'.out _ _ HSX8.out ?_
          clear HK' K
          repeat (apply mix_held HEX; (case h => intro w9 hS J hJ; clear hS; go_simp; exact hJ))
          refine mix_step (fun K hK => ?_)
          have HK' := Aside0.mk hK
          clear hK
          go_wp2_with fail
          refine calls_to HU8.out ?_
          go_wp2_with fail
          refine HK'.out _ _ HSX8.out ?_
          clear HK' K
          repeat (apply mix_held HEX; (case h => intro w9 hS J hJ; clear hS; go_simp; exact hJ))
          refine mix_nil ?_
          refine post_step (fun K hK => ?_)
          have HK' := Aside0.mk hK
          clear hK
          go_wp2_with fail
          refine HK'.out _ _ (fun h => absurd h (by decide)) ?_
          clear HK' K HEX hvo
          refine post_nil ?_
          have HFD := Aside0.mk (show Fr (fun k => k < w.heap.size) w w8 from ((HF7.out.drew).step HFO.out (fun k _ h => (HSC.out.kept (Fr.refl (fun _ => True) wc).drew).off h)))
          have HRD := Aside0.mk (R_typ (R_fr HRC.out (Fr.refl (fun _ => True) wc).drew (fun _ _ _ => trivial)) HFO.out (fun k cells q hq hc => by
            rcases List.mem_cons.1 hq with rfl | hq
            · exact (HSC.out.kept (Fr.refl (fun _ => True) wc).drew).off_in hc
            · cases hq))
          have HW := Aside0.mk (show wrap64 ((i : Int) + 1) = ((i + 1 : Nat) : Int) by have := HIL.out; have := HSO2.out.1; have := HML.out; unfold wrap64; omega)
          go_wp2_with fail
          try rw [HW.out]
          go_roundg k2
          case measure => exact Nat.lt_succ_self _
          case rel => exact ⟨i + 1, ks', t', d', Ai', ci', rfl, rfl, rfl, ⟨by have := HK.out; omega⟩, ⟨by have := HIL.out; omega⟩, HS8, HPU, HKL', ⟨⟨HTS.out.2.2.1.trans HTN.out.1, HTS.out.2.1.trans HTN.out.2⟩⟩, HRD, HFD⟩
      · have c4 : decide ((i : Int) < (m : Int)) = false := decide_eq_false (by omega)
        have c4b : decide (i < m) = false := decide_eq_false hi
        clear hi
        have HKB := Aside0.mk (show ks.length ≤ 12 by have h1 := HKL.out; have h2 := HI.out; have h3 := HSO2.out.1; have h4 := HML.out; omega)
        have HBO := Aside0.mk (show ∀ k, k < l1.length → Crc.IsBytes (l1.getD k zSIt).f1 ∧ okIt (l1.getD k zSIt) from fun k hk => ⟨HIB.out k hk, HSO2.out.2 k hk⟩)
        go_wp2_with fail
        go_loopg [16] (ks.length + 1) (fun kq v16 wz => ∃ (j : Nat), v16 = .int .i64 (j : Int) ∧ Aside0 (kq + j = ks.length + 1) ∧ Aside0 (j ≤ ks.length) ∧ Aside0 (Fr (fun _ => True) wr wz))
        case atStart => exact ⟨0, rfl, ⟨by omega⟩, ⟨by omega⟩, ⟨Fr.refl _ _⟩⟩
        case round =>
          obtain ⟨j, rfl, HKJ, HJ, HFJ⟩ := hrel
          cases gk with
          | zero => have h1 := HKJ.out; have h2 := HJ.out; omega
          | succ k3 =>
          have HSJ := Aside0.mk (HSR.out.kept HFJ.out)
          have HRJ := Aside0.mk (R_fr HRR.out HFJ.out (fun _ _ _ => trivial))
          have HFZ := Aside0.mk (HFR.out.step HFJ.out (fun _ _ _ => trivial))
          by_cases hj : j < ks.length
          · have c5 : decide ((j : Int) < (ks.length : Int)) = true := decide_eq_true (by omega)
            have c5b : decide (j < ks.length) = true := decide_eq_true hj
            have hj0 : (0 : Int) ≤ (j : Int) := Int.natCast_nonneg _
            have hj1 : (j : Int) < (ks.length : Int) := by omega
            have HJL := Aside0.mk hj
            have HGE := Aside0.mk (stage_Get.has HSJ.out HHR.out hj HBO.out)
            obtain ⟨gi, hgi, hcl⟩ := raw_cells HRJ.out (j := j) (by rw [List.length_map]; exact hj)
            rw [List.getElem_map] at hcl
            subst hgi
            have hkm : ks[j] < m := by rw [← HML.out]; exact HHR.out.lt _ (List.getElem_mem hj)
            obtain ⟨hz0, hz1, hz2, hz3, hz4⟩ := HIR.out ks[j] hkm
            clear hz0 hz1 hz2
            have hb1 := hcl 0 _ rfl
            have hb2 := hcl 1 _ rfl
            rw [Nat.add_zero] at hb1
            obtain ⟨y, hy⟩ : ∃ y, l1.getD ks[j] zSIt = y := ⟨_, rfl⟩
            obtain ⟨Ay, hAy⟩ : ∃ Ay, (f ks[j]).1 = Ay := ⟨_, rfl⟩
            obtain ⟨cy, hcy⟩ : ∃ cy, (f ks[j]).2 = cy := ⟨_, rfl⟩
            rw [hy] at hb1 hb2 hz3 hz4 HGE
            rw [hAy] at hb2 hz4
            rw [hcy] at hb2 hz3
            have HB1 := Aside0.mk hb1
            have HB2 := Aside0.mk hb2
            have HZ3 := Aside0.mk hz3
            have HZ4 := Aside0.mk hz4
            obtain ⟨yl, hyl⟩ : ∃ yl, y.f1.length = yl := ⟨_, rfl⟩
            have HYL := Aside0.mk hyl
            rw [hyl] at HGE HB2
            have HW := Aside0.mk (show wrap64 ((j : Int) + 1) = ((j + 1 : Nat) : Int) by have := HJL.out; have := HKB.out; unfold wrap64; omega)
            clear hj hcl hkm hb1 hb2 hz3 hz4 hy hAy hcy hyl
            go_wp2_with fail
            refine HGE.out.mono ?_
            rintro e w9 ⟨Ag, rfl, hC9, hf9⟩
            have HC9 := Aside0.mk hC9
            have HF9 := Aside0.mk hf9
            have hb1 := cell_fr hf9 HB1.out trivial
            have hb2 := cell_fr hf9 HB2.out trivial
            clear hC9 hf9
            go_wp2_with (first
              | (go_at_call 16; refine num35_to ?_))
            have HSA := firkinref01_Same.calls Ag yl y.f1 Ay cy y.f1 true w9 (by rw [HYL.out]; exact HC9.out) (by rw [HYL.out]; exact Nat.le_refl _) (C_fr2 HZ4.out (HFZ.out.step HF9.out (fun _ _ _ => trivial)) (fun k hk => hk)) HZ3.out (same_self _)
            rw [HYL.out] at HSA
            refine HSA.mono ?_
            clear HSA
            rintro e w10 ⟨rfl, hd10⟩
            have HF10 := Aside0.mk ((HFJ.out.trans HF9.out).trans (Fr.drawn hd10))
            clear hd10 hb1 hb2
            go_wp2_with fail
            try rw [HW.out]
            go_roundg k3
            case measure => exact Nat.lt_succ_self _
            case rel => exact ⟨j + 1, rfl, ⟨by have := HKJ.out; omega⟩, ⟨by have := HJL.out; omega⟩, HF10⟩
          · have c5 : decide ((j : Int) < (ks.length : Int)) = false := decide_eq_false (by omega)
            have c5b : decide (j < ks.length) = false := decide_eq_false hj
            clear hj
            obtain ⟨t7, c7⟩ : ∃ t : Bool, decide (a2 ≥ 0) = t := ⟨_, rfl⟩
            obtain ⟨t8, c8⟩ : ∃ t : Bool, decide (a2 < (ks.length : Int)) = t := ⟨_, rfl⟩
            have hsp2 : (t7 = true ∧ t8 = true) ∨ (t7 = false ∨ (t7 = true ∧ t8 = false)) := by cases t7 <;> cases t8 <;> simp
            rcases hsp2 with ⟨rfl, rfl⟩ | hsp2
            · obtain ⟨j2, hj2⟩ : ∃ j2 : Nat, a2 = (j2 : Int) := ⟨a2.toNat, by have := of_decide_eq_true c7; omega⟩
              subst hj2
              have HGE := Aside0.mk (stage_Get.has HSJ.out HHR.out (i := j2) (by have := of_decide_eq_true c8; omega) HBO.out)
              have c9 : decide (j2 < ks.length) = true := decide_eq_true (by have := of_decide_eq_true c8; omega)
              go_wp2_with fail
              refine HGE.out.mono ?_
              rintro e w9 ⟨Ag, rfl, hC9, hf9⟩
              have HS9 := Aside0.mk (HSJ.out.kept hf9)
              have HF9 := Aside0.mk (HFZ.out.step hf9 (fun _ _ _ => trivial))
              clear hC9 hf9
              go_wp2_with (first
                | (go_at_call 16; refine num35_to ?_))
              refine (stage_Clear.calls b t w9 HS9.out.isT).mono ?_
              rintro e w10 ⟨rfl, ht10, hf10⟩
              have HU10 := Aside0.mk (stage_Used.calls b _ w10 ht10)
              have HL10 := Aside0.mk (stage_Len.calls b _ w10 ht10)
              have HF10 := Aside0.mk (HF9.out.step hf10 (fun k _ (h : k < w.heap.size) => by have := HSJ.out.new; omega))
              clear ht10 hf10
              go_wp2_with (first
                | (go_at_call 19; refine calls_to HU10.out ?_)
                | (go_at_call 20; refine calls_to HL10.out ?_))
              refine (firkinlaw35_live.calls w10).mono ?_
              rintro e w11 ⟨rfl, hf11⟩
              have HF11 := Aside0.mk (HF10.out.step hf11 (fun k hk (h : k < w.heap.size) => by have := HF10.out.size; omega))
              clear hf11
              go_wp2_with fail
              go_ret
              exact ⟨rfl, HF11.out.below (fun k hk => hk) (Nat.le_refl _)⟩
            · have HGE := Aside0.mk (stage_Get.out b t a2 wr HSJ.out.isT (by
                rw [HHR.out.len]
                rcases hsp2 with rfl | ⟨rfl, rfl⟩
                · have := of_decide_eq_false c7; omega
                · have := of_decide_eq_false c8; omega))
              have HS9 := HSJ
              have HF9 := HFZ
              rcases hsp2 with rfl | ⟨rfl, rfl⟩
              all_goals (
                go_wp2_with fail
                refine calls_to HGE.out ?_
                go_wp2_with (first
                  | (go_at_call 16; refine num35_to ?_))
                refine (stage_Clear.calls b t wr HS9.out.isT).mono ?_
                rintro e w10 ⟨rfl, ht10, hf10⟩
                have HU10 := Aside0.mk (stage_Used.calls b _ w10 ht10)
                have HL10 := Aside0.mk (stage_Len.calls b _ w10 ht10)
                have HF10 := Aside0.mk (HF9.out.step hf10 (fun k _ (h : k < w.heap.size) => by have := HSJ.out.new; omega))
                clear ht10 hf10
                go_wp2_with (first
                  | (go_at_call 19; refine calls_to HU10.out ?_)
                  | (go_at_call 20; refine calls_to HL10.out ?_))
                refine (firkinlaw35_live.calls w10).mono ?_
                rintro e w11 ⟨rfl, hf11⟩
                have HF11 := Aside0.mk (HF10.out.step hf11 (fun k hk (h : k < w.heap.size) => by have := HF10.out.size; omega))
                clear hf11
                go_wp2_with fail
                go_ret
                exact ⟨rfl, HF11.out.below (fun k hk => hk) (Nat.le_refl _)⟩)
end Go.Proofs.Ytbkpcepnhjnpgaa.X
