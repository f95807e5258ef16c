/- What a Put of a stage answers, in all cases; what a stage has; what is got again. -/
import Derived.Test.YtbkpcepnhjnpgaaStagePlain
namespace Go.Proofs.Ytbkpcepnhjnpgaa.X
open Go.RowKit Go.Maps Go.Proofs.YtbkpcepnhjnpgaaW.PrintWords Go.Proofs.YtbkpcepnhjnpgaaW.PrintLast Go.Proofs.YtbkpcepnhjnpgaaW.PrintMore
set_option linter.unusedVariables false
set_option linter.unusedSimpArgs false
def want35 (n used : Nat) (x : SIt) : Int := if wname x.f0 = false ∨ x.f1.length = 0 then 1 else if n < used + nsec x.f1.length then 7 else 0
def anyT (t : TS) (x : SIt) : TS := if want35 t.n t.used x = 0 then putT t x.f0 x.f1 ((Crc.more 0 x.f1 : Nat) : Int) else t
def anyD (t : TS) (d : DS) (x : SIt) : DS := if want35 t.n t.used x = 0 then laidD d (t.frm + t.used) x.f1 else d
theorem anyD_same (t : TS) (d : DS) (x : SIt) : (anyD t d x).bw = d.bw ∧ (anyD t d x).bm = d.bm ∧ (anyD t d x).bs = d.bs ∧ (anyD t d x).n = d.n := by
  unfold anyD; split <;> exact ⟨rfl, rfl, rfl, rfl⟩
theorem anyT_same (t : TS) (x : SIt) : (anyT t x).bd = t.bd ∧ (anyT t x).frm = t.frm ∧ (anyT t x).n = t.n ∧ (anyT t x).B = t.B := by
  unfold anyT; split <;> exact ⟨rfl, rfl, rfl, rfl⟩
theorem stage_Put.any {n0 : Nat} {b : Nat} {t : TS} {d : DS} {x : SIt} {A0 : Option Addr} {c0 : Nat} {w : World} (h : SS n0 w b t d) (hx : Kd.C (Kd.int .u8) w A0 x.f1.length x.f1) (hc : x.f1.length ≤ c0) (hb : Crc.IsBytes x.f1) (hk : okIt x) (hn : t.n ≤ 1024)
    (hil : t.its.length ≤ 100000) (hA : 1 ≤ x.f1.length → ∀ ad, A0 = some ad → ad.block ≠ d.bw ∧ ad.block ≠ d.bm ∧ ad.block ≠ d.bs) :
    Calls Try.prog 18 #[.pointer (some ⟨b, 0, none⟩), .string x.f0, .slice A0 x.f1.length c0] w fun e w' => e = .returned (.int .i64 (want35 t.n t.used x)) ∧ SS n0 w' b (anyT t x) (anyD t d x) ∧ Fr (Off w b t d) w w' := by
  unfold okIt at hk
  by_cases h1 : wname x.f0 = false ∨ x.f1.length = 0
  · have e1 : want35 t.n t.used x = 1 := by unfold want35; rw [if_pos h1]
    rw [show anyT t x = t by unfold anyT; rw [e1]; rfl, show anyD t d x = d by unfold anyD; rw [e1]; rfl, e1]
    refine (stage_Put.arg b t x.f0 A0 x.f1.length c0 w h.isT (by omega) h1).mono ?_
    rintro e w' ⟨rfl, hf⟩
    exact ⟨rfl, h.kept hf, hf.mono (fun _ _ _ => trivial)⟩
  · by_cases h2 : t.n < t.used + nsec x.f1.length
    · have e1 : want35 t.n t.used x = 7 := by unfold want35; rw [if_neg h1, if_pos h2]
      rw [show anyT t x = t by unfold anyT; rw [e1]; rfl, show anyD t d x = d by unfold anyD; rw [e1]; rfl, e1]
      refine (stage_Put.full b t x.f0 A0 x.f1.length c0 w h.isT (by omega) (by revert h1; cases wname x.f0 <;> simp) (by omega) (by omega) h.fit.1 hn h2).mono ?_
      rintro e w' ⟨rfl, hf⟩
      exact ⟨rfl, h.kept hf, hf.mono (fun _ _ _ => trivial)⟩
    · have e1 : want35 t.n t.used x = 0 := by unfold want35; rw [if_neg h1, if_neg h2]
      rw [show anyT t x = putT t x.f0 x.f1 ((Crc.more 0 x.f1 : Nat) : Int) by unfold anyT; rw [if_pos e1], show anyD t d x = laidD d (t.frm + t.used) x.f1 by unfold anyD; rw [if_pos e1], e1]
      exact stage_Put.ss h hx hc (by omega) (by revert h1; cases wname x.f0 <;> simp) hb (by omega) (by omega) (by omega) hil (hA (by omega))
/-- What a stage has of a list: the items whose numbers are given. -/
structure Has (l : List SIt) (t : TS) (d : DS) (ks : List Nat) : Prop where
  len : t.its.length = ks.length
  lt : ∀ k ∈ ks, k < l.length
  at_ : ∀ j (hj : j < t.its.length) (hj' : j < ks.length), ∃ a : Nat, t.its[j].f0 = (l.getD ks[j] zSIt).f0 ∧ t.its[j].f1 = (a : Int) ∧ t.its[j].f2 = ((l.getD ks[j] zSIt).f1.length : Int) ∧ t.its[j].f3 = ((Crc.more 0 (l.getD ks[j] zSIt).f1 : Nat) : Int) ∧
    a + nsec (l.getD ks[j] zSIt).f1.length ≤ t.used ∧ (secs d (t.frm + a) (nsec (l.getD ks[j] zSIt).f1.length)).take (l.getD ks[j] zSIt).f1.length = (l.getD ks[j] zSIt).f1 ∧ 1 ≤ (l.getD ks[j] zSIt).f1.length
def anyK (t : TS) (l : List SIt) (i : Nat) (ks : List Nat) : List Nat := if want35 t.n t.used (l.getD i zSIt) = 0 then ks ++ [i] else ks
theorem Has.nil (l : List SIt) (bd frm n B : Nat) (d : DS) : Has l (newT bd frm n B) d [] := ⟨rfl, fun k h => by simp at h, fun j hj => by simp [newT] at hj⟩
theorem Has.put {l : List SIt} {t : TS} {d : DS} {ks : List Nat} {i : Nat} (h : Has l t d ks) (hw : d.wait = fun _ => none) (hi : i < l.length) : Has l (anyT t (l.getD i zSIt)) (anyD t d (l.getD i zSIt)) (anyK t l i ks) := by
  unfold anyT anyD anyK
  by_cases e : want35 t.n t.used (l.getD i zSIt) = 0
  · simp only [if_pos e]
    refine ⟨?_, ?_, ?_⟩
    · simp [putT, h.len]
    · intro k hk
      rcases List.mem_append.mp hk with hk | hk
      · exact h.lt k hk
      · rw [List.mem_singleton.mp hk]; exact hi
    · intro j hj hj'
      have hlen : (putT t (l.getD i zSIt).f0 (l.getD i zSIt).f1 ((Crc.more 0 (l.getD i zSIt).f1 : Nat) : Int)).its.length = t.its.length + 1 := by simp [putT]
      by_cases hjk : j < t.its.length
      · have hj2 : j < ks.length := by rw [← h.len]; exact hjk
        obtain ⟨a, h1, h2, h3, h4, h5, h6, h7⟩ := h.at_ j hjk hj2
        have ek : (ks ++ [i])[j] = ks[j] := List.getElem_append_left hj2
        have et : (putT t (l.getD i zSIt).f0 (l.getD i zSIt).f1 ((Crc.more 0 (l.getD i zSIt).f1 : Nat) : Int)).its[j] = t.its[j] := by simp only [putT]; exact List.getElem_append_left hjk
        rw [ek, et]
        refine ⟨a, h1, h2, h3, h4, ?_, ?_, h7⟩
        · show a + _ ≤ t.used + _; omega
        · show (secs (laidD d (t.frm + t.used) _) (t.frm + a) _).take _ = _
          rw [secs_old d hw _ _ _ _ (by omega)]; exact h6
      · have hje : j = t.its.length := by omega
        subst hje
        have ek : (ks ++ [i])[t.its.length] = i := by
          rw [List.getElem_append_right (by rw [h.len]; exact Nat.le_refl _)]; simp [h.len]
        have et : (putT t (l.getD i zSIt).f0 (l.getD i zSIt).f1 ((Crc.more 0 (l.getD i zSIt).f1 : Nat) : Int)).its[t.its.length] = ⟨(l.getD i zSIt).f0, t.used, (l.getD i zSIt).f1.length, ((Crc.more 0 (l.getD i zSIt).f1 : Nat) : Int)⟩ := by
          simp only [putT]; rw [List.getElem_append_right (Nat.le_refl _)]; simp
        rw [ek, et]
        refine ⟨t.used, rfl, rfl, rfl, rfl, ?_, secs_new d _ _, ?_⟩
        · show t.used + _ ≤ t.used + _; omega
        · unfold want35 at e
          by_cases h1 : wname (l.getD i zSIt).f0 = false ∨ (l.getD i zSIt).f1.length = 0
          · rw [if_pos h1] at e; cases e
          · omega
  · simp only [if_neg e]
    exact h
theorem now_len {w : World} {b : Nat} {d : DS} (h : IsD w b d) (hw : d.wait = fun _ => none) : ∀ j, j < d.n → (d.now j).length = 64 := by
  obtain ⟨arr, _, _, _, hl⟩ := h.2.1
  intro j hj
  unfold DS.now
  rw [hw]
  exact hl j hj
/-- What is got again is what was staged. -/
theorem stage_Get.has {n0 : Nat} {l : List SIt} {ks : List Nat} {b : Nat} {t : TS} {d : DS} {i : Nat} {w : World} (h : SS n0 w b t d) (hh : Has l t d ks) (hi : i < ks.length) (hb : ∀ k, k < l.length → Crc.IsBytes (l.getD k zSIt).f1 ∧ okIt (l.getD k zSIt)) :
    Calls Try.prog 21 #[.pointer (some ⟨b, 0, none⟩), .int .i64 (i : Int)] w fun e w' => ∃ A, e = .returned (.tuple #[.string (l.getD ks[i] zSIt).f0, .slice A (l.getD ks[i] zSIt).f1.length (l.getD ks[i] zSIt).f1.length, .int .i64 0]) ∧ Kd.C (Kd.int .u8) w' A (l.getD ks[i] zSIt).f1.length (l.getD ks[i] zSIt).f1 ∧ Fr (fun _ => True) w w' := by
  have hi2 : i < t.its.length := by rw [hh.len]; exact hi
  obtain ⟨a, h1, h2, h3, h4, h5, h6, h7⟩ := hh.at_ i hi2 hi
  have hbk := hb ks[i] (hh.lt _ (List.getElem_mem hi))
  have hok := hbk.2
  unfold okIt at hok
  have hfit := h.fit
  have hg := stage_Get.calls (1000000 + 2 + 1) b t d i a (l.getD ks[i] zSIt).f1.length ((Crc.more 0 (l.getD ks[i] zSIt).f1 : Nat) : Int) w h.isT h.isD h.live hi2 h2 h3 h7 (by omega) (by omega) (now_len h.isD h.wt) (by rw [h6]; exact crc_some _ hbk.1 (by omega))
  refine hg.mono ?_
  rintro e w' ⟨hr, hf⟩
  rcases hr with ⟨_, A, rfl, hC⟩ | ⟨hne, _⟩
  · rw [h6] at hC
    exact ⟨A, by rw [h1], hC, hf⟩
  · exact absurd h4.symm hne
end Go.Proofs.Ytbkpcepnhjnpgaa.X
