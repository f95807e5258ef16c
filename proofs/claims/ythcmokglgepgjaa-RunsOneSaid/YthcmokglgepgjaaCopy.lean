/- 'copy' over a row of the call's own, told as rows of values: what is copied lies at its beginning then. -/
import Derived.Test.YthcmokglgepgjaaWMore
import Derived.Laws.CopyOwn
import Derived.Lib.Hide
namespace Go.Proofs.Ythcmokglgepgjaa.Copy
open Go Go.RowKit Go.Proofs.YthcmokglgepgjaaW.PrintWords Go.Proofs.YthcmokglgepgjaaW.PrintLast Go.Proofs.YthcmokglgepgjaaW.PrintMore
set_option linter.unusedVariables false
theorem wpList_copy_R {P : Program} {w : World} {ops : Array Oper} {rest : List Oper} {o : Oper} {a : Act} {Q : Exit → Act → World → Prop} (hgd : o.guard = none) (d s : Operand) (dT sT : TypeId)
    (ho : o.op = .call { callee := .builtin .copy, args := #[d, s], argTypes := #[dT, sT] }) (elem : TypeId) (hu : P.underlying dT = some (.slice elem)) (hsz : (P.info? elem).map (·.size) = some 1)
    {α : Type} {enc : α → Value} {h1 : ∀ x, (enc x).oneCell' = true} (dflt : α) {e base B : Nat} {ok : Nat → Prop} {v : Value} {xs ys : List α} {A : Option Addr} {c : Nat} {w0 : World}
    (hd : a.eval d = v) (hs : a.eval s = .slice A ys.length c) (HO : (Kd.scalar enc h1).R e w base ok v xs) (HS : (Kd.scalar enc h1).C w A ys.length ys) (hl : ys.length ≤ xs.length)
    (HB : Below B w0 w) (hbase : B ≤ base)
    (h : ∀ w', Hid ((Kd.scalar enc h1).R e w' base ok v (ys ++ xs.drop ys.length)) → Below B w0 w' → wpList P ops Q rest (a.put o.dst (goInt ys.length)) w') :
    wpList P ops Q (o :: rest) a w := by
  have hown := Kd.own_of_R HO
  have hsrc := Kd.reads_of_C (d := dflt) HS
  have hok := HO.1
  obtain ⟨hn, hv⟩ := hown
  rcases hv with ⟨rfl, hx0⟩ | ⟨g, cap, cur, rfl, hbg, hg, hnc, hcap, hsize, htake⟩
  · have hy0 : ys = [] := List.eq_nil_of_length_eq_zero (by omega)
    subst hy0
    refine wpList_copy_nothing hgd d s dT sT ho elem hu hsz none A 0 0 0 c hd hs (by simp) ?_
    exact h w (Lib.hid (by simpa using HO)) HB
  · have hcurl : cur.toList.length = cap := by simpa using hsize
    have h1e : ∀ v ∈ encs enc ys, v.oneCell' = true := by
      intro u hu
      obtain ⟨x, _, rfl⟩ := List.mem_map.mp hu
      exact h1 x
    have hlen : (encs enc ys).length = ys.length := by simp [encs]
    refine wpList_copy_splice hgd d s dT sT ho elem hu hsz (some ⟨g, 0, none⟩) A xs.length cap ys.length c hd hs g 0 cur.toList e (by simpa using hg) (encs enc ys) (by rw [hlen]; exact (Nat.min_eq_left hl).symm) ?_ (by rw [hlen, hcurl]; omega) h1e B w0 HB (by omega) ?_
    · intro hp
      rw [hlen] at hp
      obtain ⟨ad, rfl, hc⟩ := hsrc.2.2 hp
      refine ⟨rfl, ad, rfl, fun j u hj => ?_⟩
      obtain ⟨hjl, hju⟩ := List.getElem?_eq_some_iff.1 hj
      rw [hlen] at hjl
      rw [hc j hjl, ← hju]
      simp [encs, List.getD_eq_getElem?_getD, List.getElem?_eq_getElem hjl]
    · intro w' hG hB'
      have hG := hG.out
      rw [hlen]
      refine h w' (Lib.hid ?_) hB'
      refine Kd.R_of_own ?_ hok
      have hll : (ys ++ xs.drop ys.length).length = xs.length := by simp; omega
      have hexp : splice cur.toList 0 (encs enc ys) = encs enc ys ++ cur.toList.drop ys.length := by simp [splice, hlen]
      rw [hexp] at hG
      refine ⟨by simp [encs], .inr ⟨g, cap, _, by rw [hll], hbg, hG, by omega, hcap, ?_, ?_⟩⟩
      · simp [hlen]; omega
      · rw [hll, Nat.mul_one]
        rw [Nat.mul_one] at htake
        have : (encs enc ys ++ cur.toList.drop ys.length).take xs.length = encs enc ys ++ (cur.toList.drop ys.length).take (xs.length - ys.length) := by
          rw [List.take_append, hlen, List.take_of_length_le (by omega)]
        rw [this, ← List.drop_take, htake]
        simp [encs]
end Go.Proofs.Ythcmokglgepgjaa.Copy
