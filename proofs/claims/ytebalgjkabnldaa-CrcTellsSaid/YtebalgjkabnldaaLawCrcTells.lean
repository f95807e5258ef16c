/- The law CrcTells, walked: bytes of which up to four neighbours are others have another sum. -/
import Derived.Test.YtebalgjkabnldaaX3
import Derived.Test.YtebalgjkabnldaaCrcLive
import Derived.Test.YtebalgjkabnldaaMem2
import Derived.Deep.RegionHeld3
import Derived.StillTailTactics
import Derived.Lib.Hide
namespace Go.Proofs.Ytebalgjkabnldaa.X
open Go.RowKit Go.Proofs.YtebalgjkabnldaaW.PrintWords Go.Proofs.YtebalgjkabnldaaW.PrintLast Go.Proofs.YtebalgjkabnldaaW.PrintMore
set_option linter.unusedVariables false
set_option linter.unusedSimpArgs false
def byT (t0 t1 t2 t3 : Int) : Nat → Int
  | 0 => t0
  | 1 => t1
  | 2 => t2
  | _ => t3
/-- Bytes of which the n bytes from a place on are turned. -/
def turnN (l : List Int) (a : Nat) (t : Nat → Int) : Nat → List Int
  | 0 => l
  | n + 1 => (turnN l a t n).set (a + n) (Go.bits .xor .u8 ((turnN l a t n).getD (a + n) 0) (t n))
theorem turnN_len (l : List Int) (a : Nat) (t : Nat → Int) (n : Nat) : (turnN l a t n).length = l.length := by
  induction n with
  | zero => rfl
  | succ n ih => rw [turnN, List.length_set, ih]
def anyN (t : Nat → Int) : Nat → Bool
  | 0 => false
  | n + 1 => anyN t n || (t n != 0)
def few (l : List Int) (a : Nat) : Nat := min 4 (l.length - a)
theorem by_cell {w : World} {g : Nat} {e : TypeId} {t0 t1 t2 t3 : Int} (h : w.heap[g]? = some (.cells #[.int .u8 t0, .int .u8 t1, .int .u8 t2, .int .u8 t3] e (0, 0))) (i : Nat) (hi : i < 4) : w.cell? ⟨g, i, none⟩ = some (.int .u8 (byT t0 t1 t2 t3 i)) := by
  rw [blk_cell h i]
  match i, hi with
  | 0, _ | 1, _ | 2, _ | 3, _ => rfl
def firkinlaw02_CrcTells.f (k : Nat) (l0 : List Int) (a1 t0 t1 t2 t3 : Int) : Option Bool :=
  if 1000 < l0.length ∨ a1 < 0 ∨ (l0.length : Int) ≤ a1 then some true else
  (crc_Of.f k [l0]).bind fun s => (crc_Of.f k [turnN l0 a1.toNat (byT t0 t1 t2 t3) (few l0 a1.toNat)]).bind fun u => if (s != u) = anyN (byT t0 t1 t2 t3) (few l0 a1.toNat) then some true else none
set_option maxHeartbeats 8000000 in
set_option maxRecDepth 100000 in
theorem firkinlaw02_CrcTells.calls (k : Nat) (A0 : Option Addr) (c0 : Nat) (l0 : List Int) (a1 t0 t1 t2 t3 : Int) (r : Bool) (w : World) (hr0 : Kd.C (Kd.int .u8) w A0 l0.length l0) (hc0 : l0.length ≤ c0) (h : firkinlaw02_CrcTells.f k l0 a1 t0 t1 t2 t3 = some r) :
    Calls Try.prog 5 #[.slice A0 l0.length c0, .int .i64 a1, .agg #[.int .u8 t0, .int .u8 t1, .int .u8 t2, .int .u8 t3]] w fun e w' => e = .returned (.bool r) ∧ Below w.heap.size w w' := by
  unfold firkinlaw02_CrcTells.f at h
  have hu := Try.underlying31
  have HR0 := Aside0.mk hr0
  have hm0 := Kd.C_max hr0
  clear hr0
  by_cases hl : 1000 < l0.length ∨ a1 < 0 ∨ (l0.length : Int) ≤ a1
  · rw [if_pos hl] at h
    obtain rfl := Option.some.inj h
    obtain ⟨b1, hb1⟩ : ∃ b_ : Bool, decide ((1000 : Int) < (l0.length : Int)) = b_ := ⟨_, rfl⟩
    obtain ⟨b2, hb2⟩ : ∃ b_ : Bool, decide (a1 < 0) = b_ := ⟨_, rfl⟩
    obtain ⟨b3, hb3⟩ : ∃ b_ : Bool, decide ((l0.length : Int) ≤ a1) = b_ := ⟨_, rfl⟩
    have hx : (b1 || (b2 || b3)) = true := by rw [← hb1, ← hb2, ← hb3]; simp only [Bool.or_eq_true, decide_eq_true_eq]; omega
    clear hl h
    cases b1 <;> cases b2 <;> cases b3 <;> first
      | (exact absurd hx (by decide))
      | (clear hx
         go_enter Try.func5, Try.ntmps5
         go_wp2_with fail
         refine (firkinlaw02_live.calls true _ rfl).mono ?_
         rintro e w1 ⟨rfl, hb1⟩
         go_wp2_with fail
         go_ret
         exact ⟨rfl, below_step (below_alloc (Below.refl _ _) _) hb1⟩)
  rw [if_neg hl] at h
  obtain ⟨q, rfl⟩ := Int.eq_ofNat_of_zero_le (a := a1) (by omega)
  have hlen : l0.length ≤ 1000 := by omega
  have hq : q < l0.length := by omega
  rw [Int.toNat_natCast] at h
  obtain ⟨s, e1, h⟩ := Option.bind_eq_some_iff.mp h
  obtain ⟨u, e2, h⟩ := Option.bind_eq_some_iff.mp h
  by_cases hsu : (s != u) = anyN (byT t0 t1 t2 t3) (few l0 q)
  case neg => rw [if_neg hsu] at h; cases h
  rw [if_pos hsu] at h
  obtain rfl := Option.some.inj h
  have E1 := Aside0.mk e1
  have E2 := Aside0.mk e2
  have HSU := Aside0.mk hsu
  have hb1 : decide ((1000 : Int) < (l0.length : Int)) = false := decide_eq_false (by omega)
  have hb2 : decide ((q : Int) < 0) = false := decide_eq_false (by omega)
  have hb3 : decide ((l0.length : Int) ≤ (q : Int)) = false := decide_eq_false (by omega)
  have hb4 : decide (l0.length ≤ q) = false := decide_eq_false (by omega)
  clear e1 e2 h hsu hl
  go_enter Try.func5, Try.ntmps5
  go_upto_region 3 with (fail)
  have BKW := Aside0.mk (Mem.alloc_new w (.cells #[.int .u8 t0, .int .u8 t1, .int .u8 t2, .int .u8 t3] 31))
  have HBW := Aside0.mk (below_alloc (Below.refl w.heap.size w) (.cells #[.int .u8 t0, .int .u8 t1, .int .u8 t2, .int .u8 t3] 31))
  have HRW := Aside0.mk (Kd.C_below HR0.out HBW.out)
  generalize w.alloc (.cells #[.int .u8 t0, .int .u8 t1, .int .u8 t2, .int .u8 t3] 31) = W at BKW HBW HRW ⊢
  go_wp2_with (first | ((with_reducible refine gate_dst (N := 24) rfl ?_); refine Kd.R_lit (Kd.int .u8) _ 5 ?hg (N := 24) ?hd (xs := ([] : List Int)) (inner := []) (ok := fun _ => True) (okp := fun _ => True) ?hr ?hp (fun _ hk => hk) trivial (Below.refl _ _) (Nat.le_refl _) (by simp) ?_; (case hd => rfl); (case hg => rfl); (case hr => first | (go_simp; done) | (go_simp; rfl)); (case hp => exact (Reps.none _ _)); intro v205 w2 ho3 hb hg_ hnew_; clear hg_ hnew_; have HO := Aside0.mk ho3; have HB := Aside0.mk hb; clear ho3 hb) | ((with_reducible refine gate_builtin (b := .append) (xs := #[.tmp 24, .tmp 25]) rfl ?_); at_builtin; refine Kd.R_append_rows (Kd.int .u8) (w0 := W) W.heap.size rfl (.tmp 24) (.tmp 25) 22 5 (.int .u8 0) 1 rfl Try.underlying22 info5 rfl (by decide) (by omega) v205 [] l0 _ _ _ (fun _ => True) (fun _ => False) rfl rfl HO.out (Kd.C_below HRW.out HB.out) (fun _ _ h => h) (fun _ h => h.elim) (fun _ _ => trivial) HB.out (below_size HB.out) (by rw [List.length_nil]; omega) ?_; intro v4 w4 ho hb hg hat; have HO4 := Aside0.mk ho; have HB4 := Aside0.mk hb; clear HO HB ho hb hg hat))
  have ho4 := HO4.out
  rw [List.nil_append] at ho4
  obtain ⟨go, co, eo, gb, gl, cl, _⟩ := Kd.R_form ho4 (by omega)
  subst eo
  have HO5 := Aside0.mk ho4
  clear ho4 HO4
  go_loopg [8, 9] (few l0 q) (fun kq v8 v9 w' => ∃ (i : Nat), v9 = .int .i64 (i : Int) ∧ v8 = .bool (anyN (byT t0 t1 t2 t3) i) ∧ kq + i = few l0 q ∧ Aside0 (Kd.R (Kd.int .u8) 5 w' W.heap.size (fun _ => True) (.slice (some ⟨go, 0, none⟩) l0.length co) (turnN l0 q (byT t0 t1 t2 t3) i)) ∧ Aside0 (Below W.heap.size W w'))
  case atStart => exact ⟨0, rfl, rfl, by omega, HO5, HB4⟩
  case round =>
    clear HO5 HB4
    obtain ⟨i, rfl, rfl, hi, HR, HB⟩ := hrel
    have hfew : few l0 q ≤ 4 ∧ few l0 q ≤ l0.length - q ∧ (few l0 q = 4 ∨ few l0 q = l0.length - q) := by unfold few; omega
    cases gk with
    | zero =>
      obtain rfl : i = few l0 q := by omega
      have hT := turnN_len l0 q (byT t0 t1 t2 t3) (few l0 q)
      obtain ⟨b5, hb5⟩ : ∃ b_ : Bool, decide (((few l0 q : Nat) : Int) < 4) = b_ := ⟨_, rfl⟩
      obtain ⟨b6, hb6⟩ : ∃ b_ : Bool, decide (((few l0 q : Nat) : Int) < (l0.length : Int) - (q : Int)) = b_ := ⟨_, rfl⟩
      have hx : (b5 && b6) = false := by rw [← hb5, ← hb6]; simp only [Bool.and_eq_false_iff, decide_eq_false_iff_not]; omega
      have C2 := (Kd.R_reads' HR.out).2.2
      have hc2 := (Kd.R_reads' HR.out).2.1
      have HSU2 := HSU.out
      generalize turnN l0 q (byT t0 t1 t2 t3) (few l0 q) = l2 at HR E2 hT C2 hc2
      generalize anyN (byT t0 t1 t2 t3) (few l0 q) = ba at HSU2 ⊢
      generalize few l0 q = fw at hb5 hb6 ⊢
      obtain ⟨bs, hbs⟩ : ∃ b_ : Bool, (s != u) = b_ := ⟨_, rfl⟩
      rw [hbs] at HSU2
      obtain rfl := HSU2
      have HC2 := Aside0.mk C2
      clear HSU HR hfew hi C2
      have HX := Aside0.mk hx
      have hbb : ∀ b : Bool, (b == b) = true := fun b => by cases b <;> rfl
      have hT2 := Aside0.mk hT
      clear hx hT
      have hC2' : Aside0 (Kd.C (Kd.int .u8) wr (some ⟨go, 0, none⟩) l2.length l2) := ⟨HC2.out⟩
      cases b5 <;> cases b6 <;> first
        | (exact absurd HX.out (by decide))
        | (go_wp2_with fail
           refine (crc_Of.calls k _ 1 [l0] s _ (Mem.C_one (Mem.alloc_new wr _) rfl hc0 (Kd.C_below (Kd.C_below HRW.out HB.out) (below_alloc (Below.refl _ _) _))) (Nat.le_refl _) E1.out).mono ?_
           rintro e w6 ⟨rfl, ⟨n1, rfl⟩⟩
           have hB1 := pw_below_drewN (below_alloc HB.out (.cells #[.slice A0 l0.length c0] 22)) n1
           have hD1 := Kd.C_drewN (Kd.C_below hC2'.out (below_alloc (Below.refl _ _) (.cells #[.slice A0 l0.length c0] 22))) n1
           generalize (wr.alloc (.cells #[.slice A0 l0.length c0] 22)).drewN n1 = w7 at hB1 hD1 ⊢
           go_wp2_with fail
           refine (crc_Of.calls k _ 1 [l2] u _ (Mem.C_one (Mem.alloc_new w7 _) (by rw [hT2.out]; rfl) (by rw [hT2.out]; exact hc2) (Kd.C_below hD1 (below_alloc (Below.refl _ _) _))) (Nat.le_refl _) E2.out).mono ?_
           rintro e w8 ⟨rfl, ⟨n2, rfl⟩⟩
           have hB2 := pw_below_drewN (below_alloc hB1 (.cells #[.slice (some ⟨go, 0, none⟩) l0.length co] 22)) n2
           generalize (w7.alloc (.cells #[.slice (some ⟨go, 0, none⟩) l0.length co] 22)).drewN n2 = w9 at hB2 ⊢
           clear hB1 hD1
           cases bs <;> (
             go_wp2_with fail
             refine (firkinlaw02_live.calls true _ rfl).mono ?_
             rintro e w10 ⟨rfl, hb10⟩
             go_wp2_with fail
             go_ret
             exact ⟨rfl, below_step (below_step HBW.out hB2) hb10⟩))
    | succ k2 =>
      have hi4 : i < 4 := by omega
      have hil : i < l0.length - q := by omega
      have hb5 : decide ((i : Int) < 4) = true := decide_eq_true (by omega)
      have hb6 : decide ((i : Int) < (l0.length : Int) - (q : Int)) = true := decide_eq_true (by omega)
      have hlt := blk_lt BKW.out
      have hT := turnN_len l0 q (byT t0 t1 t2 t3) i
      obtain ⟨hx2, hf2⟩ := Kd.R_celln (0 : Int) HR.out ((q + i : Nat) : Int) (by omega) (by omega)
      have HP := Kd.R_putg HR.out ((q + i : Nat) : Int) (Go.bits .xor .u8 ((turnN l0 q (byT t0 t1 t2 t3) i).getD (q + i) 0) (byT t0 t1 t2 t3 i))
      have hy := by_cell (blk_below BKW.out HB.out) i hi4
      have hrd : rdOf (0 : Int) (turnN l0 q (byT t0 t1 t2 t3) i) ((q + i : Nat) : Int) = (turnN l0 q (byT t0 t1 t2 t3) i).getD (q + i) 0 := by rw [rdOf, Int.toNat_natCast]
      rw [hrd] at hx2
      rw [Int.toNat_natCast] at hx2 hf2 HP
      have HPn : Aside0 (turnN l0 q (byT t0 t1 t2 t3) (i + 1) = (turnN l0 q (byT t0 t1 t2 t3) i).set (q + i) (Go.bits .xor .u8 ((turnN l0 q (byT t0 t1 t2 t3) i).getD (q + i) 0) (byT t0 t1 t2 t3 i))) := ⟨rfl⟩
      have HA : Aside0 (anyN (byT t0 t1 t2 t3) (i + 1) = (anyN (byT t0 t1 t2 t3) i || (byT t0 t1 t2 t3 i != 0))) := ⟨rfl⟩
      have HP1 := Aside0.mk HP.1
      clear hrd HP
      generalize (turnN l0 q (byT t0 t1 t2 t3) i).getD (q + i) 0 = p at hx2 HP1 HPn
      generalize byT t0 t1 t2 t3 i = y at hy HP1 HPn HA
      have HB1 := Aside0.mk (below_set (g := go) (j := q + i) (v := .int .u8 (Go.bits .xor .u8 p y)) HB.out gb)
      have hw1 : IntKind.i64.wrap ((q : Int) + (i : Int)) = (q : Int) + (i : Int) := IntWalk.i64_in _ (by omega)
      have hw2 : (0 : Int) ≤ (q : Int) + (i : Int) := by omega
      have hw3 : ((q : Int) + (i : Int)).toNat = q + i := by omega
      have hw4 : (q : Int) + (i : Int) < (l0.length : Int) := by omega
      have hw5 : (0 : Int) ≤ (i : Int) := by omega
      have hw6 : (i : Int) < 4 := by omega
      have hne : w.heap.size ≠ go := by omega
      obtain ⟨ba, hba⟩ : ∃ b, anyN (byT t0 t1 t2 t3) i = b := ⟨_, rfl⟩
      obtain ⟨by_, hby⟩ : ∃ b, (y != 0) = b := ⟨_, rfl⟩
      rw [hba, hby] at HA
      rw [hba]
      clear hba HR
      go_wp2_with fail
      go_still_tail 15, (by kernel_rfl)
      change wpList _ _ _ _ _ wr.drew
      have hx3 : wr.drew.cell? ⟨go, q + i, none⟩ = some (.int .u8 p) := hx2
      have hf3 : wr.drew.frozen? ⟨go, q + i, none⟩ = false := hf2
      have hy3 : wr.drew.cell? ⟨w.heap.size, i, none⟩ = some (.int .u8 y) := hy
      have HP2 : Aside0 (Kd.R (Kd.int .u8) 5 (wr.drew.setCell ⟨go, q + i, none⟩ (.int .u8 (Go.bits .xor .u8 p y))) W.heap.size (fun _ => True) (.slice (some ⟨go, 0, none⟩) l0.length co) ((turnN l0 q (byT t0 t1 t2 t3) i).set (q + i) (Go.bits .xor .u8 p y))) := ⟨Kd.R_drew HP1.out⟩
      have HB2 : Aside0 (Below W.heap.size W (wr.drew.setCell ⟨go, q + i, none⟩ (.int .u8 (Go.bits .xor .u8 p y)))) := ⟨below_drew HB1.out⟩
      clear hx2 hf2 hy HP1 HB1 HB
      generalize wr.drew = w5 at hx3 hf3 hy3 HP2 HB2 ⊢
      rw [← HPn.out] at HP2
      cases ba <;> cases by_ <;> (
        go_wp2_with fail
        go_roundg k2
        case measure => omega
        case rel => exact ⟨i + 1, by go_num, congrArg Value.bool HA.out.symm, by omega, HP2, HB2⟩)
end Go.Proofs.Ytebalgjkabnldaa.X
