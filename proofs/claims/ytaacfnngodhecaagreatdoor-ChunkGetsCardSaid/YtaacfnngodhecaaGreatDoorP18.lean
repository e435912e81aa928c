/- Lemmas for the walk: WK42, WR29, U43, WK39, WK39b, WK27, WK28, WD20, WR31. -/
import Derived.Test.YtaacfnngodhecaaGreatDoorP17
import Derived.Test.YtaacfnngodhecaaGreatDoorP14
import Derived.Test.YtaacfnngodhecaaGreatDoorP10
import Derived.Test.YtaacfnngodhecaaGreatDoorRows
import Derived.ProofKit
import Derived.OpenShut
import Derived.LaidMore
import Derived.Lay
import Derived.Test.YtaacfnngodhecaaGreatDoorP15
import Derived.Test.YtaacfnngodhecaaGreatDoorP16
import Derived.Test.YtaacfnngodhecaaGreatDoorP13
import Derived.Test.YtaacfnngodhecaaGreatDoorP12
import Derived.Test.YtaacfnngodhecaaGreatDoorP09
set_option linter.all false
section
namespace Go.Proofs.YtaacfnngodhecaaGreatDoor
open Go.Tx
set_option maxRecDepth 100000
set_option maxHeartbeats 1000000
def Pcx.x (p : Pcx) (i : Nat) : Nat × Nat := p.l.getD i (0, 0)
def Pcx.fa (p : Pcx) : Nat → Nat
 | 0 => p.b % 50000
 | i + 1 => p.fa i + 1 + (p.x i).2
def Pcx.sk (p : Pcx) (i : Nat) : List (Nat × Nat) := (List.range i).map fun j => (p.fa j, (p.x j).1 * (p.x j).2)
def Pcx.n (p : Pcx) : Nat := min p.l.length 30
theorem Pcx.sk_succ (p : Pcx) (i : Nat) : p.sk (i + 1) = p.sk i ++ [(p.fa i, (p.x i).1 * (p.x i).2)] := by simp [Pcx.sk, List.range_succ]
theorem Pcx.sk_len (p : Pcx) (i : Nat) : (p.sk i).length = i := by simp [Pcx.sk]
theorem Pcx.Ok.x {p : Pcx} (h : p.Ok) (i : Nat) : (p.x i).1 < 256 ∧ (p.x i).2 < 256 := by
 unfold Pcx.x
 rw [List.getD_eq_getElem?_getD]
 cases hi : p.l[i]? with
 | none => simp
 | some y => simpa using h.l y (List.mem_of_getElem? hi)
theorem Pcx.row_at {p : Pcx} {i : Nat} (h : i < p.l.length) : (p.l.map e2).getD i [] = [.int .u8 (p.x i).1, .int .u8 (p.x i).2] := by
 simp [Pcx.x, e2, List.getD_eq_getElem?_getD, h]
theorem Pcx.fa_le {p : Pcx} (h : p.Ok) : ∀ i, p.fa i ≤ 49999 + 256 * i
 | 0 => by simp only [Pcx.fa]; omega
 | i + 1 => by have := Pcx.fa_le h i; have := (h.x i).2; simp only [Pcx.fa]; omega
theorem pForward_ok {F : SF} {L nx : Nat} (p : Pcx) (hp : p.Ok) : Con Tryz.prog 33 [.agg p.row] F L nx nx (fwdP p.a ((p.sk p.n).map kN)) [] [] := by
 have hx := hp.x
 have hfa := Pcx.fa_le hp
 obtain ⟨hw, ha, hb, hc, hd, hl, hll, hpl⟩ := hp
 have tb : (p.b : Int).tmod 50000 = ((p.b % 50000 : Nat) : Int) := tmL p.b 50000 (by omega)
 refine bdy Tryz.f33 ?_
 intro F3 hF1 hF2
 simp only [Tryz.f33, cx, Pcx.row, tb, Nat.add_zero, go_sem, meths]
 repeat refine sd2 ?_
 refine loopK.intro _ _ (I := fun z : Nat × Nat => ⟨[none, some (.ptr ⟨L + 1, 0⟩ 0 0), some (.ptr ⟨L + 1, 32⟩ 0 0), some (.ptr ⟨L + 1, 224⟩ 0 0), some (.int .i64 (p.fa z.1)), some (.int .i64 z.1), none, none, none, none, none, none, none, none, none, none, none, none, none, none, none, none, none, none, none, none, none, none, none, none, none, none, none, none, none, none, none, none, none, none, none, none, none, none, none, none, none, none, none, none, none, none, none, none, none, none, none, none, none, none],
  [(⟨L + 1, 0⟩, .rows 65 7 true true [p.row]), (⟨L + 1, 32⟩, .rows 59 2 true true [[.int .i64 0, .nilS]]), (⟨L + 1, 224⟩, .rows 59 2 true false [[.int .i64 p.a, .sl ⟨L + 1, z.2⟩ 0 z.1]]), (⟨L + 1, z.2⟩, .rows 118 2 true true (((p.sk z.1).map kN).map kE))], 10000 * (z.1 + 1)⟩)
  (pre := fun z => z.1 ≤ p.n ∧ 512 ≤ z.2 ∧ z.2 < 10000 * (z.1 + 1)) (μ := fun z => p.n - z.1) (0, 512) ⟨by simp, by simp, by simp⟩ ?_ ?_
 ·refine Sub.trans (Sub.nilCell (n := ⟨L + 1, 224⟩) (e := 59) (e2 := 118) (wd := 2) (wd2 := 2) (o := true) (p := true) (row := [.int .i64 p.a, .nilS]) (row1 := [.int .i64 p.a, .sl ⟨L + 1, 512⟩ 0 0]) (by omega) (by simp [Tx.look]) (by simp) rfl ?_) ?_
  ·intro k
   rcases k with _ | _ | k
   ·exact .inl rfl
   ·exact .inr ⟨rfl, rfl⟩
   ·exact .inl rfl
  ·refine Sub.of (hfz hF2) (by simp only [Pcx.fa, go_sem, subT, and_self, Int.natCast_zero]; try trivial) ?_ ?_ ?_
   ·simp [subH, Tx.look, updH, setH, Pcx.sk, Pcx.row]
   ·simp [subK, keys, updH, setH]
   ·simp
 ·rintro ⟨i, q⟩ ⟨hi, hq0, hq⟩
  simp only at hi hq0 hq ⊢
  have hln := p.sk_len i
  have hb9 := hfa i
  have hx9 := hx i
  have q_0 : (q = 0) = False := by apply eq_false; omega
  have n0_q : (0 = q) = False := by apply eq_false; omega
  have q_32 : (q = 32) = False := by apply eq_false; omega
  have n32_q : (32 = q) = False := by apply eq_false; omega
  have q_224 : (q = 224) = False := by apply eq_false; omega
  have n224_q : (224 = q) = False := by apply eq_false; omega
  obtain ⟨q_n1, q_n2, q_n3, q_n4, q_n5⟩ := nqL L (i := i) (p := q) (by omega)
  by_cases hlt : i < p.n
  ·have hn := hlt
   unfold Pcx.n at hn
   have f1 : decide ((i : Int) < (p.l.length : Int)) = true := dT (by omega)
   have f2 : decide ((i : Int) < 30) = true := dT (by omega)
   have r0 := Pcx.row_at (p := p) (i := i) (by omega)
   obtain ⟨y, hy⟩ : ∃ y, y = p.x i := ⟨_, rfl⟩
   rw [← hy] at r0 hx9
   have hm : y.1 * y.2 ≤ 255 * 255 := Nat.mul_le_mul (by omega) (by omega)
   have e1 : (y.1 : Int) * (y.2 : Int) = ((y.1 * y.2 : Nat) : Int) := (Int.natCast_mul _ _).symm
   have e2 : (p.fa i : Int) + 1 + (y.2 : Int) = ((p.fa (i + 1) : Nat) : Int) := by rw [hy]; simp only [Pcx.fa]; omega
   have e3 : p.sk (i + 1) = p.sk i ++ [(p.fa i, y.1 * y.2)] := by rw [hy]; exact p.sk_succ i
   simp only [f1, f2, r0, e1, Pcx.row, List.length_map, q_0, n0_q, q_32, q_224, n224_q, q_n1, q_n2, q_n5, kS2, kS2', kS3, Nat.add_assoc, Nat.add_zero, go_sem]
   refine ⟨by kernel_rfl, ?_⟩
   repeat refine sd2 ?_
   refine ⟨okDyn_num (fun x => if x.i = q then 1 else x.i % 10000 + 100) (by simp only [numF, List.map, n0_q, n224_q, q_n1, if_true, if_false, Nat.mul_add_mod, Nat.reduceMod]; kernel_rfl), ?_⟩
   repeat refine sd2 ?_
   refine ⟨(i + 1, 10000 * (i + 1) + 928), ⟨by simp only []; omega, by simp only []; omega, by simp only []; omega⟩, by simp only []; omega, ?_⟩
   refine Sub.of (hfz hF2) (by simp only [e2, go_sem, subT, and_self, Int.natCast_succ]) ?_ (by simp [subK, keys]) (by simp only []; omega)
   simp [subH, Tx.look, e3, kN, kE, q_n1, nB, kS2]
  ·have hin : i = p.n := by omega
   subst hin
   by_cases h30 : p.n < p.l.length
   ·have f1 : decide ((p.n : Int) < (p.l.length : Int)) = true := dT (by omega)
    have hn : p.n = 30 := by unfold Pcx.n at h30 ⊢; omega
    have f2 : decide ((p.n : Int) < 30) = false := dF (by omega)
    simp only [f1, f2, Pcx.row, List.length_map, n0_q, n32_q, n224_q, Nat.add_assoc, go_sem]
    repeat refine sd2 ?_
    exact PostF.of (p := True) (v0 := .agg [.int .i64 p.a, .sl ⟨L + 1, q⟩ 0 p.n]) (.inr rfl) (by simp only [resVal, resVals, resVal1, one, n32_q, go_sem]) trivial (by simp [fwdP, Wk, WkL, Tx.look, hln, List.take_of_length_le, q_0, q_32, q_224]) (by simp [fwdP, wkN, wkNL]) (by simp [fwdP, Tx.nf, nfl]) trivial (by simp [UpdAll, keys])
   ·have f1 : decide ((p.n : Int) < (p.l.length : Int)) = false := dF (by omega)
    simp only [f1, Pcx.row, List.length_map, n0_q, n32_q, n224_q, Nat.add_assoc, go_sem]
    repeat refine sd2 ?_
    exact PostF.of (p := True) (v0 := .agg [.int .i64 p.a, .sl ⟨L + 1, q⟩ 0 p.n]) (.inr rfl) (by simp only [resVal, resVals, resVal1, one, n32_q, go_sem]) trivial (by simp [fwdP, Wk, WkL, Tx.look, hln, List.take_of_length_le, q_0, q_32, q_224]) (by simp [fwdP, wkN, wkNL]) (by simp [fwdP, Tx.nf, nfl]) trivial (by simp [UpdAll, keys])
def Pcx.sa (p : Pcx) : Nat → Nat
 | 0 => p.c % 50000
 | i + 1 => p.sa i + 1 + (p.x i).1
def Pcx.ss (p : Pcx) (i : Nat) : List Int := (List.range (i + 1)).map fun j => (p.sa j : Int)
def Pcx.n9 (p : Pcx) : Nat := min p.l.length 29
theorem Pcx.ss_succ (p : Pcx) (i : Nat) : p.ss (i + 1) = p.ss i ++ [(p.sa (i + 1) : Int)] := by simp [Pcx.ss, List.range_succ]
theorem Pcx.ss_len (p : Pcx) (i : Nat) : (p.ss i).length = i + 1 := by simp [Pcx.ss]
theorem Pcx.sa_le {p : Pcx} (h : p.Ok) : ∀ i, p.sa i ≤ 49999 + 256 * i
 | 0 => by simp only [Pcx.sa]; omega
 | i + 1 => by have := Pcx.sa_le h i; have := (h.x i).1; simp only [Pcx.sa]; omega
theorem pReset1_ok {F : SF} {L nx : Nat} (p : Pcx) (hp : p.Ok) (hm : p.m8 = true) : Con Tryz.prog 37 [.agg p.row] F L nx nx (rstP 2 p.a 0 ((p.b % 256 : Nat) : Int) (.fs 1 (([] : List Int).map eI))) [] [] := by
 obtain ⟨hw, ha, hb, hc, hd, hl, hll, hpl⟩ := hp
 have tb : (p.b : Int).tmod 256 = ((p.b % 256 : Nat) : Int) := tmL p.b 256 (by omega)
 have k1 : decide (0 < Go.Sx.ibits .and .u8 p.w 8) = true := hm
 refine bdy Tryz.f37 ?_
 intro F3 hF1 hF2
 simp only [Tryz.f37, cx, Pcx.row, tb, k1, Nat.add_zero, go_sem, meths]
 repeat refine sd2 ?_
 exact PostF.of (p := True) (v0 := .agg [.int .i64 2, .int .i64 p.a, .int .i64 0, .int .i64 ((p.b % 256 : Nat) : Int), .nilS]) (.inr rfl) (by simp only [resVal, resVals, resVal1, one, go_sem]) trivial (by simp [rstP, Wk, WkL]) (by simp [rstP, wkN, wkNL]) (by simp [rstP, Tx.nf, nfl]) trivial (by simp [UpdAll, keys])
theorem pReset2_ok {F : SF} {L nx : Nat} (p : Pcx) (hp : p.Ok) (hm : p.m8 = false) : Con Tryz.prog 37 [.agg p.row] F L nx nx (rstP 1 p.a p.b 0 (.fs 1 ((p.ss p.n9).map eI))) [] [] := by
 have hx := hp.x
 have hfa := Pcx.sa_le hp
 obtain ⟨hw, ha, hb, hc, hd, hl, hll, hpl⟩ := hp
 have tc : (p.c : Int).tmod 50000 = ((p.c % 50000 : Nat) : Int) := tmL p.c 50000 (by omega)
 have k1 : decide (0 < Go.Sx.ibits .and .u8 p.w 8) = false := hm
 refine bdy Tryz.f37 ?_
 intro F3 hF1 hF2
 simp only [Tryz.f37, cx, Pcx.row, tc, k1, Nat.add_zero, go_sem, meths]
 repeat refine sd2 ?_
 refine loopK.intro _ _ (I := fun z : Nat × Nat => ⟨[none, some (.ptr ⟨L + 1, 0⟩ 0 0), some (.ptr ⟨L + 1, 32⟩ 0 0), some (.ptr ⟨L + 1, 480⟩ 0 0), some (.int .i64 (p.sa z.1)), some (.int .i64 z.1), none, none, none, none, none, none, none, none, none, none, none, none, none, none, none, none, none, none, none, none, none, none, none, none, none, none, none, none, none, none, none, none, none, none, none, none, none, none, none, none, none, none, none, none, none, none, none, none, none, none, none, none, none, none, none, none, none, none, none, none, none, none],
  [(⟨L + 1, 0⟩, .rows 65 7 true true [p.row]), (⟨L + 1, 32⟩, .rows 61 5 true true [[.int .i64 0, .int .i64 0, .int .i64 0, .int .i64 0, .nilS]]), (⟨L + 1, 480⟩, .rows 61 5 true false [[.int .i64 1, .int .i64 p.a, .int .i64 p.b, .int .i64 0, .sl ⟨L + 1, z.2⟩ 0 (z.1 + 1)]]), (⟨L + 1, z.2⟩, .rows 3 1 true true ((p.ss z.1).map eI))], 10000 * (z.1 + 1)⟩)
  (pre := fun z => z.1 ≤ p.n9 ∧ 512 ≤ z.2 ∧ z.2 < 10000 * (z.1 + 1)) (μ := fun z => p.n9 - z.1) (0, 864) ⟨by simp, by simp, by simp⟩ ?_ ?_
 ·refine Sub.of (hfz hF2) (by simp only [Pcx.sa, go_sem, subT, and_self, Int.natCast_zero]; try trivial) ?_ ?_ ?_
  ·simp [subH, Tx.look, Pcx.ss, Pcx.sa, Pcx.row, eI]
  ·simp [subK, keys]
  ·simp
 ·rintro ⟨i, q⟩ ⟨hi, hq0, hq⟩
  simp only at hi hq0 hq ⊢
  have hln := p.ss_len i
  have hb9 := hfa i
  have hx9 := hx i
  have q_0 : (q = 0) = False := by apply eq_false; omega
  have n0_q : (0 = q) = False := by apply eq_false; omega
  have q_32 : (q = 32) = False := by apply eq_false; omega
  have n32_q : (32 = q) = False := by apply eq_false; omega
  have q_480 : (q = 480) = False := by apply eq_false; omega
  have n480_q : (480 = q) = False := by apply eq_false; omega
  obtain ⟨q_n1, q_n2, q_n3, q_n4, q_n5⟩ := nqL L (i := i) (p := q) (by omega)
  by_cases hlt : i < p.n9
  ·have hn := hlt
   unfold Pcx.n9 at hn
   have f1 : decide ((i : Int) < (p.l.length : Int)) = true := dT (by omega)
   have f2 : decide ((i : Int) < 29) = true := dT (by omega)
   have r0 := Pcx.row_at (p := p) (i := i) (by omega)
   obtain ⟨y, hy⟩ : ∃ y, y = p.x i := ⟨_, rfl⟩
   rw [← hy] at r0 hx9
   have k2 : (p.sa i : Int) + 1 + (y.1 : Int) = ((p.sa (i + 1) : Nat) : Int) := by rw [hy]; simp only [Pcx.sa]; omega
   have k3 : p.ss (i + 1) = p.ss i ++ [((p.sa (i + 1) : Nat) : Int)] := p.ss_succ i
   have hb8 := hfa (i + 1)
   simp only [f1, f2, r0, k2, Pcx.row, List.length_map, q_0, n0_q, q_32, q_480, n480_q, q_n1, q_n2, q_n5, kS2, kS2', kS3, Nat.add_assoc, Nat.add_zero, go_sem]
   repeat refine sd2 ?_
   refine ⟨(i + 1, 10000 * (i + 1) + 768), ⟨by simp only []; omega, by simp only []; omega, by simp only []; omega⟩, by simp only []; omega, ?_⟩
   refine Sub.o hF2 ?_
   simp [subH, Tx.look, k3, eI, q_n1, nB, kS2, Nat.add_assoc, Nat.reduceAdd]
  ·have hin : i = p.n9 := by omega
   subst hin
   by_cases h30 : p.n9 < p.l.length
   ·have f1 : decide ((p.n9 : Int) < (p.l.length : Int)) = true := dT (by omega)
    have hn : p.n9 = 29 := by unfold Pcx.n9 at h30 ⊢; omega
    have f2 : decide ((p.n9 : Int) < 29) = false := dF (by omega)
    simp only [f1, f2, Pcx.row, List.length_map, n0_q, n32_q, n480_q, Nat.add_assoc, go_sem]
    repeat refine sd2 ?_
    exact PostF.of (p := True) (v0 := .agg [.int .i64 1, .int .i64 p.a, .int .i64 p.b, .int .i64 0, .sl ⟨L + 1, q⟩ 0 (p.n9 + 1)]) (.inr rfl) (by simp only [resVal, resVals, resVal1, one, n32_q, go_sem]) trivial (by simp [rstP, Wk, WkL, Tx.look, hln, List.take_of_length_le, q_0, q_32, q_480]) (by simp [rstP, wkN, wkNL]) (by simp [rstP, Tx.nf, nfl]) trivial (by simp [UpdAll, keys])
   ·have f1 : decide ((p.n9 : Int) < (p.l.length : Int)) = false := dF (by omega)
    simp only [f1, Pcx.row, List.length_map, n0_q, n32_q, n480_q, Nat.add_assoc, go_sem]
    repeat refine sd2 ?_
    exact PostF.of (p := True) (v0 := .agg [.int .i64 1, .int .i64 p.a, .int .i64 p.b, .int .i64 0, .sl ⟨L + 1, q⟩ 0 (p.n9 + 1)]) (.inr rfl) (by simp only [resVal, resVals, resVal1, one, n32_q, go_sem]) trivial (by simp [rstP, Wk, WkL, Tx.look, hln, List.take_of_length_le, q_0, q_32, q_480]) (by simp [rstP, wkN, wkNL]) (by simp [rstP, Tx.nf, nfl]) trivial (by simp [UpdAll, keys])
def Pcx.ga (p : Pcx) : Nat → Nat
 | 0 => 0
 | i + 1 => p.ga i + 2 + (p.x i).1 + (p.x i).2
def Pcx.gp (p : Pcx) (i : Nat) : List (Nat × Nat) := (List.range i).map fun j => (p.ga j + (2 + (p.x j).1), p.ga (j + 1))
def Pcx.db (p : Pcx) (i : Nat) : List Nat := (List.range i).map fun j => (p.d + j * p.c) % 4294967296
theorem Pcx.gp_succ (p : Pcx) (i : Nat) : p.gp (i + 1) = p.gp i ++ [(p.ga i + (2 + (p.x i).1), p.ga (i + 1))] := by simp [Pcx.gp, List.range_succ]
theorem Pcx.gp_len (p : Pcx) (i : Nat) : (p.gp i).length = i := by simp [Pcx.gp]
theorem Pcx.db_succ (p : Pcx) (i : Nat) : p.db (i + 1) = p.db i ++ [(p.d + i * p.c) % 4294967296] := by simp [Pcx.db, List.range_succ]
theorem Pcx.db_len (p : Pcx) (i : Nat) : (p.db i).length = i := by simp [Pcx.db]
theorem Pcx.ga_le {p : Pcx} (h : p.Ok) : ∀ i, p.ga i ≤ 512 * i
 | 0 => by simp [Pcx.ga]
 | i + 1 => by have := Pcx.ga_le h i; have := h.x i; simp only [Pcx.ga]; omega
theorem subNx {L : Nat} {F0 : SF} {t : List (Option PV)} {H : List (Nm × SBlk)} {nx nx' : Nat} (h : nx ≤ nx') : Sub L F0 ⟨t, H, nx⟩ ⟨t, H, nx'⟩ :=
 fun _ _ _ E _ _ _ hR => ⟨E, hR.step, hR.tmps, hR.marks, fun n h1 h2 => ⟨(hR.news n h1 h2).1, Nat.lt_of_lt_of_le (hR.news n h1 h2).2 h⟩⟩
theorem pSack_ok {F : SF} {L nx : Nat} (p : Pcx) (hp : p.Ok) : Con Tryz.prog 25 [.agg p.row] F L nx nx (sackP p.a p.b ((p.gp p.n).map kN) ((p.db (p.c % 6)).map fun x : Nat => (x : Int))) [] [] := by
 have hx := hp.x
 have hfa := Pcx.ga_le hp
 obtain ⟨hw, ha, hb, hc, hd, hl, hll, hpl⟩ := hp
 have tc : (p.c : Int).tmod 6 = ((p.c % 6 : Nat) : Int) := tmL p.c 6 (by omega)
 refine bdy Tryz.f25 ?_
 intro F3 hF1 hF2
 simp only [Tryz.f25, cx, Pcx.row, Nat.add_zero, go_sem, meths]
 repeat refine sd2 ?_
 refine loopK.intro _ _ (I := fun z : Nat × Nat => ⟨[none, some (.ptr ⟨L + 1, 0⟩ 0 0), some (.ptr ⟨L + 1, 32⟩ 0 0), some (.ptr ⟨L + 1, 352⟩ 0 0), some (.int .i64 (p.ga z.1)), some (.int .i64 z.1), none, none, none, none, none, none, none, none, none, none, none, none, none, none, none, none, none, none, none, none, none, none, none, none, none, none, none, none, none, none, none, none, none, none, none, none, none, none, none, none, none, none, none, none, none, none, none, none, none, none, none, none, none, none, none, none, none, none, none, none, none, none, none, none, none, none, none, none, none, none, none, none, none, none, none, none],
  [(⟨L + 1, 0⟩, .rows 65 7 true true [p.row]), (⟨L + 1, 32⟩, .rows 55 4 true true [[.int .i64 0, .int .i64 0, .nilS, .nilS]]), (⟨L + 1, 352⟩, .rows 55 4 true false [[.int .i64 p.a, .int .i64 p.b, .sl ⟨L + 1, z.2⟩ 0 z.1, .nilS]]), (⟨L + 1, z.2⟩, .rows 118 2 true true (((p.gp z.1).map kN).map kE))], if z.1 = p.n then 1000000 else 10000 * (z.1 + 1)⟩)
  (pre := fun z => z.1 ≤ p.n ∧ 480 ≤ z.2 ∧ z.2 < 10000 * (z.1 + 1)) (μ := fun z => p.n - z.1) (0, 480) ⟨by simp, by simp, by simp⟩ ?_ ?_
 ·refine Sub.trans (Sub.nilCell (n := ⟨L + 1, 352⟩) (e := 55) (e2 := 118) (wd := 4) (wd2 := 2) (o := true) (p := true) (row := [.int .i64 p.a, .int .i64 p.b, .nilS, .nilS]) (row1 := [.int .i64 p.a, .int .i64 p.b, .sl ⟨L + 1, 480⟩ 0 0, .nilS]) (by omega) (by simp [Tx.look]) (by simp) rfl ?_) ?_
  ·intro k
   rcases k with _ | _ | _ | k
   ·exact .inl rfl
   ·exact .inl rfl
   ·exact .inr ⟨rfl, rfl⟩
   ·exact .inl rfl
  ·refine Sub.of (hfz hF2) (by simp only [Pcx.ga, go_sem, subT, and_self, Int.natCast_zero]; try trivial) ?_ ?_ ?_
   ·simp [subH, Tx.look, updH, setH, Pcx.gp, Pcx.row]
   ·simp [subK, keys, updH, setH]
   ·simp only []; split <;> omega
 ·rintro ⟨i, q⟩ ⟨hi, hq0, hq⟩
  simp only at hi hq0 hq ⊢
  have hln := p.gp_len i
  have hb9 := hfa i
  have hx9 := hx i
  have q_0 : (q = 0) = False := by apply eq_false; omega
  have n0_q : (0 = q) = False := by apply eq_false; omega
  have q_32 : (q = 32) = False := by apply eq_false; omega
  have n32_q : (32 = q) = False := by apply eq_false; omega
  have q_352 : (q = 352) = False := by apply eq_false; omega
  have n352_q : (352 = q) = False := by apply eq_false; omega
  obtain ⟨q_n1, q_n2, q_n3, q_n4, q_n5⟩ := nqL L (i := i) (p := q) (by omega)
  by_cases hlt : i < p.n
  ·have hn := hlt
   have hne : ¬ i = p.n := by omega
   unfold Pcx.n at hn
   have f1 : decide ((i : Int) < (p.l.length : Int)) = true := dT (by omega)
   have f2 : decide ((i : Int) < 30) = true := dT (by omega)
   have r0 := Pcx.row_at (p := p) (i := i) (by omega)
   obtain ⟨y, hy⟩ : ∃ y, y = p.x i := ⟨_, rfl⟩
   rw [← hy] at r0 hx9
   have k1 : (p.ga i : Int) + 2 + (y.1 : Int) = ((p.ga i + (2 + y.1) : Nat) : Int) := by omega
   have k2 : ((p.ga i + (2 + y.1) : Nat) : Int) + (y.2 : Int) = ((p.ga (i + 1) : Nat) : Int) := by rw [hy]; simp only [Pcx.ga]; omega
   have k3 : p.gp (i + 1) = p.gp i ++ [(p.ga i + (2 + y.1), p.ga (i + 1))] := by rw [hy]; exact p.gp_succ i
   have hb8 := hfa (i + 1)
   have hb7 : p.ga i + 2 + y.1 ≤ p.ga (i + 1) := by rw [hy]; simp only [Pcx.ga]; omega
   simp only [f1, f2, hne, if_false, r0, k1, k2, Pcx.row, List.length_map, q_0, n0_q, q_32, q_352, n352_q, q_n1, q_n2, q_n5, kS2, kS2', kS3, Nat.add_assoc, Nat.add_zero, go_sem]
   repeat refine sd2 ?_
   refine ⟨(i + 1, 10000 * (i + 1) + 1152), ⟨by simp only []; omega, by simp only []; omega, by simp only []; omega⟩, by simp only []; omega, ?_⟩
   refine Sub.of (hfz hF2) (by simp only [go_sem, subT, and_self, Int.natCast_succ]) ?_ (by simp [subK, keys]) (by simp only []; split <;> omega)
   simp [subH, Tx.look, k3, kN, kE, q_n1, nB, kS2]
  ·have hin : i = p.n := by omega
   have hc6 : p.c % 6 < 6 := Nat.mod_lt _ (by omega)
   have hn30 : p.n ≤ 30 := by unfold Pcx.n; omega
   have hcase : (decide ((i : Int) < (p.l.length : Int)) = true ∧ decide ((i : Int) < 30) = false) ∨ decide ((i : Int) < (p.l.length : Int)) = false := by
    by_cases h30 : i < p.l.length
    ·exact .inl ⟨dT (by omega), dF (by unfold Pcx.n at hin; omega)⟩
    ·exact .inr (dF (by omega))
   obtain ⟨N, hN⟩ : ∃ N, N = p.n := ⟨_, rfl⟩
   rw [← hN] at hin hn30
   subst hin
   rcases hcase with ⟨f1, f2⟩ | f1
   all_goals
    first
     | simp only [f1, f2, ← hN, if_true, Pcx.row, List.length_map, n0_q, go_sem]
     | simp only [f1, ← hN, if_true, Pcx.row, List.length_map, n0_q, go_sem]
    repeat refine sd2 ?_
    have q9 : (q = 1000320) = False := by apply eq_false; omega
    have q8 : (1000320 = q) = False := by apply eq_false; omega
    refine loopK.intro _ _ (I := fun z : Nat × Nat => ⟨[none, some (.ptr ⟨L + 1, 0⟩ 0 0), some (.ptr ⟨L + 1, 32⟩ 0 0), some (.ptr ⟨L + 1, 352⟩ 0 0), none, none, none, some (.int .i64 ((z.1 - 1000 : Nat) : Int)), none, none, none, none, none, none, none, none, none, none, none, none, none, none, none, none, none, none, none, none, none, none, none, none, none, none, none, none, none, none, none, none, none, none, none, none, none, none, none, none, none, none, none, none, none, none, none, none, none, none, none, none, none, none, none, none, none, none, none, none, none, none, none, none, none, none, none, none, none, none, none, none, none, none],
     [(⟨L + 1, 0⟩, .rows 65 7 true true [p.row]), (⟨L + 1, 32⟩, .rows 55 4 true true [[.int .i64 0, .int .i64 0, .nilS, .nilS]]), (⟨L + 1, 352⟩, .rows 55 4 true false [[.int .i64 p.a, .int .i64 p.b, .sl ⟨L + 1, q⟩ 0 i, .sl ⟨L + 1, z.2⟩ 0 (z.1 - 1000)]]), (⟨L + 1, q⟩, .rows 118 2 true true (((p.gp i).map kN).map kE)), (⟨L + 1, z.2⟩, .rows 3 1 true true (((p.db (z.1 - 1000)).map fun x : Nat => (x : Int)).map eI))], 10000 * (z.1 + 1)⟩)
     (pre := fun z => 1000 ≤ z.1 ∧ z.1 ≤ 1000 + p.c % 6 ∧ 1000000 ≤ z.2 ∧ z.2 < 10000 * (z.1 + 1)) (μ := fun z => 1000 + p.c % 6 - z.1) (1000, 1000320) ⟨by simp, by simp, by simp, by simp⟩ ?_ ?_
    ·refine Sub.trans (subNx (nx' := 1000320) (by omega)) (Sub.trans (Sub.nilCell (n := ⟨L + 1, 352⟩) (e := 55) (e2 := 3) (wd := 4) (wd2 := 1) (o := true) (p := false) (row := [.int .i64 p.a, .int .i64 p.b, .sl ⟨L + 1, q⟩ 0 i, .nilS]) (row1 := [.int .i64 p.a, .int .i64 p.b, .sl ⟨L + 1, q⟩ 0 i, .sl ⟨L + 1, 1000320⟩ 0 0]) (by omega) (by simp [Tx.look]) (by simp) rfl ?_) ?_)
     ·intro k
      rcases k with _ | _ | _ | _ | k
      ·exact .inl rfl
      ·exact .inl rfl
      ·exact .inl rfl
      ·exact .inr ⟨rfl, rfl⟩
      ·exact .inl rfl
     ·refine Sub.of (hfz hF2) (by simp only [Nat.sub_self, go_sem, subT, and_self, Int.natCast_zero]; try trivial) ?_ ?_ ?_
      ·simp [subH, Tx.look, updH, setH, Pcx.db, Pcx.row, q8, q_0, q_32, q_352]
      ·simp [subK, keys, updH, setH, q8, q9]
      ·simp only []; omega
    ·try clear f2
     clear f1 hx9 hb9 hlt hi
     rintro ⟨i2, q2⟩ ⟨g0, g1, g2, g3⟩
     obtain ⟨r, hr⟩ : ∃ r, r = q := ⟨_, rfl⟩
     rw [← hr] at hq hq0 ⊢
     obtain ⟨m, hm⟩ : ∃ m, m = i := ⟨_, rfl⟩
     rw [← hm] at hln hq hn30 hN ⊢
     clear q8 q9 q_0 n0_q q_32 n32_q q_352 n352_q q_n1 q_n2 q_n3 q_n4 q_n5 hm hr
     clear i q
     obtain ⟨i, hi⟩ : ∃ i, i = i2 := ⟨_, rfl⟩
     rw [← hi] at g0 g1 g2 g3 ⊢
     clear hi
     clear i2
     simp only at g0 g1 g2 g3 ⊢
     obtain ⟨k, hk⟩ : ∃ k, k = i - 1000 := ⟨_, rfl⟩
     have hk1 : i + 1 - 1000 = k + 1 := by omega
     have hdl := p.db_len k
     have r_0 : (r = 0) = False := by apply eq_false; omega
     have n0_r : (0 = r) = False := by apply eq_false; omega
     have r_32 : (r = 32) = False := by apply eq_false; omega
     have n32_r : (32 = r) = False := by apply eq_false; omega
     have r_352 : (r = 352) = False := by apply eq_false; omega
     have n352_r : (352 = r) = False := by apply eq_false; omega
     obtain ⟨r_n1, r_n2, r_n3, r_n4, r_n5⟩ := nqL L (i := i) (p := r) (by omega)
     have q2_0 : (q2 = 0) = False := by apply eq_false; omega
     have n0_q2 : (0 = q2) = False := by apply eq_false; omega
     have q2_32 : (q2 = 32) = False := by apply eq_false; omega
     have n32_q2 : (32 = q2) = False := by apply eq_false; omega
     have q2_352 : (q2 = 352) = False := by apply eq_false; omega
     have n352_q2 : (352 = q2) = False := by apply eq_false; omega
     have q2_r : (q2 = r) = False := by apply eq_false; omega
     have nr_q2 : (r = q2) = False := by apply eq_false; omega
     obtain ⟨q2_n1, q2_n2, q2_n3, q2_n4, q2_n5⟩ := nqL L (i := i) (p := q2) (by omega)
     by_cases hlt : k < p.c % 6
     ·have f1 : decide ((k : Int) < ((p.c % 6 : Nat) : Int)) = true := dT (by omega)
      have hkc : k * p.c ≤ 5 * 4294967295 := Nat.mul_le_mul (by omega) (by omega)
      have k1 : (k : Int) * (p.c : Int) = ((k * p.c : Nat) : Int) := (Int.natCast_mul _ _).symm
      have k2 : (p.d : Int) + ((k * p.c : Nat) : Int) = ((p.d + k * p.c : Nat) : Int) := by omega
      have k3 : ((p.d + k * p.c : Nat) : Int).tmod 4294967296 = (((p.d + k * p.c) % 4294967296 : Nat) : Int) := tmL _ 4294967296 (by omega)
      have k4 := p.db_succ k
      simp only [← hk, f1, tc, k1, k2, k3, Pcx.row, List.length_map, n0_r, n352_r, r_n1, q2_0, n0_q2, q2_32, q2_352, n352_q2, q2_r, q2_n1, q2_n2, q2_n5, kS2, kS2', kS3, Nat.add_assoc, go_sem]
      repeat refine sd2 ?_
      refine ⟨(i + 1, 10000 * (i + 1) + 704), ⟨by simp only []; omega, by simp only []; omega, by simp only []; omega, by simp only []; omega⟩, by simp only []; omega, ?_⟩
      refine Sub.of (hfz hF2) (by simp only [hk1, go_sem, subT, and_self, Int.natCast_succ]) ?_ (by simp [subK, keys]) (by simp only []; omega)
      simp [subH, Tx.look, hk1, k4, eI, r_0, r_32, r_352, r_n1, q2_n1, nB, kS2]
     ·have f1 : decide ((k : Int) < ((p.c % 6 : Nat) : Int)) = false := dF (by omega)
      have hkn : k = p.c % 6 := by omega
      simp only [← hk, f1, tc, Pcx.row, n0_r, n32_r, n352_r, n0_q2, n32_q2, n352_q2, Nat.add_assoc, go_sem]
      repeat refine sd2 ?_
      rw [← hkn]
      exact PostF.of (p := True) (v0 := .agg [.int .i64 p.a, .int .i64 p.b, .sl ⟨L + 1, r⟩ 0 m, .sl ⟨L + 1, q2⟩ 0 k]) (.inr rfl) (by simp only [resVal, resVals, resVal1, one, n32_r, n32_q2, go_sem]) trivial (by simp [sackP, Wk, WkL, Tx.look, hln, hdl, List.take_of_length_le, r_0, r_32, r_352, q2_0, q2_32, q2_352, q2_r]) (by simp [sackP, wkN, wkNL]) (by simp [sackP, Tx.nf, nfl]) trivial (by simp [UpdAll, keys])
end Go.Proofs.YtaacfnngodhecaaGreatDoor
end
section
namespace Go.Proofs.YtaacfnngodhecaaGreatDoor
open Go.ChangeShapes Go.WideShapes Go.ChangeAt Go.RowKit Go.Tx
theorem ownK32 : ownKnob Tryz.prog.godebug = none := by kernel_rfl
theorem laidOut32 : laidOutB Tryz.prog = true := by kernel_rfl
set_option maxRecDepth 100000
def isStr32 : Option TypeDesc → Bool
 | some (.struct _) => true
 | _ => false
theorem undS {x : Option TypeDesc} (h : isStr32 x = true) : ∃ fs, x = some (.struct fs) := by
 unfold isStr32 at h
 split at h
 ·exact ⟨_, rfl⟩
 ·cases h
theorem undPiece : ∃ fs, Tryz.prog.underlying 65 = some (.struct fs) := undS (by kernel_rfl)
theorem undBool32 : Tryz.prog.underlying 4 = some .bool := by kernel_rfl
theorem wf8 {n : Int} (h : (Lit.int .u8 n).wf = true) : ∃ k : Nat, n = k ∧ k < 256 := by
 have : 0 ≤ n ∧ n ≤ 255 := by simpa [Lit.wf, IntKind.min, IntKind.max, IntKind.signed, IntKind.bits] using h
 exact ⟨n.toNat, by omega, by omega⟩
theorem wf16 {n : Int} (h : (Lit.int .u16 n).wf = true) : ∃ k : Nat, n = k ∧ k < 65536 := by
 have : 0 ≤ n ∧ n ≤ 65535 := by simpa [Lit.wf, IntKind.min, IntKind.max, IntKind.signed, IntKind.bits] using h
 exact ⟨n.toNat, by omega, by omega⟩
theorem wf32 {n : Int} (h : (Lit.int .u32 n).wf = true) : ∃ k : Nat, n = k ∧ k < 4294967296 := by
 have : 0 ≤ n ∧ n ≤ 4294967295 := by simpa [Lit.wf, IntKind.min, IntKind.max, IntKind.signed, IntKind.bits] using h
 exact ⟨n.toNat, by omega, by omega⟩
theorem rowsOf {α : Type} {p : List PV → Prop} {f : α → List PV} {ok : α → Prop} (hp : ∀ xs, p xs → ∃ a, xs = f a ∧ ok a) : ∀ (rs : List (List PV)), (∀ r ∈ rs, p r) → ∃ l : List α, rs = l.map f ∧ ∀ a ∈ l, ok a
 | [], _ => ⟨[], rfl, by simp⟩
 | r :: rs, h => by
  obtain ⟨l, e, hl⟩ := rowsOf hp rs (fun x hx => h x (by simp [hx]))
  obtain ⟨a, ha, ho⟩ := hp r (h r (by simp))
  refine ⟨a :: l, by rw [e, ha]; rfl, fun x hx => ?_⟩
  rcases List.mem_cons.1 hx with rfl | hx
  ·exact ho
  ·exact hl x hx
theorem shpB2 {n : Nat} {xs : List PV} (h : Shp tys (n + 2) 151 xs) : ∃ x : Nat × Nat, xs = e2 x ∧ x.1 < 256 ∧ x.2 < 256 := by
 have h := Shp.array g151 h
 simp only [List.foldr, List.range, List.range.loop] at h
 obtain ⟨_, _, rfl, h1, _, _, rfl, h2, rfl⟩ := h
 obtain ⟨_, rfl, w1⟩ := Shp.int g5 h1
 obtain ⟨_, rfl, w2⟩ := Shp.int g5 h2
 obtain ⟨a1, rfl, b1⟩ := wf8 w1
 obtain ⟨a2, rfl, b2⟩ := wf8 w2
 exact ⟨(a1, a2), rfl, b1, b2⟩
theorem shpN4 {n : Nat} {xs : List PV} (h : Shp tys (n + 2) 62 xs) : ∃ (a b c d : Nat), xs = [.int .u32 a, .int .u32 b, .int .u32 c, .int .u32 d] ∧ a < 4294967296 ∧ b < 4294967296 ∧ c < 4294967296 ∧ d < 4294967296 := by
 have h := Shp.array g62 h
 simp only [List.foldr, List.range, List.range.loop] at h
 obtain ⟨_, _, rfl, h1, _, _, rfl, h2, _, _, rfl, h3, _, _, rfl, h4, rfl⟩ := h
 obtain ⟨_, rfl, w1⟩ := Shp.int g26 h1
 obtain ⟨_, rfl, w2⟩ := Shp.int g26 h2
 obtain ⟨_, rfl, w3⟩ := Shp.int g26 h3
 obtain ⟨_, rfl, w4⟩ := Shp.int g26 h4
 obtain ⟨a1, rfl, b1⟩ := wf32 w1
 obtain ⟨a2, rfl, b2⟩ := wf32 w2
 obtain ⟨a3, rfl, b3⟩ := wf32 w3
 obtain ⟨a4, rfl, b4⟩ := wf32 w4
 exact ⟨a1, a2, a3, a4, rfl, b1, b2, b3, b4⟩
theorem shpPiece {n : Nat} {xs : List PV} (h : Shp tys (n + 4) 65 xs) : ∃ p : Pcx, xs = p.row ∧ p.Ok := by
 have h := Shp.struct g65 h
 simp only [List.foldr] at h
 obtain ⟨_, _, rfl, h1, _, _, rfl, h2, _, _, rfl, h3, _, _, rfl, h4, rfl⟩ := h
 obtain ⟨_, rfl, w1⟩ := Shp.int g5 h1
 obtain ⟨w, rfl, bw⟩ := wf8 w1
 obtain ⟨a, b, c, d, rfl, ba, bb, bc, bd⟩ := shpN4 h2
 obtain ⟨wd, rs, rfl, l3, e3, s3⟩ := Shp.slice g63 h3
 rw [g151] at e3
 simp only [Option.map_some, Option.some.injEq] at e3
 subst e3
 obtain ⟨l, rfl, hl⟩ := rowsOf (f := e2) (ok := fun x => x.1 < 256 ∧ x.2 < 256) (fun xs => shpB2) rs s3
 obtain ⟨pl, rfl, l4⟩ := Shp.str g9 h4
 exact ⟨⟨w, a, b, c, d, l, pl⟩, rfl, bw, ba, bb, bc, bd, hl, by simpa using l3, l4⟩
end Go.Proofs.YtaacfnngodhecaaGreatDoor
end
section
namespace Go.Tx
section
variable (C : Cx) (F0 : SF)
def restX (i0 j0 : Nat) (l : List Oper) (i : Nat) (Hs : List (Nm × SBlk)) (K : RK) : RK := fun t H nx fps => execX C F0 i0 j0 l i t H Hs nx fps K
theorem restX_app (i0 j0 : Nat) (l : List Oper) (i : Nat) (Hs : List (Nm × SBlk)) (K : RK) (a : Option PV) (t : List (Option PV)) (H : List (Nm × SBlk)) (nx : Nat) (fps : FPs) : restX C F0 i0 j0 l i Hs K (a :: t) H nx fps = execX C F0 i0 j0 l i (a :: t) H Hs nx fps K := propext ⟨fun h => h, fun h => h⟩
theorem xx_nil (i0 j0 i : Nat) (t : List (Option PV)) (H Hs : List (Nm × SBlk)) (nx : Nat) (fps : FPs) (K : RK) : execX C F0 i0 j0 [] i t H Hs nx fps K = K t H nx fps := propext ⟨fun h => h, fun h => h⟩
theorem xx_cons (i0 j0 : Nat) (o : Oper) (l : List Oper) (i : Nat) (t : List (Option PV)) (H Hs : List (Nm × SBlk)) (nx : Nat) (fps : FPs) (K : RK) : execX C F0 i0 j0 (o :: l) i t H Hs nx fps K =
  (match o.guard with
  | some _ => False
  | none =>
   if i = j0 then
    match semOp C.T C.wr (evalT t) (look F0 H) ⟨C.L, nx⟩ o.op, semOp C.T C.wr (evalT t) (look F0 Hs) ⟨C.L, nx⟩ o.op with
    | some r, some r' => r.vc ∧ r'.vc ∧ r'.v = r.v ∧ r.upd = [] ∧ r'.upd = [] ∧ r'.rd = r.rd ∧ execX C F0 i0 j0 l (i + 1) (putT t o.dst r.v) H Hs (nx + 32) (fps ++ [(r.rd, [])]) K
    | _, _ => False
   else opVK C F0 o t H nx fps (restX C F0 i0 j0 l (i + 1) (if i = i0 then H else Hs) K)) := propext ⟨fun h => h, fun h => h⟩
def regKX (ops : List Oper) (i0 j0 : Nat) (Q : Exit → St → Prop) : RK := fun t H nx fps => okDynX ops fps i0 j0 = true ∧ Q .normal ⟨t, H, nx⟩
theorem regKX_app (ops : List Oper) (i0 j0 : Nat) (Q : Exit → St → Prop) (a : Option PV) (t : List (Option PV)) (H : List (Nm × SBlk)) (nx : Nat) (fps : FPs) : regKX ops i0 j0 Q (a :: t) H nx fps = (okDynX ops fps i0 j0 = true ∧ Q .normal ⟨a :: t, H, nx⟩) := propext ⟨fun h => h, fun h => h⟩
end
attribute [go_sem ↓] restX_app xx_nil xx_cons regKX_app
theorem regVX_x2 {C : Cx} {x p : Prop} (h1 : C.dies = false) (h2 : ∃ a l, C.ch = a :: l) (h : x) : RegVX C x p := by
 obtain ⟨a, l, h2⟩ := h2
 unfold RegVX
 rw [h1, h2]
 exact .inr h
theorem RegX.at {C : Cx} {F0 : SF} {p : Prop} {ops : List Oper} {st : St} {Q : Exit → St → Prop} (h1 : C.dies = false) (h2 : ∃ a l, C.ch = a :: l) (i0 j0 : Nat) (hij : i0 < j0) (hst : okStatic ops st.t.length = true)
  (h : execX C F0 i0 j0 ops 0 st.t st.H st.H st.nx [] (regKX ops i0 j0 Q)) : RegVX C (RegX C F0 ops st Q) p := regVX_x2 h1 h2 ⟨i0, j0, hij, hst, h⟩
def okDynXN (ops : List Oper) (fps : List (List Nat × List Nat)) (i0 j0 : Nat) : Bool :=
 decide (i0 < j0) && (fps.zipIdx.all fun x => fps.zipIdx.all fun y => !unord ops x.2 y.2 || (disj x.1.2 y.1.2 && ((x.2 == i0 && y.2 == j0) || disj x.1.2 y.1.1))) &&
 fps.zipIdx.all fun x => !(decide (i0 < x.2) && decide (x.2 < j0)) || disj x.1.2 (fps.getD j0 ([], [])).1
theorem disj_map (φ : Nm → Nat) {a b : List Nm} (h : disj (a.map φ) (b.map φ) = true) : disj a b = true := by
 unfold disj
 rw [List.all_eq_true]
 intro n hn
 simp only [Bool.not_eq_true', List.contains_eq_mem, decide_eq_false_iff_not]
 intro hm
 exact disj_spec h (x := φ n) (List.mem_map.2 ⟨n, hn, rfl⟩) (List.mem_map.2 ⟨n, hm, rfl⟩)
theorem okDynX_num {ops : List Oper} {fps : List (List Nm × List Nm)} {i0 j0 : Nat} (φ : Nm → Nat) (h : okDynXN ops (fps.map (numF φ)) i0 j0 = true) : okDynX ops fps i0 j0 = true := by
 unfold okDynX
 unfold okDynXN at h
 simp only [Bool.and_eq_true] at h ⊢
 obtain ⟨⟨h1, h2⟩, h3⟩ := h
 rw [List.all_eq_true] at h2 h3
 refine ⟨⟨h1, ?_⟩, ?_⟩
 ·rw [List.all_eq_true]
  intro x hx
  rw [List.all_eq_true]
  intro y hy
  obtain ⟨f, i⟩ := x
  obtain ⟨g, j⟩ := y
  rw [List.mem_zipIdx_iff_getElem?] at hx hy
  have h1 := h2 (numF φ f, i) (by rw [List.mem_zipIdx_iff_getElem?]; simp only [List.getElem?_map] at *; rw [hx]; rfl)
  rw [List.all_eq_true] at h1
  have h2 := h1 (numF φ g, j) (by rw [List.mem_zipIdx_iff_getElem?]; simp only [List.getElem?_map] at *; rw [hy]; rfl)
  simp only [Bool.or_eq_true, Bool.and_eq_true] at h2 ⊢
  exact h2.imp id fun hd => ⟨disj_map φ hd.1, hd.2.imp id (disj_map φ)⟩
 ·rw [List.all_eq_true]
  intro x hx
  obtain ⟨f, i⟩ := x
  rw [List.mem_zipIdx_iff_getElem?] at hx
  have h4 := h3 (numF φ f, i) (by rw [List.mem_zipIdx_iff_getElem?]; simp only [List.getElem?_map] at *; rw [hx]; rfl)
  simp only [Bool.or_eq_true] at h4 ⊢
  refine h4.imp id fun hd => disj_map φ ?_
  have : ((fps.map (numF φ)).getD j0 ([], [])).1 = ((fps.getD j0 ([], [])).1).map φ := by
   simp only [List.getD_eq_getElem?_getD, List.getElem?_map]
   cases fps[j0]? <;> rfl
  rw [this] at hd
  exact hd
end Go.Tx
end
section
namespace Go.Proofs.YtaacfnngodhecaaGreatDoor
open Go.Tx
set_option maxRecDepth 100000
set_option maxHeartbeats 2000000
noncomputable def cxf (L : Nat) : Cx := ⟨Tryz.prog, tys, meths, false, L, none, [], [], false, chM, fun _ => False⟩
theorem cxfOk (L : Nat) : (cxf L).Ok := ⟨tysOk, fieldsOk, mixedOk, methsOk⟩
def fwdC (s : List UInt8) : Nat := (s.length - 4) / 4
def fwdK (s : List UInt8) : List PV := [.int .i64 (getB (s.take 4)), .fs 2 ((pairsG s 4 (fwdC s)).map eP)]
theorem forward1_ok {F : SF} (s : List UInt8) (hs : 4 ≤ s.length) (hl : s.length ≤ 1000000) : OfOk 94 [] [] s (.agg (fwdK s)) (4 + 4 * fwdC s) F [] := by
 intro F' L r nx hF' hr hrd hFr
 simp only [List.nil_append, List.cons_append]
 refine Con.body (cxfOk (L + 1)) rfl rfl (fn := Tryz.f94) (c := Tryz.f94.body.getD .skip) (by kernel_rfl) (by rfl) (by kernel_rfl) rfl (by simp; omega) ?_
 intro F3 hF1 hF2
 have kr : F3 r = some (rdB s 0) := (hF1 r (by simp)).trans hFr
 have n1 : ∀ k, (r = (⟨L + 1, k⟩ : Nm)) = False := nm_out hr
 have n2 : ∀ k, ((⟨L + 1, k⟩ : Nm) = r) = False := nm_out' hr
 have h32 : r.l ≤ L + 1 := by omega
 simp only [Tryz.f94, cxf, rdB, go_sem, meths]
 refine RegX.at ?_ ?_ 1 7 (by omega) ?_ ?_
 ·exact rfl
 ·exact ⟨_, _, rfl⟩
 ·kernel_rfl
 simp only [go_sem]
 refine CallVC.same (number_ok r h32 s 0 4 4 rfl (by omega) (by omega) (by omega) hl (by simp [rdB, kr, n1])) ?_
 simp only [rdB, n1, kr, Nat.add_zero, go_sem]
 have t4 : ((s.length : Int) - 4).tdiv 4 = ((fwdC s : Nat) : Int) := by
  rw [Int.tdiv_eq_ediv_of_nonneg (by omega)]; unfold fwdC; omega
 have hc : 4 + 4 * fwdC s ≤ s.length := by unfold fwdC; omega
 rw [t4]
 refine ⟨⟨by omega, by omega⟩, ⟨by omega, by omega, by omega⟩, ?_⟩
 refine CallVC.same (pairs_ok r h32 s 4 (fwdC s) _ rfl (by omega) hl (by simp [rdB, n1])) ?_
 simp only [rdB, n1, n2, go_sem]
 refine ⟨okDynX_num (fun x => if x = r then 1 else x.i % 10000 + 100) (by simp only [numF, List.map, n2, if_true, if_false]; kernel_rfl), ?_⟩
 exact PostF.of (p := True) (v0 := .agg (fwdK s)) (.inr rfl) (by simp only [fwdK, resVal, resVals, resVal1, one, List.drop_zero, go_sem]) trivial (wk_refl _ _).1 (by rw [(wk_refl (fun _ => none) _).2]; simp) (by rfl) ⟨hr, by simp [BW, Tx.look, n1], trivial⟩ (by simp [UpdAll, keys])
theorem forward1_die {F : SF} (s : List UInt8) (hs : s.length < 4) : OfDie 94 [] [] s F [] := by
 intro F' L r hF' hr hrd hFr
 simp only [List.nil_append, List.cons_append]
 refine DCon.body (cxOk (L + 1)) rfl rfl (fn := Tryz.f94) (c := Tryz.f94.body.getD .skip) (by kernel_rfl) (by rfl) (by kernel_rfl) rfl  (by simp; omega) ?_
 intro F3 hF1 hF2
 have kr : F3 r = some (rdB s 0) := (hF1 r (by simp)).trans hFr
 have n1 : ∀ k, (r = (⟨L + 1, k⟩ : Nm)) = False := nm_out hr
 have n2 : ∀ k, ((⟨L + 1, k⟩ : Nm) = r) = False := nm_out' hr
 have h32 : r.l ≤ L + 1 := by omega
 simp only [Tryz.f94, cx, go_sem, meths]
 refine RegVD.dieAt 1 [11, 12, 13] rfl (by simp) (by kernel_rfl) (by kernel_rfl) ?_
 simp only [rdB, n1, kr, Nat.add_zero, go_sem]
 refine dieX.same (number_die r h32 s 0 4 4 rfl (by omega) (by omega) (by omega) (by omega) (by omega) (by simp [rdB, kr, n1, Tx.look])) ?_
 simp only [rdB, n1, kr, Nat.add_zero, go_sem]
 refine ⟨⟨by omega, by omega⟩, ⟨by omega, ?_⟩, okDyn_num (fun x => if x = r then 1 else x.i % 10000 + 100) (by simp only [numF, List.map, if_true]; kernel_rfl), fun nz => ?_⟩
 ·rw [show ((s.length : Int) - 4) = -((4 - s.length : Nat) : Int) by omega, Int.neg_tdiv, Int.tdiv_eq_ediv_of_nonneg (by omega)]
  exact ⟨by omega, by omega⟩
 exact .all rfl (ns := [r]) (by simpa using hr) (by simp [UpdAll, n2]) (by simp [keys])
structure Fwx where
 cum : Int
 sk : List (Int × Int)
def Fwx.v (d : Fwx) : PV := fwdP d.cum d.sk
def Fwx.ok (d : Fwx) : Bool := fwdV d.cum d.sk
def Fwx.oct (d : Fwx) : List UInt8 := fwdT d.cum.toNat (d.sk.map fun k => (k.1.toNat, k.2.toNat))
def fwxG (s : List UInt8) : Fwx := ⟨getB (s.take 4), (pairsG s 4 (fwdC s)).map kN⟩
theorem fwxG_row (s : List UInt8) : PV.agg (fwdK s) = (fwxG s).v := by
 simp only [fwdK, fwxG, Fwx.v, fwdP, List.map_map]
 congr 2
def fwxOk (c : Ckx) : Bool := decide (4 ≤ c.bd.length) && (decide (4 + 4 * fwdC c.bd = c.bd.length) && ((fwxG c.bd).ok && (decide ((0 : Int) = c.fl) && decide ((fwxG c.bd).oct = c.bd))))
def zFwx (e : Int) : PV := .tup [.agg [.int .i64 0, .nilS], .int .i64 e]
def getFwxV (c : Ckx) : PV := if c.kd = 192 then (if fwxOk c then .tup [(fwxG c.bd).v, .int .i64 0] else zFwx 5) else zFwx 2
theorem getForwardT_ok {F : SF} {L nx : Nat} (c : Ckx) (hl : c.bd.length ≤ 1000000) : Con Tryz.prog 46 [.agg c.row] F L nx nx (getFwxV c) [] [] := by
 have hcall : ∀ (F : SF) (L nx : Nat), Con Tryz.prog 93 [.agg c.row, .fn (.func 94) [] [], .fn (.func 34) [] [], .fs 1 ([192].map eI)] F L nx nx (getFwxV c) [] [] := by
  intro F L nx
  obtain ⟨k, fl, s⟩ := c
  simp only [Ckx.row] at hl ⊢
  unfold getFwxV
  by_cases hk : k = 192
  ·have hk1 : (([192] : List Int).any fun x => k == x) = true := by simpa using hk
   rw [if_pos hk]
   obtain ⟨d, hdd⟩ : ∃ d, d = fwxG s := ⟨_, rfl⟩
   simp only
   rw [← hdd]
   have hrow : PV.agg (fwdK s) = d.v := by rw [hdd]; exact fwxG_row s
   have hrl : (fwdK s).length = 2 := rfl
   have hrn : nfl (fwdK s) = true := rfl
   have hP : PutOk 34 (fwdK s) (if d.ok then 192 else 0) 0 (if d.ok then d.oct else []) (if d.ok then 0 else 320) := by
    intro F L nx
    have h := putForward_ok (F := F) (L := L) (nx := nx) d.cum d.sk (by rw [hdd]; simp only [fwxG, List.length_map, pairsG_len, fwdC]; omega)
    rw [hrow]
    have e : fwdV d.cum d.sk = d.ok := rfl
    rw [e] at h
    cases hb : d.ok with
    | true => rw [hb] at h; simp only [if_true] at h ⊢; exact h
    | false => rw [hb] at h; simp only [if_false, Bool.false_eq_true] at h ⊢; exact h
   by_cases h12 : 4 ≤ s.length
   ·have hO := forward1_ok (F := F) s h12 hl
    by_cases hne : 4 + 4 * fwdC s = s.length
    ·rw [hne] at hO
     cases hd : fwxOk ⟨k, fl, s⟩ with
     | true =>
      rw [if_pos rfl]
      unfold fwxOk at hd
      simp only [← hdd] at hd
      simp only [Bool.and_eq_true, decide_eq_true_eq] at hd
      obtain ⟨_, _, q1, q3, q4⟩ := hd
      rw [q1] at hP
      simp only [if_true, q4] at hP
      subst q3
      subst hk
      rw [← hrow]
      exact getForward_ok s hl 192 0 94 34 [] [] [192] hk1 (by simp) _ hrl hrn [] (by simp) hO hP
     | false =>
      rw [if_neg (by simp)]
      refine getForward_bad s hl k fl 94 34 [] [] [192] hk1 (by simp) [] (by simp) (.inr (.inr ⟨_, _, _, _, _, hrl, hrn, hO, hP, ?_⟩))
      rintro ⟨r1, r2, r3, r4⟩
      cases hb : d.ok with
      | false => rw [hb] at r1; simp at r1
      | true =>
       rw [hb] at r2 r4
       simp only [if_true] at r2 r4
       unfold fwxOk at hd
       simp only [← hdd] at hd
       simp only [hb, r3, r4, hne, h12, decide_true, Bool.and_true] at hd
       cases hd
    ·have hd : fwxOk ⟨k, fl, s⟩ = false := by
      unfold fwxOk
      simp only [decide_eq_false hne, Bool.false_and, Bool.and_false]
     rw [hd, if_neg (by simp)]
     exact getForward_bad s hl k fl 94 34 [] [] [192] hk1 (by simp) [] (by simp) (.inr (.inl ⟨_, _, hrl, hrn, hne, hO⟩))
   ·have hd : fwxOk ⟨k, fl, s⟩ = false := by
     unfold fwxOk
     simp only [decide_eq_false h12, Bool.false_and]
    rw [hd, if_neg (by simp)]
    exact getForward_bad s hl k fl 94 34 [] [] [192] hk1 (by simp) [] (by simp) (.inl (forward1_die s (by omega)))
  ·rw [if_neg hk]
   exact getForward_kind s k fl 94 34 [] [] [192] (by simpa using hk) (by simp)
 have hv : ∃ x1 x2 e, getFwxV c = .tup [.agg [.int .i64 x1, x2], .int .i64 e] ∧ Tx.nf x2 = true := by
  unfold getFwxV
  split
  ·split
   ·exact ⟨_, _, _, rfl, rfl⟩
   ·exact ⟨_, _, _, rfl, rfl⟩
  ·exact ⟨_, _, _, rfl, rfl⟩
 obtain ⟨x1, x2, e, hv, y2⟩ := hv
 rw [hv] at hcall ⊢
 simp only [Ckx.row] at hcall ⊢
 refine bdy Tryz.f46 ?_
 intro F3 hF1 hF2
 simp only [Tryz.f46, cx, go_sem, meths]
 repeat refine sd2 ?_
 refine CallVC.gen (args2 := [.agg [.int .i64 c.kd, .int .i64 c.fl, .str c.bd], .fn (.func 94) [] [], .fn (.func 34) [] [], .fs 1 ([192].map eI)]) (by simp [WkL, Wk, eI]) (hcall _ _ _) ?_
 simp only [wkNL, wkN, unown, go_sem]
 repeat refine sd2 ?_
 exact PostF.same (p := True) (.inr rfl) (by simp only [resVal, resVals, resVal1, one, go_sem]) trivial (by simp [Tx.nf, nfl, y2]) (by simp [UpdAll])
structure Rsx where
 kind : Int
 num : Int
 last : Int
 res : Int
 xs : List Int
def Rsx.v (d : Rsx) : PV := rstP d.kind d.num d.last d.res (.fs 1 (d.xs.map eI))
def Rsx.ok (d : Rsx) : Bool := resetV d.kind d.num d.last d.res d.xs
def Rsx.oct (d : Rsx) : List UInt8 := resetB d.kind d.num d.last d.res d.xs
def rsxG (s : List UInt8) : Rsx := if getB (s.take 1) = 1 then ⟨1, getB ((s.drop 1).take 4), getB ((s.drop 5).take 4), 0, (numsG s 9 2 (resetN s)).map fun x : Nat => (x : Int)⟩ else ⟨2, getB ((s.drop 1).take 4), 0, getB ((s.drop 5).take 1), []⟩
theorem rsxG_row (s : List UInt8) : PV.agg (resetK s) = (rsxG s).v := by
 unfold resetK rsxG
 split
 ·simp only [askK, Rsx.v, rstP, List.map_map]
  congr 2
 ·rfl
theorem rsxG_len (s : List UInt8) : (rsxG s).xs.length ≤ s.length := by
 unfold rsxG
 split
 ·simp only [List.length_map, numsG_len, resetN]; omega
 ·simp
def rsxOk (c : Ckx) : Bool := decide (resetMin c.bd ≤ c.bd.length) && (decide (resetP c.bd = c.bd.length) && ((rsxG c.bd).ok && (decide ((0 : Int) = c.fl) && decide ((rsxG c.bd).oct = c.bd))))
def zRsx (e : Int) : PV := .tup [.agg [.int .i64 0, .int .i64 0, .int .i64 0, .int .i64 0, .nilS], .int .i64 e]
def getRsxV (c : Ckx) : PV := if c.kd = 130 then (if rsxOk c then .tup [(rsxG c.bd).v, .int .i64 0] else zRsx 5) else zRsx 2
theorem getResetT_ok {F : SF} {L nx : Nat} (c : Ckx) (hl : c.bd.length ≤ 1000000) : Con Tryz.prog 47 [.agg c.row] F L nx nx (getRsxV c) [] [] := by
 have hcall : ∀ (F : SF) (L nx : Nat) (na : Nm) (ea : TypeId) (oa pa : Bool), na.l ≤ L → F na = some (.rows ea 1 oa pa [[.fn (.func 95) [] []]]) → Con Tryz.prog 96 [.agg c.row, .fn (.func 97) [] [.ptr na 0 0], .fn (.func 38) [] [], .fs 1 ([130].map eI)] F L nx nx (getRsxV c) [] [na] := by
  intro F L nx na ea oa pa hn hF
  obtain ⟨k, fl, s⟩ := c
  simp only [Ckx.row] at hl ⊢
  unfold getRsxV
  by_cases hk : k = 130
  ·have hk1 : (([130] : List Int).any fun x => k == x) = true := by simpa using hk
   rw [if_pos hk]
   obtain ⟨d, hdd⟩ : ∃ d, d = rsxG s := ⟨_, rfl⟩
   simp only
   rw [← hdd]
   have hrow : PV.agg (resetK s) = d.v := by rw [hdd]; exact rsxG_row s
   have hxl := rsxG_len s
   rw [← hdd] at hxl
   have hrl : (resetK s).length = 5 := by unfold resetK; split <;> rfl
   have hrn : nfl (resetK s) = true := by unfold resetK; split <;> rfl
   have hP : PutOk 38 (resetK s) (if d.ok then 130 else 0) 0 (if d.ok then d.oct else []) (if d.ok then 0 else 320) := by
    intro F L nx
    have h := putReset_ok (F := F) (L := L) (nx := nx) d.kind d.num d.last d.res d.xs (by omega)
    rw [hrow]
    have e : resetV d.kind d.num d.last d.res d.xs = d.ok := rfl
    rw [e] at h
    cases hb : d.ok with
    | true => rw [hb] at h; simp only [if_true] at h ⊢; exact h
    | false => rw [hb] at h; simp only [if_false, Bool.false_eq_true] at h ⊢; exact h
   by_cases h12 : resetMin s ≤ s.length
   ·have hO := reset2_ok (F := F) na ea oa pa hF s h12 hl
    by_cases hne : resetP s = s.length
    ·rw [hne] at hO
     cases hd : rsxOk ⟨k, fl, s⟩ with
     | true =>
      rw [if_pos rfl]
      unfold rsxOk at hd
      simp only [← hdd] at hd
      simp only [Bool.and_eq_true, decide_eq_true_eq] at hd
      obtain ⟨_, _, q1, q3, q4⟩ := hd
      rw [q1] at hP
      simp only [if_true, q4] at hP
      subst q3
      subst hk
      rw [← hrow]
      exact getReset_ok s hl 130 0 97 38 [] [.ptr na 0 0] [130] hk1 (by simp) _ hrl hrn [na] (by simpa using hn) hO hP
     | false =>
      rw [if_neg (by simp)]
      refine getReset_bad s hl k fl 97 38 [] [.ptr na 0 0] [130] hk1 (by simp) [na] (by simpa using hn) (.inr (.inr ⟨_, _, _, _, _, hrl, hrn, hO, hP, ?_⟩))
      rintro ⟨r1, r2, r3, r4⟩
      cases hb : d.ok with
      | false => rw [hb] at r1; simp at r1
      | true =>
       rw [hb] at r2 r4
       simp only [if_true] at r2 r4
       unfold rsxOk at hd
       simp only [← hdd] at hd
       simp only [hb, r3, r4, hne, h12, decide_true, Bool.and_true] at hd
       cases hd
    ·have hd : rsxOk ⟨k, fl, s⟩ = false := by
      unfold rsxOk
      simp only [decide_eq_false hne, Bool.false_and, Bool.and_false]
     rw [hd, if_neg (by simp)]
     exact getReset_bad s hl k fl 97 38 [] [.ptr na 0 0] [130] hk1 (by simp) [na] (by simpa using hn) (.inr (.inl ⟨_, _, hrl, hrn, hne, hO⟩))
   ·have hd : rsxOk ⟨k, fl, s⟩ = false := by
     unfold rsxOk
     simp only [decide_eq_false h12, Bool.false_and]
    rw [hd, if_neg (by simp)]
    exact getReset_bad s hl k fl 97 38 [] [.ptr na 0 0] [130] hk1 (by simp) [na] (by simpa using hn) (.inl (reset2_die na ea oa pa hF s (by omega) hl))
  ·rw [if_neg hk]
   exact con_rds (getReset_kind s k fl 97 38 [] [.ptr na 0 0] [130] (by simpa using hk) (by simp)) (by simp)
 have hv : ∃ x1 x2 x3 x4 x5 e, getRsxV c = .tup [.agg [.int .i64 x1, .int .i64 x2, .int .i64 x3, .int .i64 x4, x5], .int .i64 e] ∧ Tx.nf x5 = true := by
  unfold getRsxV
  split
  ·split
   ·exact ⟨_, _, _, _, _, _, rfl, rfl⟩
   ·exact ⟨_, _, _, _, _, _, rfl, rfl⟩
  ·exact ⟨_, _, _, _, _, _, rfl, rfl⟩
 obtain ⟨x1, x2, x3, x4, x5, e, hv, y5⟩ := hv
 rw [hv] at hcall ⊢
 simp only [Ckx.row] at hcall ⊢
 refine bdy Tryz.f47 ?_
 intro F3 hF1 hF2
 simp only [Tryz.f47, cx, go_sem, meths]
 repeat refine sd2 ?_
 refine CallVC.gen (args2 := [.agg [.int .i64 c.kd, .int .i64 c.fl, .str c.bd], .fn (.func 97) [] [.ptr ⟨L + 1, 96⟩ 0 0], .fn (.func 38) [] [], .fs 1 ([130].map eI)]) (by simp [WkL, Wk, eI]) (hcall _ _ _ ⟨L + 1, 96⟩ 175 true true (by simp) (by simp [wkNL, wkN, unown, SF.upd, SF.set])) ?_
 simp only [wkNL, wkN, unown, go_sem]
 repeat refine sd2 ?_
 exact PostF.same (p := True) (.inr rfl) (by simp only [resVal, resVals, resVal1, one, go_sem]) trivial (by simp [Tx.nf, nfl, y5]) (by simp [UpdAll])
theorem xShort_ok {F : SF} {L nx : Nat} (n : Int) : Con Tryz.prog 57 [.int .i64 n] F L nx nx (.bool (serB 16 n)) [] [] := by
 refine bdy Tryz.f57 ?_
 intro F3 hF1 hF2
 have e : serB 16 n = (decide (0 ≤ n) && decide (n ≤ 65535)) := by
  unfold serB
  rw [show ((2 : Int) ^ Int.toNat 16) = 65536 from rfl]
  congr 1
  exact decide_eq_decide.2 (by omega)
 rw [e]
 cases h1 : decide (0 ≤ n) with
 | false =>
  simp only [Tryz.f57, cx, h1, Bool.false_and, go_sem, meths]
  repeat refine sd2 ?_
  exact PostF.rs (v0 := .bool false) (.inr rfl)
 | true =>
  simp only [Tryz.f57, cx, h1, Bool.true_and, go_sem, meths]
  repeat refine sd2 ?_
  exact PostF.rs (v0 := .bool (decide (n ≤ 65535))) (.inr rfl)
theorem xWide_ok {F : SF} {L nx : Nat} (n : Int) : Con Tryz.prog 58 [.int .i64 n] F L nx nx (.bool (serB 32 n)) [] [] := by
 refine bdy Tryz.f58 ?_
 intro F3 hF1 hF2
 have e : serB 32 n = (decide (0 ≤ n) && decide (n ≤ 4294967295)) := by
  unfold serB
  rw [show ((2 : Int) ^ Int.toNat 32) = 4294967296 from rfl]
  congr 1
  exact decide_eq_decide.2 (by omega)
 rw [e]
 cases h1 : decide (0 ≤ n) with
 | false =>
  simp only [Tryz.f58, cx, h1, Bool.false_and, go_sem, meths]
  repeat refine sd2 ?_
  exact PostF.rs (v0 := .bool false) (.inr rfl)
 | true =>
  simp only [Tryz.f58, cx, h1, Bool.true_and, go_sem, meths]
  repeat refine sd2 ?_
  exact PostF.rs (v0 := .bool (decide (n ≤ 4294967295))) (.inr rfl)
theorem putB_succ (i v : Nat) : putB (i + 1) v = byN (v / 256 ^ i) :: putB i v := by
 simp only [putB, byN, List.range_succ_eq_map, List.map_cons, List.map_map]
 congr 1
 apply List.map_congr_left
 intro j hj
 have := List.mem_range.1 hj
 simp only [Function.comp]
 rw [show i + 1 - 1 - j.succ = i - 1 - j by omega]
theorem rPut_ok {F : SF} {L nx : Nat} (n v : Nat) (hn : n ≤ 100) (hv : v < 2 ^ 62) : Con Tryz.prog 60 [.int .i64 n, .int .i64 v] F L nx nx (.str (putB n v)) [] [] := by
 refine bdy Tryz.f60 ?_
 intro F3 hF1 hF2
 simp only [Tryz.f60, cx, go_sem, meths]
 repeat refine sd2 ?_
 refine loopK.intro _ _ (I := fun i : Nat => ⟨[some (.int .i64 n), some (.int .i64 ((v / 256 ^ i : Nat) : Int)), none, none, none, some (.str (putB i v)), some (.int .i64 i), none, none, none, none, none, none, none, none, none, none, none, none, none, none, none], [], 10000 * (i + 1)⟩) (pre := fun i => i ≤ n) (μ := fun i => n - i) 0 (by omega) ?_ ?_
 ·exact Sub.of (hfz hF2) (by simp only [Nat.pow_zero, Nat.div_one, putB, List.range_zero, List.map_nil, go_sem, subT, and_self, Int.natCast_zero]; try trivial) trivial trivial (by simp)
 ·intro i hi
  have hx : v / 256 ^ i ≤ v := Nat.div_le_self _ _
  obtain ⟨x, hxx⟩ : ∃ x, x = v / 256 ^ i := ⟨_, rfl⟩
  rw [← hxx] at hx ⊢
  have hnx : v / 256 ^ (i + 1) = x / 256 := by rw [hxx, Nat.pow_succ, Nat.div_div_eq_div_mul]
  have hps := putB_succ i v
  rw [← hxx] at hps
  have hpl := putB_len i v
  by_cases hlt : i < n
  ·have f1 : decide ((i : Int) < (n : Int)) = true := dT (by omega)
   have w1 : (x : Int).tmod 256 = ((x % 256 : Nat) : Int) := by rw [Int.tmod_eq_emod_of_nonneg (by omega)]; omega
   have w2 : IntKind.u8.wrap ((x % 256 : Nat) : Int) = ((x % 256 : Nat) : Int) := by rw [IntKind.wrap_u8]; omega
   have w3 : (x : Int).tdiv 256 = ((x / 256 : Nat) : Int) := by rw [Int.tdiv_eq_ediv_of_nonneg (by omega)]; omega
   have w4 : bytesP [[.int .u8 ((x % 256 : Nat) : Int)]] = [byN x] := by simp only [bytesP, byteP, List.map_cons, List.map_nil, byN, Int.toNat_natCast]
   simp only [f1, w1, w2, w3, Nat.add_assoc, go_sem]
   simp only [w4]
   refine ⟨by omega, by intro row h; simp only [List.mem_cons, List.not_mem_nil, or_false] at h; exact ⟨_, h⟩, by simp only [List.length_cons, List.length_nil]; omega, ⟨by omega, by omega, by omega⟩, ⟨by omega, by omega⟩, ?_⟩
   refine ⟨i + 1, by omega, by omega, Sub.of (hfz hF2) (by simp only [hnx, hps, List.cons_append, List.nil_append, go_sem, subT, and_self, Int.natCast_succ]; try trivial) trivial (by simp [subK, keys]) (by simp only []; omega)⟩
  ·have f1 : decide ((i : Int) < (n : Int)) = false := dF (by omega)
   have hin : i = n := by omega
   subst hin
   simp only [f1, Nat.add_assoc, go_sem]
   repeat refine sd2 ?_
   exact PostF.rs (v0 := .str (putB i v)) (.inr rfl)
theorem rNumber_ok {F : SF} {L nx : Nat} (s : List UInt8) (hs : s.length ≤ 7) : Con Tryz.prog 76 [.str s] F L nx nx (.int .i64 (getB s)) [] [] := by
 refine bdy Tryz.f76 ?_
 intro F3 hF1 hF2
 simp only [Tryz.f76, cx, go_sem, meths]
 repeat refine sd2 ?_
 refine loopK.intro _ _ (I := fun i : Nat => ⟨[some (.str s), none, none, some (.int .i64 (getB (s.take i))), some (.int .i64 i), none, none, none, none, none, none, none, none, none, none, none, none, none, none], [], 10000 * (i + 1)⟩) (pre := fun i => i ≤ s.length) (μ := fun i => s.length - i) 0 (by omega) ?_ ?_
 ·exact Sub.of (hfz hF2) (by simp only [List.take_zero, getB, List.foldl_nil, go_sem, subT, and_self, Int.natCast_zero]; try trivial) trivial trivial (by simp)
 ·intro i hi
  have hg := getB_lt (s.take i)
  by_cases hlt : i < s.length
  ·have hg2 : getB (s.take i) < 256 ^ 6 := Nat.lt_of_lt_of_le hg (Nat.pow_le_pow_right (by omega) (by rw [List.length_take]; omega))
   have f1 : decide ((i : Int) < (s.length : Int)) = true := dT (by omega)
   have hsu := getB_succ s hlt
   obtain ⟨x, hxx⟩ : ∃ x, x = getB (s.take i) := ⟨_, rfl⟩
   rw [← hxx] at hg2 hsu ⊢
   have hc := (s.getD i 0).toNat_lt
   have w1 : IntKind.i64.wrap (((s.getD i 0).toNat : Nat) : Int) = (((s.getD i 0).toNat : Nat) : Int) := by rw [IntKind.wrap_i64]; omega
   have e1 : ((getB (s.take (i + 1)) : Nat) : Int) = 256 * (x : Int) + (((s.getD i 0).toNat : Nat) : Int) := by rw [hsu]; omega
   simp only [f1, w1, Int.toNat_natCast, Nat.add_assoc, go_sem]
   repeat refine sd2 ?_
   refine ⟨i + 1, by omega, by omega, Sub.of (hfz hF2) (by simp only [e1, go_sem, subT, and_self, Int.natCast_succ]; try trivial) trivial (by simp [subK]) (by simp only []; omega)⟩
  ·have f1 : decide ((i : Int) < (s.length : Int)) = false := dF (by omega)
   have hin : i = s.length := by omega
   subst hin
   rw [List.take_length]
   simp only [f1, Nat.add_assoc, go_sem]
   repeat refine sd2 ?_
   exact PostF.rs (v0 := .int .i64 (getB s)) (.inr rfl)
theorem mapN (xs : List Int) (h : ∀ x ∈ xs, 0 ≤ x) : (xs.map Int.toNat).map (fun x : Nat => (x : Int)) = xs := by
 rw [List.map_map]
 conv => rhs; rw [← List.map_id xs]
 apply List.map_congr_left
 intro x hx
 have := h x hx
 simp only [Function.comp, id]; omega
theorem mapK (xs : List (Int × Int)) (h : ∀ x ∈ xs, 0 ≤ x.1 ∧ 0 ≤ x.2) : (xs.map fun k => (k.1.toNat, k.2.toNat)).map kN = xs := by
 rw [List.map_map]
 conv => rhs; rw [← List.map_id xs]
 apply List.map_congr_left
 intro x hx
 have := h x hx
 simp only [Function.comp, id, kN]
 exact Prod.ext (by simp only []; omega) (by simp only []; omega)
theorem getD_mem {α : Type} {xs : List α} {x a : α} (h : x ∈ xs) : ∃ i, i < xs.length ∧ xs.getD i a = x := by
 obtain ⟨i, hi, e⟩ := List.getElem_of_mem h
 exact ⟨i, hi, by simp [List.getD_eq_getElem?_getD, hi, e]⟩
theorem fwdB {cum : Int} {sk : List (Int × Int)} (h : fwdV cum sk = true) : (∀ x ∈ sk, 0 ≤ x.1 ∧ x.1 < 65536 ∧ 0 ≤ x.2 ∧ x.2 < 65536) ∧ 0 ≤ cum ∧ cum < 2 ^ 32 ∧ sk.length ≤ 30 := by
 unfold fwdV at h
 simp only [Bool.and_eq_true, List.all_eq_true, List.mem_range, decide_eq_true_eq] at h
 obtain ⟨h1, h2, h3⟩ := h
 have hc := serB_nat h2
 have hcc : cum.toNat < 4294967296 := hc.2
 refine ⟨fun x hx => ?_, by omega, by omega, h3⟩
 obtain ⟨i, hi, e⟩ := getD_mem (a := ((0, 0) : Int × Int)) hx
 have h4 := h1 i hi
 unfold okSk at h4
 rw [e] at h4
 simp only [Bool.and_eq_true] at h4
 obtain ⟨⟨q1, q2⟩, _⟩ := h4
 have p1 := serB_nat q1
 have p2 := serB_nat q2
 have p3 : x.1.toNat < 65536 := p1.2
 have p4 : x.2.toNat < 65536 := p2.2
 omega
theorem sackB {cum win : Int} {gs : List (Int × Int)} {ds : List Int} (h : sackV cum win gs ds = true) : (∀ x ∈ gs, 0 ≤ x.1 ∧ x.1 < 65536 ∧ 0 ≤ x.2 ∧ x.2 < 65536) ∧ (0 ≤ cum ∧ cum < 2 ^ 32) ∧ (0 ≤ win ∧ win < 2 ^ 32) ∧ gs.length ≤ 30 ∧ ds.length ≤ 20 ∧ ∀ x ∈ ds, 0 ≤ x ∧ x < 2 ^ 32 := by
 unfold sackV at h
 simp only [Bool.and_eq_true, List.all_eq_true, List.mem_range, decide_eq_true_eq] at h
 obtain ⟨h1, ⟨h2, h3⟩, h4, h5, h6⟩ := h
 have hc := serB_nat h2
 have hcc : cum.toNat < 4294967296 := hc.2
 have hw := serB_nat h3
 have hww : win.toNat < 4294967296 := hw.2
 have key : ∀ i, i < gs.length → 0 ≤ befG gs i ∧ 0 ≤ (gs.getD i (0, 0)).1 ∧ (gs.getD i (0, 0)).1 ≤ (gs.getD i (0, 0)).2 ∧ (gs.getD i (0, 0)).2 ≤ 65535 := by
  intro i
  induction i with
  | zero =>
   intro hi
   have h7 := h1 0 hi
   unfold okGp at h7
   simp only [Bool.and_eq_true, decide_eq_true_eq] at h7
   have hb : befG gs 0 = 0 := by simp [befG]
   rw [hb] at h7 ⊢
   omega
  | succ i ih =>
   intro hi
   have h8 := ih (by omega)
   have h7 := h1 (i + 1) hi
   unfold okGp at h7
   simp only [Bool.and_eq_true, decide_eq_true_eq] at h7
   have hb : befG gs (i + 1) = (gs.getD i (0, 0)).2 := by simp [befG]
   rw [hb] at h7 ⊢
   omega
 refine ⟨fun x hx => ?_, by omega, by omega, h4, h5, fun x hx => ?_⟩
 ·obtain ⟨i, hi, e⟩ := getD_mem (a := ((0, 0) : Int × Int)) hx
  have := key i hi
  rw [e] at this
  omega
 ·have h7 := serB_nat (h6 x hx)
  have h8 : x.toNat < 4294967296 := h7.2
  omega
theorem rstB {k n la r : Int} {xs : List Int} (h : resetV k n la r xs = true) : (0 ≤ n ∧ n < 2 ^ 32) ∧ (0 ≤ la ∧ la < 2 ^ 32) ∧ (0 ≤ r ∧ r < 256) ∧ (∀ x ∈ xs, 0 ≤ x ∧ x < 65536) ∧ ((k = 2 ∧ la = 0 ∧ xs = []) ∨ (k = 1 ∧ r = 0 ∧ 1 ≤ xs.length ∧ xs.length ≤ 30)) := by
 unfold resetV at h
 simp only [Bool.and_eq_true] at h
 obtain ⟨⟨⟨⟨h1, h2⟩, h3⟩, h4⟩, h5⟩ := h
 have p2 := serB_nat h2
 have q2 : n.toNat < 4294967296 := p2.2
 have p3 := serB_nat h3
 have q3 : la.toNat < 4294967296 := p3.2
 have p4 := serB_nat h4
 have q4 : r.toNat < 256 := p4.2
 refine ⟨by omega, by omega, by omega, fun x hx => ?_, ?_⟩
 ·unfold incB at h1
  simp only [List.all_eq_true, List.mem_range, Bool.and_eq_true] at h1
  obtain ⟨i, hi, e⟩ := getD_mem (a := (0 : Int)) hx
  have h6 := (h1 i hi).1
  rw [e] at h6
  have h7 := serB_nat h6
  have h8 : x.toNat < 65536 := h7.2
  omega
 ·split at h5
  ·rename_i hk
   simp only [Bool.and_eq_true, beq_iff_eq, List.isEmpty_iff] at h5
   exact .inl ⟨hk, h5⟩
  ·simp only [Bool.and_eq_true, beq_iff_eq, decide_eq_true_eq] at h5
   exact .inr ⟨h5.1.1.1, h5.1.1.2, h5.1.2, h5.2⟩
end Go.Proofs.YtaacfnngodhecaaGreatDoor
end
section
namespace Go.Proofs.YtaacfnngodhecaaGreatDoor
open Go.ChangeShapes Go.WideShapes Go.ChangeAt Go.RowKit Go.Tx
set_option maxRecDepth 100000
end Go.Proofs.YtaacfnngodhecaaGreatDoor
end
