/- Lemmas for the walk: WK35, WK44, WK45, WK46, WD21, WK47, WK49, WK36, WK37, WK51. -/
import Derived.Test.YtaacfnngodhecaaGreatDoorP18
import Derived.Test.YtaacfnngodhecaaGreatDoorP16
import Derived.Test.YtaacfnngodhecaaGreatDoorP17
import Derived.Test.YtaacfnngodhecaaGreatDoorP12
import Derived.Test.YtaacfnngodhecaaGreatDoorP19
set_option linter.all false
section
namespace Go.Proofs.YtaacfnngodhecaaGreatDoor
open Go.Tx
set_option maxRecDepth 100000
set_option maxHeartbeats 1000000
theorem xPutSack_ok {F : SF} {L nx : Nat} (cum win : Nat) (gs : List (Nat × Nat)) (ds : List Nat) (h1 : cum < 2 ^ 32) (h1w : win < 2 ^ 32) (h2 : ∀ k ∈ gs, k.1 < 65536 ∧ k.2 < 65536) (h3 : ∀ x ∈ ds, x < 2 ^ 32) (hlen : gs.length ≤ 30) (hdl : ds.length ≤ 20) :
  Con Tryz.prog 28 [sackP cum win (gs.map kN) (ds.map fun x : Nat => (x : Int))] F L nx nx (.agg [.int .i64 3, .int .i64 0, .str (sackT cum win gs ds)]) [] [] := by
 refine bdy Tryz.f28 ?_
 intro F3 hF1 hF2
 have hds : (ds.map fun x : Nat => (x : Int)).map eI = ds.map eN := by simp [eI, eN]
 have p4 : ∀ (v : Nat), (putB 4 v).length = 4 := putB_len 4
 have p2 : ∀ (v : Nat), (putB 2 v).length = 2 := putB_len 2
 simp only [Tryz.f28, cx, sackP, hds, Nat.add_zero, go_sem, meths]
 repeat refine sd2 ?_
 refine CallVC.same (rPut_ok 4 cum (by omega) (by omega)) ?_
 simp only [go_sem]
 repeat refine sd2 ?_
 refine CallVC.same (rPut_ok 4 win (by omega) (by omega)) ?_
 simp only [p4, List.length_map, go_sem]
 repeat refine sd2 ?_
 refine CallVC.same (rPut_ok 2 gs.length (by omega) (by omega)) ?_
 simp only [p4, p2, List.length_append, List.length_map, go_sem]
 repeat refine sd2 ?_
 refine CallVC.same (rPut_ok 2 ds.length (by omega) (by omega)) ?_
 simp only [p4, p2, List.length_append, go_sem]
 repeat refine sd2 ?_
 refine ⟨okDyn_num (fun x => x.i) (by kernel_rfl), ?_⟩
 repeat refine sd2 ?_
 obtain ⟨T, hT⟩ : ∃ T : Nat → List UInt8, T = fun i => putB 4 cum ++ putB 4 win ++ putB 2 gs.length ++ putB 2 ds.length ++ (gs.take i).flatMap fun k => putB 2 k.1 ++ putB 2 k.2 := ⟨_, rfl⟩
 have hT0 : T 0 = putB 4 cum ++ putB 4 win ++ putB 2 gs.length ++ putB 2 ds.length := by rw [hT]; simp
 have hTl : ∀ i, (T i).length ≤ 12 + 4 * gs.length := by
  intro i
  rw [hT]
  simp only [List.length_append, p4, p2, skT_len, List.length_take]
  omega
 refine loopK.intro _ _ (I := fun i : Nat => ⟨[none, some (.ptr ⟨L + 1, 0⟩ 0 0), some (.ptr ⟨L + 1, 32⟩ 0 0), some (.str (T i)), some (.int .i64 i), none, none, none, none, none, none, none, none, none, none, none, none, none, none, none, none, none, none, none, none, none, none, none, none, none, none, none, none, none, none, none, none, none, none, none, none, none, none, none, none, none, none, none, none, none, none, none, none, none, none, none, none, none, none, none, none, none, none, none],
  [(⟨L + 1, 0⟩, .rows 55 4 true true [[.int .i64 cum, .int .i64 win, .fs 2 ((gs.map kN).map kE), .fs 1 (ds.map eN)]]), (⟨L + 1, 32⟩, .rows 34 3 true true [[.int .i64 0, .int .i64 0, .str []]])], 10000 * (i + 1)⟩) (pre := fun i => i ≤ gs.length) (μ := fun i => gs.length - i) 0 (by omega) ?_ ?_
 ·refine Sub.of (hfz hF2) (by simp only [hT0, go_sem, subT, and_self, Int.natCast_zero]; try trivial) ?_ (by simp [subK, keys]) (by simp)
  simp [subH, Tx.look]
 ·intro i hi
  have hl := hTl i
  by_cases hlt : i < gs.length
  ·have f1 : decide ((i : Int) < (gs.length : Int)) = true := dT (by omega)
   have r0 := rowK (sk := gs.map kN) (i := i) (by simpa using hlt)
   obtain ⟨k, hk⟩ : ∃ k, k = gs[i] := ⟨_, rfl⟩
   have e0 : (gs.map kN).getD i (0, 0) = kN k := by rw [hk]; simp [hlt, List.getD_eq_getElem?_getD]
   rw [e0] at r0
   have hkb := h2 k (by rw [hk]; exact List.getElem_mem hlt)
   have hTs : T (i + 1) = T i ++ putB 2 k.1 ++ putB 2 k.2 := by
    rw [hT]
    simp only
    rw [List.take_succ_eq_append_getElem hlt, List.flatMap_append, ← hk]
    simp
   simp only [f1, r0, kE, kN, Int.toNat_natCast, List.length_map, Nat.add_assoc, Nat.add_zero, go_sem]
   repeat refine sd2 ?_
   refine CallVC.same (rPut_ok 2 k.1 (by omega) (by omega)) ?_
   simp only [r0, kE, kN, p2, Int.toNat_natCast, List.length_map, Nat.add_assoc, go_sem]
   repeat refine sd2 ?_
   refine CallVC.same (rPut_ok 2 k.2 (by omega) (by omega)) ?_
   simp only [p2, List.length_append, Nat.add_assoc, go_sem]
   refine ⟨by omega, okDyn_num (fun x => x.i) (by kernel_rfl), ?_⟩
   repeat refine sd2 ?_
   refine ⟨i + 1, by omega, by omega, Sub.of (hfz hF2) (by simp only [hTs, go_sem, subT, and_self, Int.natCast_succ]; try trivial) ?_ (by simp [subK, keys]) (by simp only []; omega)⟩
   simp [subH, Tx.look]
  ·have f1 : decide ((i : Int) < (gs.length : Int)) = false := dF (by omega)
   have hin : i = gs.length := by omega
   subst hin
   simp only [f1, List.length_map, Nat.add_assoc, go_sem]
   repeat refine sd2 ?_
   obtain ⟨U, hU⟩ : ∃ U : Nat → List UInt8, U = fun i => T gs.length ++ (ds.take i).flatMap (putB 4) := ⟨_, rfl⟩
   have hU0 : U 0 = T gs.length := by rw [hU]; simp
   have hUl : ∀ i, (U i).length ≤ 12 + 4 * gs.length + 4 * ds.length := by
    intro i
    have e : ∀ l : List Nat, (l.flatMap (putB 4)).length = 4 * l.length := by
     intro l
     induction l with
     | nil => rfl
     | cons a l ih => rw [List.flatMap_cons, List.length_append, ih, p4, List.length_cons]; omega
    rw [hU]
    simp only [List.length_append, e, List.length_take]
    omega
   refine loopK.intro _ _ (I := fun i : Nat => ⟨[none, some (.ptr ⟨L + 1, 0⟩ 0 0), some (.ptr ⟨L + 1, 32⟩ 0 0), some (.str (U i)), none, some (.int .i64 i), none, none, none, none, none, none, none, none, none, none, none, none, none, none, none, none, none, none, none, none, none, none, none, none, none, none, none, none, none, none, none, none, none, none, none, none, none, none, none, none, none, none, none, none, none, none, none, none, none, none, none, none, none, none, none, none, none, none],
    [(⟨L + 1, 0⟩, .rows 55 4 true true [[.int .i64 cum, .int .i64 win, .fs 2 ((gs.map kN).map kE), .fs 1 (ds.map eN)]]), (⟨L + 1, 32⟩, .rows 34 3 true true [[.int .i64 0, .int .i64 0, .str []]])], 10000 * (gs.length + 2) + 10000 * (i + 1)⟩) (pre := fun i => i ≤ ds.length) (μ := fun i => ds.length - i) 0 (by omega) ?_ ?_
   ·refine Sub.of (hfz hF2) (by simp only [hU0, go_sem, subT, and_self, Int.natCast_zero]; try trivial) ?_ (by simp [subK, keys]) (by simp only []; omega)
    simp [subH, Tx.look]
   ·intro i hi
    have hl := hUl i
    by_cases hlt : i < ds.length
    ·have f1 : decide ((i : Int) < (ds.length : Int)) = true := dT (by omega)
     obtain ⟨k, hk⟩ : ∃ k, k = ds[i] := ⟨_, rfl⟩
     have r0 : (ds.map eN).getD i [] = [.int .i64 (k : Int)] := by rw [hk]; simp [eN, hlt, List.getD_eq_getElem?_getD]
     have hkb := h3 k (by rw [hk]; exact List.getElem_mem hlt)
     have hUs : U (i + 1) = U i ++ putB 4 k := by
      rw [hU]
      simp only
      rw [List.take_succ_eq_append_getElem hlt, List.flatMap_append, ← hk]
      simp
     simp only [f1, r0, Int.toNat_natCast, List.length_map, Nat.add_assoc, go_sem]
     repeat refine sd2 ?_
     refine CallVC.same (rPut_ok 4 k (by omega) (by omega)) ?_
     simp only [p4, Nat.add_assoc, go_sem]
     repeat refine sd2 ?_
     refine ⟨i + 1, by omega, by omega, Sub.of (hfz hF2) (by simp only [hUs, go_sem, subT, and_self, Int.natCast_succ]; try trivial) ?_ (by simp [subK, keys]) (by simp only []; omega)⟩
     simp [subH, Tx.look]
    ·have f1 : decide ((i : Int) < (ds.length : Int)) = false := dF (by omega)
     have hin : i = ds.length := by omega
     subst hin
     have hUe : U ds.length = sackT cum win gs ds := by rw [hU, hT]; simp [sackT, List.append_assoc]
     rw [← hUe]
     simp only [f1, List.length_map, Nat.add_assoc, go_sem]
     repeat refine sd2 ?_
     exact PostF.same (p := True) (.inr rfl) (by simp only [resVal, resVals, resVal1, one, go_sem]) trivial (by simp [Tx.nf, nfl]) (by simp [UpdAll])
theorem ckExt {a b : Ckx} (h1 : a.kd = b.kd) (h2 : a.fl = b.fl) (h3 : a.bd = b.bd) : a = b := by cases a; cases b; simp_all
theorem pkExt {a b : Pkx} (h1 : a.fr = b.fr) (h2 : a.tt = b.tt) (h3 : a.tg = b.tg) (h4 : a.cs = b.cs) : a = b := by cases a; cases b; simp_all
theorem rSameP_ok {F : SF} {L nx : Nat} (p q : Pkx) (hp : p.cs.length ≤ 1000000) (hq : q.cs.length ≤ 1000000) (b : Bool) (hb : b = true ↔ p = q) :
  Con Tryz.prog 19 [.agg p.row, .agg q.row] F L nx nx (.bool b) [] [] := by
 have no : p ≠ q → b = false := fun h => by
  cases hb' : b with
  | false => rfl
  | true => exact absurd (hb.1 hb') h
 refine bdy Tryz.f19 ?_
 intro F3 hF1 hF2
 simp only [Pkx.row]
 by_cases h1 : p.fr = q.fr
 rotate_left
 ·have f1 : (p.fr != q.fr) = true := by simpa using h1
  rw [no (fun h => h1 (by rw [h]))]
  simp only [Tryz.f19, cx, f1, Nat.add_zero, go_sem, meths]
  exact .bool (.inr rfl) rfl rfl (by simp [UpdAll])
 have f1 : (p.fr != q.fr) = false := by simpa using h1
 by_cases h2 : p.tt = q.tt
 rotate_left
 ·have f2 : (p.tt != q.tt) = true := by simpa using h2
  rw [no (fun h => h2 (by rw [h]))]
  simp only [Tryz.f19, cx, f1, f2, Nat.add_zero, go_sem, meths]
  exact .bool (.inr rfl) rfl rfl (by simp [UpdAll])
 have f2 : (p.tt != q.tt) = false := by simpa using h2
 by_cases h3 : p.tg = q.tg
 rotate_left
 ·have f3 : (p.tg != q.tg) = true := by simpa using h3
  rw [no (fun h => h3 (by rw [h]))]
  simp only [Tryz.f19, cx, f1, f2, f3, Nat.add_zero, go_sem, meths]
  exact .bool (.inr rfl) rfl rfl (by simp [UpdAll])
 have f3 : (p.tg != q.tg) = false := by simpa using h3
 by_cases h4 : p.cs.length = q.cs.length
 rotate_left
 ·have f4 : ((p.cs.length : Int) != (q.cs.length : Int)) = true := by simp; omega
  rw [no (fun h => h4 (by rw [h]))]
  simp only [Tryz.f19, cx, f1, f2, f3, f4, List.length_map, Nat.add_zero, go_sem, meths]
  exact .bool (.inr rfl) rfl rfl (by simp [UpdAll])
 have f4 : ((p.cs.length : Int) != (q.cs.length : Int)) = false := by simp; omega
 simp only [Tryz.f19, cx, f1, f2, f3, f4, List.length_map, Nat.add_zero, go_sem, meths]
 refine loopK.intro _ _ (I := fun i : Nat => ⟨[none, none, some (.ptr ⟨L + 1, 0⟩ 0 0), some (.ptr ⟨L + 1, 32⟩ 0 0), none, some (.int .i64 i), none, none, none, none, none, none, none, none, none, none, none, none, none, none, none, none, none, none, none, none, none, none, none, none, none, none, none, none, none, none, none, none, none, none, none, none, none, none, none, none, none, none, none, none, none, none], [(⟨L + 1, 0⟩, .rows 24 4 true true [p.row]), (⟨L + 1, 32⟩, .rows 24 4 true true [q.row])], 10000 * (i + 1)⟩)
  (pre := fun i => i ≤ p.cs.length ∧ ∀ j (h1 : j < p.cs.length) (h2 : j < q.cs.length), j < i → p.cs[j] = q.cs[j]) (μ := fun i => p.cs.length - i) 0 ⟨by omega, by intro j _ _ h; omega⟩ ?_ ?_
 ·refine Sub.of (hfz hF2) (by simp only [go_sem, subT, and_self, Int.natCast_zero]) ?_ (by simp [subK, keys]) (by simp)
  simp [subH, Tx.look, Pkx.row]
 ·rintro i ⟨hi, hpr⟩
  by_cases hlt : i < p.cs.length
  ·have g1 : decide ((i : Int) < (p.cs.length : Int)) = true := dT (by omega)
   have r0 := rowCk hlt
   have r1 := rowCk (cs := q.cs) (i := i) (by omega)
   obtain ⟨x, hx⟩ : ∃ x, x = p.cs[i] := ⟨_, rfl⟩
   obtain ⟨y, hy⟩ : ∃ y, y = q.cs[i] := ⟨_, rfl⟩
   rw [← hx] at r0
   rw [← hy] at r1
   by_cases hxy : x = y
   ·have b1 : (!(x.kd == y.kd && (x.fl == y.fl && x.bd == y.bd))) = false := by rw [hxy]; simp
    simp only [g1, r0, r1, b1, Ckx.row, Pkx.row, List.length_map, Nat.add_assoc, go_sem]
    refine ⟨by kernel_rfl, ?_⟩
    repeat refine sd2 ?_
    refine ⟨okDyn_num (fun x => x.i % 10000) (by simp only [numF, List.map, Nat.reduceMod]; kernel_rfl), ?_⟩
    repeat refine sd2 ?_
    refine ⟨i + 1, ⟨by omega, fun j a1 a2 hj => ?_⟩, by omega, ?_⟩
    ·rcases Nat.lt_or_ge j i with h | h
     ·exact hpr j a1 a2 h
     ·have : j = i := by omega
      subst this
      rw [← hx, ← hy, hxy]
    ·refine Sub.o hF2 ?_
     simp [subH, Tx.look]
   ·have b1 : (!(x.kd == y.kd && (x.fl == y.fl && x.bd == y.bd))) = true := by
     cases hb9 : (x.kd == y.kd && (x.fl == y.fl && x.bd == y.bd)) with
     | false => rfl
     | true =>
      simp only [Bool.and_eq_true, beq_iff_eq] at hb9
      exact absurd (ckExt hb9.1 hb9.2.1 hb9.2.2) hxy
    simp only [g1, r0, r1, b1, Ckx.row, Pkx.row, List.length_map, Nat.add_assoc, go_sem]
    refine ⟨by kernel_rfl, ?_⟩
    repeat refine sd2 ?_
    refine ⟨okDyn_num (fun x => x.i % 10000) (by simp only [numF, List.map, Nat.reduceMod]; kernel_rfl), ?_⟩
    repeat refine sd2 ?_
    rw [no (fun h => hxy (by rw [hx, hy]; congr 1; rw [h]))]
    exact .bool (.inr rfl) rfl rfl (by simp [UpdAll])
  ·have g1 : decide ((i : Int) < (p.cs.length : Int)) = false := dF (by omega)
   simp only [g1, Pkx.row, List.length_map, Nat.add_assoc, go_sem]
   have heq : p = q := pkExt h1 h2 h3 (List.ext_getElem h4 fun k a1 a2 => hpr k a1 a2 (by omega))
   rw [hb.2 heq]
   exact .bool (.inr rfl) rfl rfl (by simp [UpdAll])
theorem lawFails_ok {F : SF} {L nx : Nat} : Con Tryz.prog 55 [.agg [.int .i64 0, .int .i64 0, .str []], .int .i64 320] F L nx nx (.bool true) [] [] := by
 refine bdy Tryz.f55 ?_
 intro F3 hF1 hF2
 simp only [Tryz.f55, cx, go_sem, meths]
 exact .bool (.inr rfl) rfl rfl (by simp [UpdAll])
def dgs : List UInt8 := [48, 49, 50, 51, 52, 53, 54, 55, 56, 57, 97, 98, 99, 100, 101, 102]
def dgP : List PV := [.int .u8 48, .int .u8 49, .int .u8 50, .int .u8 51, .int .u8 52, .int .u8 53, .int .u8 54, .int .u8 55, .int .u8 56, .int .u8 57, .int .u8 97, .int .u8 98, .int .u8 99, .int .u8 100, .int .u8 101, .int .u8 102]
theorem digits_ok {F : SF} {L nx : Nat} : Con Tryz.prog 133 [] F L nx nx (.agg dgP) [] [] := by
 refine bdy Tryz.f133 ?_
 intro F3 hF1 hF2
 simp only [Tryz.f133, cx, go_sem, meths]
 exact PostF.same (p := True) (.inr rfl) (by simp only [dgP, resVal, resVals, resVal1, one, go_sem]) trivial (by rfl) (by simp [UpdAll])
theorem dg_at (k : Nat) (h : k < 16) : dgP.getD k (.tup []) = .int .u8 ((dgs.getD k 0).toNat) := by
 have : ∀ k, k < 16 → dgP[k]? = some (PV.int .u8 ((dgs.getD k 0).toNat)) := by
  intro k hk
  rcases k with _ | _ | _ | _ | _ | _ | _ | _ | _ | _ | _ | _ | _ | _ | _ | _ | k <;> first | rfl | omega
 rw [List.getD_eq_getElem?_getD, this k h]; rfl
theorem and15 (n : Nat) (h : n < 256) : Sx.ibits .and .u8 (n : Int) 15 = ((n % 16 : Nat) : Int) := by
 have : ∀ n : Nat, n < 256 → Sx.ibits .and .u8 (n : Int) 15 = ((n % 16 : Nat) : Int) := of_decide_eq_true (by kernel_rfl)
 exact this n h
theorem shr4 (n : Nat) : (n : Int).fdiv (2 ^ min 4 8) = ((n / 16 : Nat) : Int) := by
 rw [Int.fdiv_eq_ediv_of_nonneg _ (by decide)]
 have : (2 : Int) ^ min 4 8 = 16 := by decide
 rw [this]; omega
def hexS (s : List UInt8) : List UInt8 := s.flatMap fun c => [dgs.getD (c.toNat / 16) 0, dgs.getD (c.toNat % 16) 0]
theorem Hex_ok {F : SF} {L nx : Nat} (s : List UInt8) (hs : s.length ≤ 100000) : Con Tryz.prog 105 [.str s] F L nx nx (.str (hexS s)) [] [] := by
 refine bdy Tryz.f105 ?_
 intro F3 hF1 hF2
 have dgl : dgP.length = 16 := rfl
 have dgn : nfl dgP = true := rfl
 simp only [Tryz.f105, cx, go_sem, meths]
 refine CallVC.same digits_ok ?_
 simp only [dgl, dgn, go_sem]
 repeat refine sd2 ?_
 refine loopK.intro _ _ (I := fun z : Nat × Nat => ⟨[some (.str s), none, none, some (.ptr ⟨L + 1, 32⟩ 0 0), some (.sl ⟨L + 1, z.2⟩ 0 (2 * z.1)), none, none, none, some (.int .i64 s.length), some (.int .i64 z.1), none, none, none, none, none, none, none, none, none, none, none, none, none, none, none, none, none, none, none, none], [(⟨L + 1, 32⟩, .rows 215 16 true true [dgP]), (⟨L + 1, z.2⟩, .rows 5 1 true true ((hexS (s.take z.1)).map rowB))], 10000 * (z.1 + 1)⟩)
  (pre := fun z => z.1 ≤ s.length ∧ 100 ≤ z.2 ∧ z.2 < 10000 * (z.1 + 1)) (μ := fun z => s.length - z.1) (0, 224) ⟨by simp, by simp, by simp⟩ ?_ ?_
 ·refine Sub.trans (Sub.nilName 4 5 (wd := 1) (by omega) rfl) ?_
  refine Sub.of (hfz hF2) (by simp only [Nat.mul_zero, go_sem, subT, and_self, Int.natCast_zero]; try trivial) ?_ ?_ ?_
  ·simp [subH, Tx.look, updH, setH, hexS]
  ·simp [subK, keys, updH, setH]
  ·simp
 ·rintro ⟨i, q⟩ ⟨hi, hq0, hq⟩
  simp only at hi hq0 hq ⊢
  have q_0 : (q = 0) = False := by apply eq_false; omega
  have n0_q : (0 = q) = False := by apply eq_false; omega
  have q_32 : (q = 32) = False := by apply eq_false; omega
  have n32_q : (32 = q) = False := by apply eq_false; omega
  obtain ⟨q_n1, q_n2, q_n3, q_n4, q_n5⟩ := nqL L (i := i) (p := q) (by omega)
  by_cases hlt : i < s.length
  ·have f1 : decide ((i : Int) < (s.length : Int)) = true := dT (by omega)
   obtain ⟨c, hc⟩ : ∃ c, c = s[i] := ⟨_, rfl⟩
   have r0 : s.getD i 0 = c := by rw [hc]; simp [List.getD_eq_getElem?_getD, hlt]
   have hc8 := c.toNat_lt
   have k1 := shr4 c.toNat
   have k2 := and15 c.toNat (by omega)
   have k3 := dg_at (c.toNat / 16) (by omega)
   have k4 := dg_at (c.toNat % 16) (by omega)
   have k5 : hexS (s.take (i + 1)) = hexS (s.take i) ++ [dgs.getD (c.toNat / 16) 0, dgs.getD (c.toNat % 16) 0] := by
    rw [List.take_succ_eq_append_getElem hlt, ← hc]; simp [hexS]
   have hl2 : (hexS (s.take i)).length = 2 * i := by
    have : ∀ l : List UInt8, (hexS l).length = 2 * l.length := by
     intro l
     induction l with
     | nil => rfl
     | cons a l ih => simp only [hexS, List.flatMap_cons, List.length_append, List.length_cons, List.length_nil] at ih ⊢; omega
    rw [this, List.length_take]; omega
   simp only [f1, r0, k1, k2, k3, k4, Nat.mul_one, List.length_map, q_32, n32_q, q_n1, q_n2, q_n5, kS2, kS3, Nat.add_assoc, go_sem]
   refine ⟨by kernel_rfl, ?_⟩
   repeat refine sd2 ?_
   refine ⟨okDyn_num (fun x => if x.i = q then 1 else x.i % 10000 + 100) (by simp only [numF, List.map, n32_q, q_n1, if_true, if_false, Nat.mul_add_mod, Nat.reduceMod]; kernel_rfl), ?_⟩
   repeat refine sd2 ?_
   refine ⟨(i + 1, 10000 * (i + 1) + 544), ⟨by simp only []; omega, by simp only []; omega, by simp only []; omega⟩, by simp only []; omega, ?_⟩
   refine Sub.of (hfz hF2) (by simp only [Nat.mul_add, Nat.mul_one, go_sem, subT, and_self, Int.natCast_succ]) ?_ (by simp [subK, keys]) (by simp only []; omega)
   simp [subH, Tx.look, k5, rowB, q_n1, kS2]
  ·have hin : i = s.length := by omega
   subst hin
   have f1 : decide ((s.length : Int) < (s.length : Int)) = false := dF (by omega)
   have hl2 : (hexS s).length = 2 * s.length := by
    have : ∀ l : List UInt8, (hexS l).length = 2 * l.length := by
     intro l
     induction l with
     | nil => rfl
     | cons a l ih => simp only [hexS, List.flatMap_cons, List.length_append, List.length_cons, List.length_nil] at ih ⊢; omega
    rw [this]
   rw [List.take_of_length_le (Nat.le_refl _)]
   simp only [f1, List.length_map, q_32, Nat.add_assoc, go_sem]
   have e1 : List.take (2 * s.length) ((hexS s).map rowB) = (hexS s).map rowB := List.take_of_length_le (by simp [hl2])
   simp only [e1, rowB_bytes]
   refine ⟨⟨by omega, isByte_all _⟩, ?_⟩
   exact PostF.rs (v0 := .str (hexS s)) (.inr rfl)
theorem is1_ok {F : SF} {L nx : Nat} (a b c : Nm) (ha : a.l ≤ L) (hb : b.l ≤ L) (hc : c.l ≤ L) (oa pa ob pb oc pc : Bool) (ea eb ec : TypeId) (k fl : Int) (bd tx : List UInt8) (hl : bd.length ≤ 100000) (ht : hexS bd = tx)
  (hFa : F a = some (.rows ea 1 oa pa [[.int .i64 k]])) (hFb : F b = some (.rows eb 1 ob pb [[.int .i64 fl]])) (hFc : F c = some (.rows ec 1 oc pc [[.str tx]])) :
  Con Tryz.prog 104 [.agg [.int .i64 k, .int .i64 fl, .str bd], .int .i64 0, .ptr a 0 0, .ptr b 0 0, .ptr c 0 0] F L nx nx (.bool true) [] [a, b, c] := by
 refine bdy Tryz.f104 (hrd := (by simp; omega)) ?_
 intro F3 hF1 hF2
 have ka := (hF1 a (by simp)).trans hFa
 have kb := (hF1 b (by simp)).trans hFb
 have kc := (hF1 c (by simp)).trans hFc
 have a1 : ∀ k, (a = (⟨L + 1, k⟩ : Nm)) = False := nm_out ha
 have b1 : ∀ k, (b = (⟨L + 1, k⟩ : Nm)) = False := nm_out hb
 have c1 : ∀ k, (c = (⟨L + 1, k⟩ : Nm)) = False := nm_out hc
 simp only [Tryz.f104, cx, ka, kb, a1, b1, Nat.add_zero, go_sem, meths]
 refine ⟨by kernel_rfl, ?_⟩
 refine CallVC.same (Hex_ok bd hl) ?_
 rw [ht]
 simp only [kc, c1, beq_self_eq_true, go_sem]
 refine ⟨okDyn_num (fun _ => 0) (by kernel_rfl), ?_⟩
 exact .bool (.inr rfl) rfl rfl (by simp [UpdAll])
theorem is_ok {F : SF} {L nx : Nat} (k fl : Int) (tx : List UInt8) :
  Con Tryz.prog 56 [.int .i64 k, .int .i64 fl, .str tx] F L nx (nx + 3) (.fn (.func 104) [] [.ptr ⟨L, nx⟩ 0 0, .ptr ⟨L, nx + 1⟩ 0 0, .ptr ⟨L, nx + 2⟩ 0 0])
   [(⟨L, nx⟩, .rows 3 1 true true [[.int .i64 k]]), (⟨L, nx + 1⟩, .rows 3 1 true true [[.int .i64 fl]]), (⟨L, nx + 2⟩, .rows 9 1 true true [[.str tx]])] [] := by
 refine bdyN Tryz.f56 ?_
 intro F3 hF1 hF2
 simp only [Tryz.f56, cx, go_sem, meths]
 refine .now (.val [0, 32, 64] (.inr rfl) (by simp) (p := True) (v0 := .fn (.func 104) [] [.ptr ⟨L + 1, 0⟩ 0 0, .ptr ⟨L + 1, 32⟩ 0 0, .ptr ⟨L + 1, 64⟩ 0 0]) ?_ trivial ?_ ?_ ⟨?_, ?_, ?_, ?_, ?_, ?_, trivial⟩ ?_)
 ·simp only [resVal, resVals, resVal1, one, go_sem]
 ·simp [nmA, nmAL, Dn]
 ·simp [Tx.rn, Tx.rnL, sg, List.idxOf, List.findIdx, List.findIdx.go]
 ·simp
 ·rw [kp_at0 (by simp)]
  exact .pure (by simp [Tx.look])
 ·simp
 ·rw [kp_at (by simp)]
  exact .pure (by simp [Tx.look])
 ·simp
 ·rw [kp_at (by simp)]
  exact .pure (by simp [Tx.look])
 ·simp [UpdAll, keys]
def pkZ : Pkx := ⟨0, 0, 0, []⟩
theorem refuses_ok {F : SF} {L nx : Nat} (s : List UInt8) (e : Int) (hd : ∀ (F : SF) (L nx : Nat), Con Tryz.prog 17 [.str s] F L nx nx (.tup [.agg [.int .i64 0, .int .i64 0, .int .i64 0, .nilS], .int .i64 e]) [] []) :
  Con Tryz.prog 53 [.str s, .int .i64 e] F L nx nx (.bool true) [] [] := by
 refine bdy Tryz.f53 ?_
 intro F3 hF1 hF2
 simp only [Tryz.f53, cx, go_sem, meths]
 refine CallVC.same (hd _ _ _) ?_
 have f1 : (e == e) = true := by simp
 simp only [f1, go_sem]
 refine CallVC.gen (args2 := [.agg pkZ.row, .agg pkZ.row]) (by simp [Pkx.row, pkZ, WkL, Wk]) (rSameP_ok pkZ pkZ (by simp [pkZ]) (by simp [pkZ]) true (by simp)) ?_
 simp only [Pkx.row, pkZ, List.map_nil, wkNL, wkN, unown, go_sem]
 exact .bool (.inr rfl) rfl rfl (by simp [UpdAll])
end Go.Proofs.YtaacfnngodhecaaGreatDoor
end
section
namespace Go.Proofs.YtaacfnngodhecaaGreatDoor
open Go.Tx
set_option maxRecDepth 100000
set_option maxHeartbeats 4000000
def pW : Pkx := ⟨1, 2, 3, [⟨11, 0, []⟩]⟩
theorem pW_ok : pW.ok = true := by kernel_rfl
def sW : List UInt8 := encS pW
theorem sW_len : sW.length = 16 := by kernel_rfl
theorem sW_dec : decG sW = some pW := by kernel_rfl
theorem sW_bad : decG (sW.take 15 ++ [5]) = none := by kernel_rfl
def d1W : Dat := ⟨1, 2, 3, 51, true, true, false, [104, 105]⟩
def b1W : List UInt8 := dataB d1W
theorem h1W : hexS b1W = [48, 48, 48, 48, 48, 48, 48, 49, 48, 48, 48, 50, 48, 48, 48, 51, 48, 48, 48, 48, 48, 48, 51, 51, 54, 56, 54, 57] := by kernel_rfl
def b2W : List UInt8 := sackO 9 1000 [(2, 3)] [7]
theorem h2W : hexS b2W = [48, 48, 48, 48, 48, 48, 48, 57, 48, 48, 48, 48, 48, 51, 101, 56, 48, 48, 48, 49, 48, 48, 48, 49, 48, 48, 48, 50, 48, 48, 48, 51, 48, 48, 48, 48, 48, 48, 48, 55] := by kernel_rfl
def b3W : List UInt8 := fwdT 5 [(1, 7)]
theorem h3W : hexS b3W = [48, 48, 48, 48, 48, 48, 48, 53, 48, 48, 48, 49, 48, 48, 48, 55] := by kernel_rfl
def b4W : List UInt8 := resetB 2 6 0 1 []
theorem h4W : hexS b4W = [48, 50, 48, 48, 48, 48, 48, 48, 48, 54, 48, 49] := by kernel_rfl
theorem bW_len : b1W.length ≤ 100000 ∧ b2W.length ≤ 100000 ∧ b3W.length ≤ 100000 ∧ b4W.length ≤ 100000 := of_decide_eq_true (by kernel_rfl)
def fldP : PV := .tup [.agg [.int .i64 0, .int .i64 0, .str []], .int .i64 320]
def putP (k fl : Int) (b : List UInt8) : PV := .tup [.agg [.int .i64 k, .int .i64 fl, .str b], .int .i64 0]
section
variable {F : SF} {L nx : Nat}
theorem w1_ok : Con Tryz.prog 21 [.agg d1W.row] F L nx nx (putP 0 3 b1W) [] [] := by
 have h := putData_ok (F := F) (L := L) (nx := nx) d1W
 rw [show d1W.ok = true by kernel_rfl, if_pos rfl] at h
 exact h
theorem w2_ok : Con Tryz.prog 26 [sackP 9 1000 [(2, 3)] [7]] F L nx nx (putP 3 0 b2W) [] [] := by
 have h := putSack_ok (F := F) (L := L) (nx := nx) 9 1000 [(2, 3)] [7] (by simp) (by simp)
 rw [show sackV 9 1000 [(2, 3)] [7] = true by kernel_rfl, if_pos rfl] at h
 exact h
theorem w3_ok : Con Tryz.prog 26 [sackP 0 0 [(2, 3), (4, 5)] []] F L nx nx fldP [] [] := by
 have h := putSack_ok (F := F) (L := L) (nx := nx) 0 0 [(2, 3), (4, 5)] [] (by simp) (by simp)
 rw [show sackV 0 0 [(2, 3), (4, 5)] [] = false by kernel_rfl, if_neg (by simp)] at h
 exact h
theorem w4_ok : Con Tryz.prog 26 [sackP 0 0 [(1, 1)] []] F L nx nx fldP [] [] := by
 have h := putSack_ok (F := F) (L := L) (nx := nx) 0 0 [(1, 1)] [] (by simp) (by simp)
 rw [show sackV 0 0 [(1, 1)] [] = false by kernel_rfl, if_neg (by simp)] at h
 exact h
theorem w5_ok : Con Tryz.prog 30 [.agg (Ini.mk 0 0 1 1 0 []).row] F L nx nx fldP [] [] := by
 have h := putInit_ok (F := F) (L := L) (nx := nx) ⟨0, 0, 1, 1, 0, []⟩
 rw [show (Ini.mk 0 0 1 1 0 []).ok = false by kernel_rfl, if_neg (by simp)] at h
 exact h
theorem w6_ok : Con Tryz.prog 34 [fwdP 5 [(1, 7)]] F L nx nx (putP 192 0 b3W) [] [] := by
 have h := putForward_ok (F := F) (L := L) (nx := nx) 5 [(1, 7)] (by simp)
 rw [show fwdV 5 [(1, 7)] = true by kernel_rfl, if_pos rfl] at h
 exact h
theorem w7_ok : Con Tryz.prog 38 [rstP 2 6 0 1 (.fs 1 (([] : List Int).map eI))] F L nx nx (putP 130 0 b4W) [] [] := by
 have h := putReset_ok (F := F) (L := L) (nx := nx) 2 6 0 1 [] (by simp)
 rw [show resetV 2 6 0 1 [] = true by kernel_rfl, if_pos rfl] at h
 exact h
theorem w8_ok : Con Tryz.prog 43 [.agg (Ckx.mk 3 0 []).row] F L nx nx (.tup [.agg zDat.row, .int .i64 2]) [] [] := by
 have h := getDataT_ok (F := F) (L := L) (nx := nx) ⟨3, 0, []⟩ (by simp)
 rw [show getDatV ⟨3, 0, []⟩ = .tup [.agg zDat.row, .int .i64 2] from if_neg (by simp)] at h
 exact h
theorem w9_ok : Con Tryz.prog 45 [.agg (Ckx.mk 3 0 []).row] F L nx nx (zSck 5) [] [] := by
 have h := getSackT_ok (F := F) (L := L) (nx := nx) ⟨3, 0, []⟩ (by simp)
 rw [show getSckV ⟨3, 0, []⟩ = zSck 5 by unfold getSckV; rw [if_pos rfl, if_neg (by rw [show sckOk ⟨3, 0, []⟩ = false by kernel_rfl]; simp)]] at h
 exact h
theorem w10_ok : Con Tryz.prog 14 [.agg pW.row] F L nx nx (.tup [.str sW, .int .i64 0]) [] [] := encode_ok pW pW_ok
theorem w11_ok : Con Tryz.prog 17 [.str sW] F L nx nx (.tup [.agg pW.row, .int .i64 0]) [] [] := decode_ok sW pW (by rw [sW_len]; omega) (by rw [sW_len]; omega) sW_dec
end
theorem works32_ok {F : SF} {L nx : Nat} : Con Tryz.prog 10 [] F L nx nx (.bool true) [] [] := by
 have hl := sW_len
 have hl15 : (sW.take 15).length = 15 := by rw [List.length_take, hl]; rfl
 refine bdy Tryz.f10 ?_
 intro F3 hF1 hF2
 simp only [Tryz.f10, cx, go_sem, meths]
 have hn : (((16 : Nat) : Int) != 16) = false := rfl
 have hn2 : ((2 : Int) == 2) = true := rfl
 have hn5 : ((5 : Int) == 5) = true := rfl
 refine CallVC.gen (args2 := [.agg pW.row]) (by simp [WkL, Wk, Pkx.row, Ckx.row, pW]) w10_ok ?_
 simp only [hn, wkNL, wkN, unown, Pkx.row, Ckx.row, pW, List.map_cons, hl, go_sem]
 refine CallVC.same w11_ok ?_
 simp only [Pkx.row, Ckx.row, pW, List.map_cons, go_sem]
 refine CallVC.same w8_ok ?_
 simp only [zDat, Dat.row, go_sem]
 refine CallVC.same w9_ok ?_
 simp only [zSck, go_sem]
 refine CallVC.same (is_ok _ _ _) ?_
 simp only [go_sem]
 refine CallVC.same w1_ok ?_
 simp only [putP, go_sem]
 refine CallVC.same (is1_ok _ _ _ (by simp) (by simp) (by simp) true true true true true true 3 3 9 0 3 b1W _ bW_len.1 h1W (by simp [Tx.look]) (by simp [Tx.look]) (by simp [Tx.look])) ?_
 simp only [go_sem]
 refine CallVC.same (is_ok _ _ _) ?_
 simp only [go_sem]
 refine CallVC.gen (args2 := [sackP 9 1000 [(2, 3)] [7]]) (by simp [WkL, Wk, sackP, kE, eI]) w2_ok ?_
 simp only [putP, sackP, kE, eI, wkNL, wkN, unown, List.map_cons, go_sem]
 refine CallVC.same (is1_ok _ _ _ (by simp) (by simp) (by simp) true true true true true true 3 3 9 3 0 b2W _ bW_len.2.1 h2W (by simp [Tx.look]) (by simp [Tx.look]) (by simp [Tx.look])) ?_
 simp only [go_sem]
 refine CallVC.gen (args2 := [sackP 0 0 [(2, 3), (4, 5)] []]) (by simp [WkL, Wk, sackP, kE]) w3_ok ?_
 simp only [fldP, sackP, kE, wkNL, wkN, unown, List.map_cons, go_sem]
 refine CallVC.same lawFails_ok ?_
 simp only [go_sem]
 refine CallVC.gen (args2 := [sackP 0 0 [(1, 1)] []]) (by simp [WkL, Wk, sackP, kE]) w4_ok ?_
 simp only [fldP, sackP, kE, wkNL, wkN, unown, List.map_cons, go_sem]
 refine CallVC.same lawFails_ok ?_
 simp only [go_sem]
 refine CallVC.same w5_ok ?_
 simp only [fldP, go_sem]
 refine CallVC.same lawFails_ok ?_
 simp only [go_sem]
 refine CallVC.same (is_ok _ _ _) ?_
 simp only [go_sem]
 refine CallVC.gen (args2 := [fwdP 5 [(1, 7)]]) (by simp [WkL, Wk, fwdP, kE]) w6_ok ?_
 simp only [putP, fwdP, kE, wkNL, wkN, unown, List.map_cons, go_sem]
 refine CallVC.same (is1_ok _ _ _ (by simp) (by simp) (by simp) true true true true true true 3 3 9 192 0 b3W _ bW_len.2.2.1 h3W (by simp [Tx.look]) (by simp [Tx.look]) (by simp [Tx.look])) ?_
 simp only [go_sem]
 refine CallVC.same (is_ok _ _ _) ?_
 simp only [go_sem]
 refine CallVC.gen (args2 := [rstP 2 6 0 1 (.fs 1 (([] : List Int).map eI))]) (by simp [WkL, Wk, rstP]) w7_ok ?_
 simp only [putP, rstP, wkNL, wkN, unown, List.map_nil, go_sem]
 refine CallVC.same (is1_ok _ _ _ (by simp) (by simp) (by simp) true true true true true true 3 3 9 130 0 b4W _ bW_len.2.2.2 h4W (by simp [Tx.look]) (by simp [Tx.look]) (by simp [Tx.look])) ?_
 simp only [go_sem]
 refine CallVC.gen (args2 := [.agg pW.row, .agg pW.row]) (by simp [WkL, Wk, Pkx.row, Ckx.row, pW]) (rSameP_ok pW pW (by simp [pW]) (by simp [pW]) true (by simp)) ?_
 simp only [wkNL, wkN, unown, Pkx.row, Ckx.row, pW, List.map_cons, List.map_nil, hl, hl15, go_sem]
 repeat refine sd2 ?_
 refine CallVC.same (refuses_ok (sW.take 15 ++ [5]) 5 (fun F L nx => decodeNo_ok _ (by rw [List.length_append, hl15]; simp) (by rw [List.length_append, hl15]; simp) sW_bad)) ?_
 simp only [hl, go_sem]
 repeat refine sd2 ?_
 refine CallVC.same (refuses_ok (sW.take 15) 7 (fun F L nx => decodeShort_ok _ (by rw [hl15]; omega))) ?_
 simp only [hn2, hn5, go_sem]
 repeat refine sd2 ?_
 exact .bool (.inr rfl) rfl rfl (by simp [UpdAll])
end Go.Proofs.YtaacfnngodhecaaGreatDoor
end
section
namespace Go.Proofs.YtaacfnngodhecaaGreatDoor
open Go.Tx
set_option maxRecDepth 100000
set_option maxHeartbeats 4000000
theorem serB_mk {b x : Int} (h0 : 0 ≤ x) (h : x < 2 ^ b.toNat) : serB b x = true := by unfold serB; simp [h0, h]
theorem serB_32 {x : Int} (h0 : 0 ≤ x) (h : x < 4294967296) : serB 32 x = true := serB_mk h0 h
theorem serB_16 {x : Int} (h0 : 0 ≤ x) (h : x < 65536) : serB 16 x = true := serB_mk h0 h
theorem serB_8 {x : Int} (h0 : 0 ≤ x) (h : x < 256) : serB 8 x = true := serB_mk h0 h
theorem Pcx.Ok.dat {p : Pcx} (h : p.Ok) : p.dat.ok = true := by
 have h1 := h.a
 have h2 := h.d
 have h3 := someX_len p.pl 100 (by omega)
 unfold Dat.ok Pcx.dat
 simp only [Bool.and_eq_true, Bool.or_eq_true, decide_eq_true_eq]
 refine ⟨⟨serB_32 (by omega) (by omega), serB_32 (by omega) (by omega)⟩, ⟨serB_16 (by omega) (by omega), ?_⟩, by omega, by omega, ?_⟩
 ·split
  ·exact serB_16 (by omega) (by omega)
  ·exact serB_16 (by omega) (by omega)
 ·cases p.lo <;> simp
theorem Pcx.Ok.ini {p : Pcx} (h : p.Ok) (ck : Bool) : (p.ini ck).ok = true := by
 have h1 := h.a
 have h2 := h.b
 have h4 := h.d
 have h3 := someX_len p.pl 200 (by omega)
 unfold Ini.ok Pcx.ini
 simp only [Bool.and_eq_true, decide_eq_true_eq]
 refine ⟨⟨serB_32 (by omega) (by omega), serB_32 (by omega) (by omega), serB_32 (by omega) (by omega)⟩, ⟨serB_16 (by omega) (by omega), serB_16 (by omega) (by omega)⟩, by omega, by omega, by omega, ?_⟩
 cases ck
 ·simp
 ·simp only [if_true]; omega
theorem Pcx.sk_at (p : Pcx) {n i : Nat} (h : i < n) : ((p.sk n).map kN).getD i (0, 0) = kN (p.fa i, (p.x i).1 * (p.x i).2) := by
 simp [Pcx.sk, List.getD_eq_getElem?_getD, h]
theorem Pcx.Ok.fwd {p : Pcx} (h : p.Ok) : fwdV p.a ((p.sk p.n).map kN) = true := by
 have h1 := h.a
 have hn : p.n ≤ 30 := by unfold Pcx.n; omega
 unfold fwdV
 simp only [Bool.and_eq_true, List.all_eq_true, List.mem_range, decide_eq_true_eq, List.length_map, Pcx.sk_len]
 refine ⟨fun i hi => ?_, serB_32 (by omega) (by omega), hn⟩
 have hf := Pcx.fa_le h i
 have hx := h.x i
 have hm : (p.x i).1 * (p.x i).2 ≤ 255 * 255 := Nat.mul_le_mul (by omega) (by omega)
 unfold okSk
 simp only [p.sk_at hi, kN, Bool.and_eq_true, Bool.or_eq_true, beq_iff_eq, decide_eq_true_eq]
 refine ⟨⟨serB_16 (by omega) (by omega), serB_16 (Int.natCast_nonneg _) (by omega)⟩, ?_⟩
 cases i with
 | zero => exact .inl rfl
 | succ i =>
  right
  rw [show i + 1 - 1 = i from rfl, p.sk_at (show i < p.n by omega)]
  simp only [kN, Pcx.fa]
  omega
theorem Pcx.gp_at (p : Pcx) {n i : Nat} (h : i < n) : ((p.gp n).map kN).getD i (0, 0) = kN (p.ga i + (2 + (p.x i).1), p.ga (i + 1)) := by
 simp [Pcx.gp, List.getD_eq_getElem?_getD, h]
theorem Pcx.Ok.sck {p : Pcx} (h : p.Ok) : sackV p.a p.b ((p.gp p.n).map kN) ((p.db (p.c % 6)).map fun x : Nat => (x : Int)) = true := by
 have h1 := h.a
 have h2 := h.b
 have hn : p.n ≤ 30 := by unfold Pcx.n; omega
 unfold sackV
 simp only [Bool.and_eq_true, List.all_eq_true, List.mem_range, decide_eq_true_eq, List.length_map, Pcx.gp_len, Pcx.db_len]
 refine ⟨fun i hi => ?_, ⟨serB_32 (by omega) (by omega), serB_32 (by omega) (by omega)⟩, hn, by omega, fun x hx => ?_⟩
 ·have hf := Pcx.ga_le h (i + 1)
  unfold okGp
  simp only [p.gp_at hi, kN, Bool.and_eq_true, decide_eq_true_eq]
  have hb : befG ((p.gp p.n).map kN) i = p.ga i := by
   unfold befG
   cases i with
   | zero => simp [Pcx.ga]
   | succ i => rw [if_neg (by omega), show i + 1 - 1 = i from rfl, p.gp_at (show i < p.n by omega)]; rfl
  rw [hb]
  have hga : p.ga (i + 1) = p.ga i + 2 + (p.x i).1 + (p.x i).2 := rfl
  omega
 ·obtain ⟨y, hy, rfl⟩ := List.mem_map.1 hx
  simp only [Pcx.db, List.mem_map] at hy
  obtain ⟨j, _, rfl⟩ := hy
  exact serB_32 (Int.natCast_nonneg _) (by omega)
def Pcx.rst (p : Pcx) : Rsx := if p.m8 then ⟨2, p.a, 0, ((p.b % 256 : Nat) : Int), []⟩ else ⟨1, p.a, p.b, 0, p.ss p.n9⟩
theorem Pcx.ss_at (p : Pcx) {n i : Nat} (h : i < n + 1) : (p.ss n).getD i 0 = (p.sa i : Int) := by
 simp [Pcx.ss, List.getD_eq_getElem?_getD, h]
theorem Pcx.Ok.rst {p : Pcx} (h : p.Ok) : resetV p.rst.kind p.rst.num p.rst.last p.rst.res p.rst.xs = true := by
 have h1 := h.a
 have h2 := h.b
 have hn : p.n9 ≤ 29 := by unfold Pcx.n9; omega
 unfold Pcx.rst
 cases p.m8 with
 | true =>
  simp only [if_true]
  unfold resetV
  simp only [Bool.and_eq_true]
  refine ⟨⟨⟨⟨rfl, serB_32 (by omega) (by omega)⟩, serB_32 (by omega) (by omega)⟩, serB_8 (by omega) (by omega)⟩, by simp⟩
 | false =>
  simp only [Bool.false_eq_true, if_false]
  unfold resetV
  simp only [Bool.and_eq_true]
  refine ⟨⟨⟨⟨?_, serB_32 (by omega) (by omega)⟩, serB_32 (by omega) (by omega)⟩, serB_8 (by omega) (by omega)⟩, ?_⟩
  ·unfold incB
   simp only [List.all_eq_true, List.mem_range, Pcx.ss_len, Bool.and_eq_true, Bool.or_eq_true, beq_iff_eq, decide_eq_true_eq]
   intro i hi
   have hf := Pcx.sa_le h i
   rw [p.ss_at hi]
   refine ⟨serB_16 (by omega) (by omega), ?_⟩
   cases i with
   | zero => exact .inl rfl
   | succ i =>
    right
    rw [show i + 1 - 1 = i from rfl, p.ss_at (show i < p.n9 + 1 by omega)]
    simp only [Pcx.sa]
    omega
  ·rw [if_neg (by omega)]
   simp [Pcx.ss_len]; omega
theorem pReset_ok {F : SF} {L nx : Nat} (p : Pcx) (hp : p.Ok) : Con Tryz.prog 37 [.agg p.row] F L nx nx (rstP p.rst.kind p.rst.num p.rst.last p.rst.res (.fs 1 (p.rst.xs.map eI))) [] [] := by
 unfold Pcx.rst
 cases hm : p.m8 with
 | true => exact pReset1_ok p hp hm
 | false => exact pReset2_ok p hp hm
end Go.Proofs.YtaacfnngodhecaaGreatDoor
end
section
namespace Go.Proofs.YtaacfnngodhecaaGreatDoor
open Go.Tx
set_option maxRecDepth 100000
set_option maxHeartbeats 2000000
end Go.Proofs.YtaacfnngodhecaaGreatDoor
end
section
namespace Go.Proofs.YtaacfnngodhecaaGreatDoor
open Go.Tx
set_option maxRecDepth 100000
set_option maxHeartbeats 4000000
def numX (s : List UInt8) (p n : Nat) : Nat := if p + n ≤ s.length then getB ((s.drop p).take n) else 0
theorem rNum_ok {F : SF} {L nx : Nat} (s : List UInt8) (p n : Nat) (a b : Int) (ha : a = p) (hb : b = n) (hn : n ≤ 7) (hp : p ≤ 1000000) (hs : s.length ≤ 1000000) : Con Tryz.prog 116 [.str s, .int .i64 a, .int .i64 b] F L nx nx (.int .i64 (numX s p n)) [] [] := by
 subst ha hb
 refine bdy Tryz.f116 ?_
 intro F3 hF1 hF2
 unfold numX
 by_cases h : p + n ≤ s.length
 ·have f1 : decide ((s.length : Int) < (p : Int) + n) = false := dF (by omega)
  have e1 : ((p : Int) + n).toNat - p = n := by omega
  have hl : ((s.drop p).take n).length ≤ 7 := by rw [List.length_take]; omega
  rw [if_pos h]
  simp only [Tryz.f116, cx, f1, e1, Int.toNat_natCast, go_sem, meths]
  repeat refine sd2 ?_
  refine CallVC.same (rNumber_ok ((s.drop p).take n) hl) ?_
  simp only [go_sem]
  repeat refine sd2 ?_
  exact PostF.rs (v0 := .int .i64 (getB ((s.drop p).take n))) (.inr rfl)
 ·have f1 : decide ((s.length : Int) < (p : Int) + n) = true := dT (by omega)
  rw [if_neg h]
  simp only [Tryz.f116, cx, f1, Int.natCast_zero, go_sem, meths]
  repeat refine sd2 ?_
  exact PostF.rs (v0 := .int .i64 0) (.inr rfl)
theorem rFrom_ok {F : SF} {L nx : Nat} (s : List UInt8) (p : Nat) (a : Int) (ha : a = p) (hs : s.length ≤ 1000000) : Con Tryz.prog 117 [.str s, .int .i64 a] F L nx nx (.str (s.drop p)) [] [] := by
 subst ha
 refine bdy Tryz.f117 ?_
 intro F3 hF1 hF2
 simp only [Tryz.f117, cx, go_sem, meths]
 repeat refine sd2 ?_
 have e1 : List.take (s.length - (min (p : Int) s.length).toNat) (List.drop (min (p : Int) s.length).toNat s) = s.drop p := by
  rw [List.take_of_length_le (by simp)]
  by_cases h : p ≤ s.length
  ·rw [show (min (p : Int) s.length).toNat = p by omega]
  ·rw [show (min (p : Int) s.length).toNat = s.length by omega, List.drop_eq_nil_of_le (Nat.le_refl _), List.drop_eq_nil_of_le (by omega)]
 rw [e1]
 exact PostF.rs (v0 := .str (s.drop p)) (.inr rfl)
def datX (c : Ckx) : Dat := ⟨numX c.bd 0 4, numX c.bd 4 2, numX c.bd 6 2, numX c.bd 8 4, ((c.fl.tdiv 2).tmod 2 == 1), (c.fl.tmod 2 == 1), ((c.fl.tdiv 4).tmod 2 == 1), c.bd.drop 12⟩
def getDatX (c : Ckx) : PV := if c.kd = 0 then (if (datX c).ok = true ∧ flD (datX c).la (datX c).fi (datX c).lo 3 = c.fl ∧ dataB (datX c) = c.bd then .tup [.agg (datX c).row, .int .i64 0] else .tup [.agg zDat.row, .int .i64 5]) else .tup [.agg zDat.row, .int .i64 2]
theorem tdivC {a k : Int} (hk : 1 ≤ k) (h : -9223372036854775808 ≤ a ∧ a ≤ 9223372036854775807) : -9223372036854775808 ≤ a.tdiv k ∧ a.tdiv k ≤ 9223372036854775807 := by
 by_cases h0 : 0 ≤ a
 ·rw [Int.tdiv_eq_ediv_of_nonneg h0]
  have h1 := Int.ediv_le_self k h0
  have h2 := Int.ediv_nonneg h0 (show 0 ≤ k by omega)
  omega
 ·have h0' : 0 ≤ -a := by omega
  rw [show a = -(-a) by omega, Int.neg_tdiv, Int.tdiv_eq_ediv_of_nonneg h0']
  have h1 := Int.ediv_le_self k h0'
  have h2 := Int.ediv_nonneg h0' (show 0 ≤ k by omega)
  omega
theorem xGetData_ok {F : SF} {L nx : Nat} (c : Ckx) (hl : c.bd.length ≤ 1000000) (hf : -9223372036854775808 ≤ c.fl ∧ c.fl ≤ 9223372036854775807) : Con Tryz.prog 79 [.agg c.row] F L nx nx (getDatX c) [] [] := by
 unfold getDatX
 by_cases hk : c.kd = 0
 ·rw [if_pos hk]
  have f1 : (c.kd != 0) = false := by rw [hk]; rfl
  obtain ⟨d, hd⟩ : ∃ d, d = datX c := ⟨_, rfl⟩
  rw [← hd]
  have hR := fun F L nx => rRightData_ok (F := F) (L := L) (nx := nx) d
  simp only [Ckx.row]
  refine bdy Tryz.f79 ?_
  intro F3 hF1 hF2
  simp only [Tryz.f79, cx, f1, Nat.add_zero, go_sem, meths]
  repeat refine sd2 ?_
  refine CallVC.same (rNum_ok c.bd 0 4 0 4 rfl rfl (by omega) (by omega) hl) ?_
  simp only [go_sem]
  repeat refine sd2 ?_
  refine CallVC.same (rNum_ok c.bd 4 2 4 2 rfl rfl (by omega) (by omega) hl) ?_
  simp only [go_sem]
  repeat refine sd2 ?_
  refine CallVC.same (rNum_ok c.bd 6 2 6 2 rfl rfl (by omega) (by omega) hl) ?_
  simp only [go_sem]
  repeat refine sd2 ?_
  refine CallVC.same (rNum_ok c.bd 8 4 8 4 rfl rfl (by omega) (by omega) hl) ?_
  simp only [go_sem]
  repeat refine sd2 ?_
  refine CallVC.same (rFrom_ok c.bd 12 12 rfl hl) ?_
  simp only [go_sem]
  repeat refine sd2 ?_
  refine ⟨okDyn_num (fun x => x.i) (by kernel_rfl), ?_⟩
  repeat refine sd2 ?_
  have t2 := tdivC (k := 2) (by omega) hf
  have t4 := tdivC (k := 4) (by omega) hf
  have hrow : [PV.int .i64 (numX c.bd 0 4), .int .i64 (numX c.bd 4 2), .int .i64 (numX c.bd 6 2), .int .i64 (numX c.bd 8 4), .bool ((c.fl.tdiv 2).tmod 2 == 1), .bool (c.fl.tmod 2 == 1), .bool ((c.fl.tdiv 4).tmod 2 == 1), .str (c.bd.drop 12)] = d.row := by rw [hd]; rfl
  refine ⟨⟨by omega, by omega, by omega⟩, by omega, ⟨by omega, by omega, by omega⟩, by omega, by kernel_rfl, ?_⟩
  simp only [hrow]
  refine CallVC.same (hR _ _ _) ?_
  cases hok : d.ok with
  | false =>
   have g1 : (!false) = true := rfl
   rw [if_neg (by simp)]
   simp only [g1, go_sem]
   refine ⟨okDyn_num (fun x => x.i) (by kernel_rfl), ?_⟩
   repeat refine sd2 ?_
   exact PostF.same (p := True) (.inr rfl) (by simp only [zDat, Dat.row, resVal, resVals, resVal1, one, go_sem]) trivial (by simp [zDat, Dat.row, Tx.nf, nfl]) (by simp [UpdAll])
  | true =>
   have g1 : (!true) = false := rfl
   simp only [g1, go_sem]
   refine CallVC.same (rPutData_ok d hok) ?_
   simp only [go_sem]
   refine ⟨okDyn_num (fun x => x.i) (by kernel_rfl), ?_⟩
   repeat refine sd2 ?_
   have g2 : ((0 : Int) == c.kd) = true := by rw [hk]; rfl
   have hrl : d.row.length = 8 := rfl
   have hrn : nfl d.row = true := rfl
   by_cases hq : flD d.la d.fi d.lo 3 = c.fl ∧ dataB d = c.bd
   ·have b1 : (!((0 : Int) == c.kd && (flD d.la d.fi d.lo 3 == c.fl && dataB d == c.bd))) = false := by rw [g2, hq.1, hq.2]; simp
    rw [if_pos hq]
    simp only [b1, hrl, hrn, go_sem]
    repeat refine sd2 ?_
    exact PostF.same (p := True) (.inr rfl) (by simp only [resVal, resVals, resVal1, one, go_sem]) trivial (by simp [Tx.nf, nfl, hrn]) (by simp [UpdAll])
   ·have b1 : (!((0 : Int) == c.kd && (flD d.la d.fi d.lo 3 == c.fl && dataB d == c.bd))) = true := by
     rw [g2]
     simp only [Bool.true_and, Bool.not_eq_true', Bool.and_eq_false_iff]
     by_cases h1 : flD d.la d.fi d.lo 3 = c.fl
     ·right
      have h2 : dataB d ≠ c.bd := fun h => hq ⟨h1, h⟩
      simpa using h2
     ·left; simpa using h1
    rw [if_neg hq]
    simp only [b1, hrl, hrn, go_sem]
    repeat refine sd2 ?_
    exact PostF.same (p := True) (.inr rfl) (by simp only [zDat, Dat.row, resVal, resVals, resVal1, one, go_sem]) trivial (by simp [zDat, Dat.row, Tx.nf, nfl]) (by simp [UpdAll])
 ·rw [if_neg hk]
  have f1 : (c.kd != 0) = true := by simpa using hk
  simp only [Ckx.row]
  refine bdy Tryz.f79 ?_
  intro F3 hF1 hF2
  simp only [Tryz.f79, cx, f1, Nat.add_zero, go_sem, meths]
  repeat refine sd2 ?_
  exact PostF.same (p := True) (.inr rfl) (by simp only [zDat, Dat.row, resVal, resVals, resVal1, one, go_sem]) trivial (by simp [zDat, Dat.row, Tx.nf, nfl]) (by simp [UpdAll])
def fwN (s : List UInt8) : Nat := (s.length - 4) / 4
def fwS (s : List UInt8) (i : Nat) : List (Nat × Nat) := (List.range i).map fun j => (numX s (4 + 4 * j) 2, numX s (4 + (4 * j + 2)) 2)
theorem fwS_succ (s : List UInt8) (i : Nat) : fwS s (i + 1) = fwS s i ++ [(numX s (4 + 4 * i) 2, numX s (4 + (4 * i + 2)) 2)] := by simp [fwS, List.range_succ]
theorem fwS_len (s : List UInt8) (i : Nat) : (fwS s i).length = i := by simp [fwS]
theorem numX_lt (s : List UInt8) (p n : Nat) : numX s p n < 256 ^ n := by
 unfold numX
 split
 ·have := getB_lt ((s.drop p).take n)
  rw [List.length_take, List.length_drop] at this
  rw [show min n (s.length - p) = n by omega] at this
  exact this
 ·exact Nat.pow_pos (by omega)
def getFwX (c : Ckx) : PV := if c.kd = 192 then (if fwdV (numX c.bd 0 4) ((fwS c.bd (fwN c.bd)).map kN) = true ∧ (0 : Int) = c.fl ∧ fwdT (numX c.bd 0 4) (fwS c.bd (fwN c.bd)) = c.bd then .tup [fwdP (numX c.bd 0 4) ((fwS c.bd (fwN c.bd)).map kN), .int .i64 0] else zFwx 5) else zFwx 2
theorem xGetForward_ok {F : SF} {L nx : Nat} (c : Ckx) (hl : c.bd.length ≤ 1000000) : Con Tryz.prog 82 [.agg c.row] F L nx nx (getFwX c) [] [] := by
 unfold getFwX
 by_cases hk : c.kd = 192
 rotate_left
 ·rw [if_neg hk]
  have f1 : (c.kd != 192) = true := by simpa using hk
  simp only [Ckx.row]
  refine bdy Tryz.f82 ?_
  intro F3 hF1 hF2
  simp only [Tryz.f82, cx, f1, Nat.add_zero, go_sem, meths]
  repeat refine sd2 ?_
  exact PostF.same (p := True) (.inr rfl) (by simp only [zFwx, resVal, resVals, resVal1, one, go_sem]) trivial (by simp [zFwx, Tx.nf, nfl]) (by simp [UpdAll])
 ·rw [if_pos hk]
  have f1 : (c.kd != 192) = false := by rw [hk]; rfl
  simp only [Ckx.row]
  refine bdy Tryz.f82 ?_
  intro F3 hF1 hF2
  simp only [Tryz.f82, cx, f1, Nat.add_zero, go_sem, meths]
  repeat refine sd2 ?_
  refine CallVC.same (rNum_ok c.bd 0 4 0 4 rfl rfl (by omega) (by omega) hl) ?_
  simp only [go_sem]
  repeat refine sd2 ?_
  obtain ⟨N, hN⟩ : ∃ N, N = fwN c.bd := ⟨_, rfl⟩
  have hN2 := hN
  unfold fwN at hN2
  rw [← hN]
  obtain ⟨cm, hcm⟩ : ∃ cm, cm = numX c.bd 0 4 := ⟨_, rfl⟩
  have hcb : cm < 2 ^ 32 := by rw [hcm]; exact numX_lt c.bd 0 4
  rw [← hcm]
  refine loopK.intro _ _ (I := fun z : Nat × Nat => ⟨[none, some (.ptr ⟨L + 1, 0⟩ 0 0), some (.ptr ⟨L + 1, 32⟩ 0 0), some (.int .i64 0), some (.ptr ⟨L + 1, 288⟩ 0 0), some (.int .i64 ((4 + 4 * z.1 : Nat) : Int)), none, none, none, none, none, none, none, none, none, none, none, none, none, none, none, none, none, none, none, none, none, none, none, none, none, none, none, none, none, none, none, none, none, none, none, none, none, none, none, none, none, none],
   [(⟨L + 1, 0⟩, .rows 34 3 true true [[.int .i64 c.kd, .int .i64 c.fl, .str c.bd]]), (⟨L + 1, 32⟩, .rows 59 2 true true [[.int .i64 0, .nilS]]), (⟨L + 1, 288⟩, .rows 59 2 true false [[.int .i64 cm, .sl ⟨L + 1, z.2⟩ 0 z.1]]), (⟨L + 1, z.2⟩, .rows 118 2 true true (((fwS c.bd z.1).map kN).map kE))], 10000 * (z.1 + 1)⟩)
   (pre := fun z => z.1 ≤ N ∧ 384 ≤ z.2 ∧ z.2 < 10000 * (z.1 + 1)) (μ := fun z => N - z.1) (0, 384) ⟨by simp, by simp, by simp⟩ ?_ ?_
  ·refine Sub.trans (Sub.nilCell (n := ⟨L + 1, 288⟩) (e := 59) (e2 := 118) (wd := 2) (wd2 := 2) (o := true) (p := true) (row := [.int .i64 cm, .nilS]) (row1 := [.int .i64 cm, .sl ⟨L + 1, 384⟩ 0 0]) (by omega) (by simp [Tx.look]) (by simp) rfl ?_) ?_
   ·intro k
    rcases k with _ | _ | k
    ·exact .inl rfl
    ·exact .inr ⟨rfl, rfl⟩
    ·exact .inl rfl
   ·refine Sub.of (hfz hF2) (by simp only [Nat.mul_zero, Nat.add_zero, go_sem, subT]; try trivial) ?_ ?_ ?_
    ·simp [subH, Tx.look, updH, setH, fwS]
    ·simp [subK, keys, updH, setH]
    ·simp
  ·rintro ⟨i, q⟩ ⟨hi, hq0, hq⟩
   simp only at hi hq0 hq ⊢
   have hln := fwS_len c.bd i
   have hln' : (((fwS c.bd i).map kN).map kE).length = i := by simp [hln]
   have q_0 : (q = 0) = False := by apply eq_false; omega
   have n0_q : (0 = q) = False := by apply eq_false; omega
   have q_32 : (q = 32) = False := by apply eq_false; omega
   have n32_q : (32 = q) = False := by apply eq_false; omega
   have q_288 : (q = 288) = False := by apply eq_false; omega
   have n288_q : (288 = q) = False := by apply eq_false; omega
   obtain ⟨q_n1, q_n2, q_n3, q_n4, q_n5⟩ := nqL L (i := i) (p := q) (by omega)
   by_cases hlt : i < N
   ·have g1 : decide (((4 + 4 * i : Nat) : Int) + 4 ≤ (c.bd.length : Int)) = true := dT (by omega)
    have e3 := fwS_succ c.bd i
    have e4 : ((4 + 4 * i : Nat) : Int) + 4 = ((4 + 4 * (i + 1) : Nat) : Int) := by omega
    simp only [g1, n0_q, n288_q, Nat.add_assoc, go_sem]
    repeat refine sd2 ?_
    refine CallVC.same (rNum_ok c.bd (4 + 4 * i) 2 _ 2 rfl rfl (by omega) (by omega) hl) ?_
    simp only [n0_q, Nat.add_assoc, go_sem]
    repeat refine sd2 ?_
    refine CallVC.same (rNum_ok c.bd (4 + (4 * i + 2)) 2 _ 2 (by omega) rfl (by omega) (by omega) hl) ?_
    simp only [q_0, q_32, q_288, n288_q, q_n1, q_n2, q_n5, kS2, kS2', kS3, Nat.add_assoc, go_sem]
    repeat refine sd2 ?_
    refine ⟨okDyn_num (fun x => if x.i = q then 1 else x.i % 10000 + 100) (by simp only [numF, List.map, n0_q, n288_q, q_n1, if_true, if_false, Nat.mul_add_mod, Nat.reduceMod]; kernel_rfl), ?_⟩
    repeat refine sd2 ?_
    refine ⟨(i + 1, 10000 * (i + 1) + 544), ⟨by simp only []; omega, by simp only []; omega, by simp only []; omega⟩, by simp only []; omega, ?_⟩
    refine Sub.of (hfz hF2) (by simp only [e4, go_sem, subT, and_self]) ?_ (by simp [subK, keys]) (by simp only []; omega)
    simp [subH, Tx.look, e3, kN, kE, q_n1, nB, kS2]
   ·have g1 : decide (((4 + 4 * i : Nat) : Int) + 4 ≤ (c.bd.length : Int)) = false := dF (by omega)
    have hin : i = N := by omega
    rw [hin] at hln hln' g1 ⊢
    obtain ⟨sk, hsk⟩ : ∃ sk, sk = fwS c.bd N := ⟨_, rfl⟩
    have hskl : sk.length = N := by rw [hsk]; exact fwS_len _ _
    have hskb : ∀ k ∈ sk, k.1 < 65536 ∧ k.2 < 65536 := by
     intro k hk
     rw [hsk] at hk
     obtain ⟨j, _, rfl⟩ := List.mem_map.1 hk
     exact ⟨numX_lt _ _ _, numX_lt _ _ _⟩
    rw [← hsk]
    have hR := fun F L nx => rRightForward_ok (F := F) (L := L) (nx := nx) cm (sk.map kN) (by simp only [List.length_map]; omega)
    simp only [g1, n0_q, n288_q, Nat.add_assoc, go_sem]
    repeat refine sd2 ?_
    refine CallVC.pure (args2 := [fwdP cm (sk.map kN)]) (by simp [fwdP, Wk, WkL, hskl, List.take_of_length_le, q_0, q_32, q_288]) (hR _ _ _) rfl ?_
    cases hok : fwdV cm (sk.map kN) with
    | false =>
     have g2 : (!false) = true := rfl
     rw [if_neg (by simp)]
     simp only [g2, fwdP, wkN, wkNL, List.cons_append, List.nil_append, n32_q, Nat.add_assoc, go_sem]
     repeat refine sd2 ?_
     refine ⟨okDyn_num (fun x => if x.i = q then 1 else x.i % 10000 + 100) (by simp only [numF, List.map, n288_q, if_true, if_false, Nat.reduceMod]; kernel_rfl), ?_⟩
     repeat refine sd2 ?_
     exact PostF.same (p := True) (.inr rfl) (by simp only [zFwx, resVal, resVals, resVal1, one, n32_q, go_sem]) trivial (by simp [zFwx, Tx.nf, nfl]) (by simp [UpdAll])
    | true =>
     have g2 : (!true) = false := rfl
     have hP := fun F L nx => xPutForward_ok (F := F) (L := L) (nx := nx) cm sk hcb hskb (by have := fwdB hok; simp only [List.length_map] at this; omega)
     simp only [g2, fwdP, wkN, wkNL, List.cons_append, List.nil_append, n288_q, Nat.add_assoc, go_sem]
     repeat refine sd2 ?_
     refine CallVC.pure (args2 := [fwdP cm (sk.map kN)]) (by simp [fwdP, Wk, WkL, hskl, List.take_of_length_le, q_0, q_32, q_288]) (hP _ _ _) rfl ?_
     simp only [fwdP, wkN, wkNL, List.cons_append, List.nil_append, n0_q, n32_q, n288_q, Nat.add_assoc, go_sem]
     repeat refine sd2 ?_
     refine ⟨okDyn_num (fun x => if x.i = q then 1 else x.i % 10000 + 100) (by simp only [numF, List.map, n0_q, n288_q, if_true, if_false, Nat.reduceMod]; kernel_rfl), ?_⟩
     have g3 : ((192 : Int) == c.kd) = true := by rw [hk]; rfl
     by_cases hq9 : (0 : Int) = c.fl ∧ fwdT cm sk = c.bd
     ·have b1 : (!((192 : Int) == c.kd && ((0 : Int) == c.fl && fwdT cm sk == c.bd))) = false := by rw [g3, ← hq9.1, hq9.2]; simp
      simp only [if_pos hq9]
      simp only [b1, go_sem]
      repeat refine sd2 ?_
      exact PostF.of (p := True) (v0 := .tup [.agg [.int .i64 cm, .sl ⟨L + 1, q⟩ 0 N], .int .i64 0]) (.inr rfl) (by simp only [resVal, resVals, resVal1, one, n32_q, go_sem]) trivial (by simp [Wk, WkL, Tx.look, hskl, List.take_of_length_le, q_0, q_32, q_288]) (by simp [wkN, wkNL]) (by simp [Tx.nf, nfl]) trivial (by simp [UpdAll, keys])
     ·have b1 : (!((192 : Int) == c.kd && ((0 : Int) == c.fl && fwdT cm sk == c.bd))) = true := by
       rw [g3]
       simp only [Bool.true_and, Bool.not_eq_true', Bool.and_eq_false_iff]
       by_cases h1 : (0 : Int) = c.fl
       ·right
        have h2 : fwdT cm sk ≠ c.bd := fun h => hq9 ⟨h1, h⟩
        simpa using h2
       ·left; simpa using h1
      simp only [if_neg hq9]
      simp only [b1, go_sem]
      repeat refine sd2 ?_
      exact PostF.same (p := True) (.inr rfl) (by simp only [zFwx, resVal, resVals, resVal1, one, n32_q, go_sem]) trivial (by simp [zFwx, Tx.nf, nfl]) (by simp [UpdAll])
end Go.Proofs.YtaacfnngodhecaaGreatDoor
end
