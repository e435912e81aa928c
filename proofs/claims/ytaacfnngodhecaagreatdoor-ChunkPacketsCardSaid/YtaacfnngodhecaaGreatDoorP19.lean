/- Lemmas for the walk: WK35, WK44, WK45, WK46, WD21, WK47, WK49, WK36, WK37, WK51, WK52, WK53, WK38, WD22, WK54, WK55, WK56, WK50, WK57, WR33. -/
import Derived.Test.YtaacfnngodhecaaGreatDoorP18
import Derived.Test.YtaacfnngodhecaaGreatDoorP16
import Derived.Test.YtaacfnngodhecaaGreatDoorP17
import Derived.Test.YtaacfnngodhecaaGreatDoorP12
set_option linter.all false
section
namespace Go.Proofs.YtaacfnngodhecaaGreatDoor
open Go.Tx
set_option maxRecDepth 100000
set_option maxHeartbeats 16000000
theorem xPutSack_ok {F : SF} {L nx : Nat} (cum win : Nat) (gs : List (Nat × Nat)) (ds : List Nat) (h1 : cum < 2 ^ 32) (h1w : win < 2 ^ 32) (h2 : ∀ k ∈ gs, k.1 < 65536 ∧ k.2 < 65536) (h3 : ∀ x ∈ ds, x < 2 ^ 32) (hlen : gs.length ≤ 30) (hdl : ds.length ≤ 20) :
  Con Tryz.prog 28 [sackP cum win (gs.map kN) (ds.map fun x : Nat => (x : Int))] F L nx nx (.agg [.int .i64 3, .int .i64 0, .str (sackT cum win gs ds)]) [] [] := by
 refine bdy Tryz.f28 ?_
 intro F3 hF1 hF2
 have hds : (ds.map fun x : Nat => (x : Int)).map eI = ds.map eN := by simp [eI, eN]
 have p4 : ∀ (v : Nat), (putB 4 v).length = 4 := putB_len 4
 have p2 : ∀ (v : Nat), (putB 2 v).length = 2 := putB_len 2
 simp only [Tryz.f28, cx, sackP, hds, Nat.add_zero, go_sem, meths]
 repeat refine sd2 ?_
 refine CallVC.same (rPut_ok 4 cum (by omega) (by omega)) ?_
 simp only [go_sem]
 repeat refine sd2 ?_
 refine CallVC.same (rPut_ok 4 win (by omega) (by omega)) ?_
 simp only [p4, List.length_map, go_sem]
 repeat refine sd2 ?_
 refine CallVC.same (rPut_ok 2 gs.length (by omega) (by omega)) ?_
 simp only [p4, p2, List.length_append, List.length_map, go_sem]
 repeat refine sd2 ?_
 refine CallVC.same (rPut_ok 2 ds.length (by omega) (by omega)) ?_
 simp only [p4, p2, List.length_append, go_sem]
 repeat refine sd2 ?_
 refine ⟨okDyn_num (fun x => x.i) (by kernel_rfl), ?_⟩
 repeat refine sd2 ?_
 obtain ⟨T, hT⟩ : ∃ T : Nat → List UInt8, T = fun i => putB 4 cum ++ putB 4 win ++ putB 2 gs.length ++ putB 2 ds.length ++ (gs.take i).flatMap fun k => putB 2 k.1 ++ putB 2 k.2 := ⟨_, rfl⟩
 have hT0 : T 0 = putB 4 cum ++ putB 4 win ++ putB 2 gs.length ++ putB 2 ds.length := by rw [hT]; simp
 have hTl : ∀ i, (T i).length ≤ 12 + 4 * gs.length := by
  intro i
  rw [hT]
  simp only [List.length_append, p4, p2, skT_len, List.length_take]
  omega
 refine loopK.intro _ _ (I := fun i : Nat => ⟨[none, some (.ptr ⟨L + 1, 0⟩ 0 0), some (.ptr ⟨L + 1, 32⟩ 0 0), some (.str (T i)), some (.int .i64 i)] ++ oz 59,
  [(⟨L + 1, 0⟩, .rows 55 4 true true [[.int .i64 cum, .int .i64 win, .fs 2 ((gs.map kN).map kE), .fs 1 (ds.map eN)]]), (⟨L + 1, 32⟩, .rows 34 3 true true [[.int .i64 0, .int .i64 0, .str []]])], 10000 * (i + 1)⟩) (pre := fun i => i ≤ gs.length) (μ := fun i => gs.length - i) 0 (by omega) ?_ ?_
 ·refine Sub.of (hfz hF2) (by simp only [hT0, go_sem, subT, and_self, Int.natCast_zero]; try trivial) ?_ (by simp [subK, keys]) (by simp)
  simp [subH, Tx.look]
 ·intro i hi
  have hl := hTl i
  by_cases hlt : i < gs.length
  ·have f1 : decide ((i : Int) < (gs.length : Int)) = true := dT (by omega)
   have r0 := rowK (sk := gs.map kN) (i := i) (by simpa using hlt)
   obtain ⟨k, hk⟩ : ∃ k, k = gs[i] := ⟨_, rfl⟩
   have e0 : (gs.map kN).getD i (0, 0) = kN k := by rw [hk]; simp [hlt, List.getD_eq_getElem?_getD]
   rw [e0] at r0
   have hkb := h2 k (by rw [hk]; exact List.getElem_mem hlt)
   have hTs : T (i + 1) = T i ++ putB 2 k.1 ++ putB 2 k.2 := by
    rw [hT]
    simp only
    rw [List.take_succ_eq_append_getElem hlt, List.flatMap_append, ← hk]
    simp
   simp only [f1, r0, kE, kN, Int.toNat_natCast, List.length_map, Nat.add_assoc, Nat.add_zero, go_sem]
   repeat refine sd2 ?_
   refine CallVC.same (rPut_ok 2 k.1 (by omega) (by omega)) ?_
   simp only [r0, kE, kN, p2, Int.toNat_natCast, List.length_map, Nat.add_assoc, go_sem]
   repeat refine sd2 ?_
   refine CallVC.same (rPut_ok 2 k.2 (by omega) (by omega)) ?_
   simp only [p2, List.length_append, Nat.add_assoc, go_sem]
   refine ⟨by omega, okDyn_num (fun x => x.i) (by kernel_rfl), ?_⟩
   repeat refine sd2 ?_
   refine ⟨i + 1, by omega, by omega, Sub.of (hfz hF2) (by simp only [hTs, go_sem, subT, and_self, Int.natCast_succ]; try trivial) ?_ (by simp [subK, keys]) (by simp only []; omega)⟩
   simp [subH, Tx.look]
  ·have f1 : decide ((i : Int) < (gs.length : Int)) = false := dF (by omega)
   have hin : i = gs.length := by omega
   subst hin
   simp only [f1, List.length_map, Nat.add_assoc, go_sem]
   repeat refine sd2 ?_
   obtain ⟨U, hU⟩ : ∃ U : Nat → List UInt8, U = fun i => T gs.length ++ (ds.take i).flatMap (putB 4) := ⟨_, rfl⟩
   have hU0 : U 0 = T gs.length := by rw [hU]; simp
   have hUl : ∀ i, (U i).length ≤ 12 + 4 * gs.length + 4 * ds.length := by
    intro i
    have e : ∀ l : List Nat, (l.flatMap (putB 4)).length = 4 * l.length := by
     intro l
     induction l with
     | nil => rfl
     | cons a l ih => rw [List.flatMap_cons, List.length_append, ih, p4, List.length_cons]; omega
    rw [hU]
    simp only [List.length_append, e, List.length_take]
    omega
   refine loopK.intro _ _ (I := fun i : Nat => ⟨[none, some (.ptr ⟨L + 1, 0⟩ 0 0), some (.ptr ⟨L + 1, 32⟩ 0 0), some (.str (U i)), none, some (.int .i64 i)] ++ oz 58,
    [(⟨L + 1, 0⟩, .rows 55 4 true true [[.int .i64 cum, .int .i64 win, .fs 2 ((gs.map kN).map kE), .fs 1 (ds.map eN)]]), (⟨L + 1, 32⟩, .rows 34 3 true true [[.int .i64 0, .int .i64 0, .str []]])], 10000 * (gs.length + 2) + 10000 * (i + 1)⟩) (pre := fun i => i ≤ ds.length) (μ := fun i => ds.length - i) 0 (by omega) ?_ ?_
   ·refine Sub.of (hfz hF2) (by simp only [hU0, go_sem, subT, and_self, Int.natCast_zero]; try trivial) ?_ (by simp [subK, keys]) (by simp only []; omega)
    simp [subH, Tx.look]
   ·intro i hi
    have hl := hUl i
    by_cases hlt : i < ds.length
    ·have f1 : decide ((i : Int) < (ds.length : Int)) = true := dT (by omega)
     obtain ⟨k, hk⟩ : ∃ k, k = ds[i] := ⟨_, rfl⟩
     have r0 : (ds.map eN).getD i [] = [.int .i64 (k : Int)] := by rw [hk]; simp [eN, hlt, List.getD_eq_getElem?_getD]
     have hkb := h3 k (by rw [hk]; exact List.getElem_mem hlt)
     have hUs : U (i + 1) = U i ++ putB 4 k := by
      rw [hU]
      simp only
      rw [List.take_succ_eq_append_getElem hlt, List.flatMap_append, ← hk]
      simp
     simp only [f1, r0, Int.toNat_natCast, List.length_map, Nat.add_assoc, go_sem]
     repeat refine sd2 ?_
     refine CallVC.same (rPut_ok 4 k (by omega) (by omega)) ?_
     simp only [p4, Nat.add_assoc, go_sem]
     repeat refine sd2 ?_
     refine ⟨i + 1, by omega, by omega, Sub.of (hfz hF2) (by simp only [hUs, go_sem, subT, and_self, Int.natCast_succ]; try trivial) ?_ (by simp [subK, keys]) (by simp only []; omega)⟩
     simp [subH, Tx.look]
    ·have f1 : decide ((i : Int) < (ds.length : Int)) = false := dF (by omega)
     have hin : i = ds.length := by omega
     subst hin
     have hUe : U ds.length = sackT cum win gs ds := by rw [hU, hT]; simp [sackT, List.append_assoc]
     rw [← hUe]
     simp only [f1, List.length_map, Nat.add_assoc, go_sem]
     repeat refine sd2 ?_
     exact PostF.same (p := True) (.inr rfl) (by simp only [resVal, resVals, resVal1, one, go_sem]) trivial (by simp [Tx.nf, nfl]) (by simp [UpdAll])
theorem ckExt {a b : Ckx} (h1 : a.kd = b.kd) (h2 : a.fl = b.fl) (h3 : a.bd = b.bd) : a = b := by cases a; cases b; simp_all
theorem pkExt {a b : Pkx} (h1 : a.fr = b.fr) (h2 : a.tt = b.tt) (h3 : a.tg = b.tg) (h4 : a.cs = b.cs) : a = b := by cases a; cases b; simp_all
theorem rSameP_ok {F : SF} {L nx : Nat} (p q : Pkx) (hp : p.cs.length ≤ 1000000) (hq : q.cs.length ≤ 1000000) (b : Bool) (hb : b = true ↔ p = q) :
  Con Tryz.prog 19 [.agg p.row, .agg q.row] F L nx nx (.bool b) [] [] := by
 have no : p ≠ q → b = false := fun h => by
  cases hb' : b with
  | false => rfl
  | true => exact absurd (hb.1 hb') h
 refine bdy Tryz.f19 ?_
 intro F3 hF1 hF2
 simp only [Pkx.row]
 by_cases h1 : p.fr = q.fr
 rotate_left
 ·have f1 : (p.fr != q.fr) = true := by simpa using h1
  rw [no (fun h => h1 (by rw [h]))]
  simp only [Tryz.f19, cx, f1, Nat.add_zero, go_sem, meths]
  exact .bool (.inr rfl) rfl rfl (by simp [UpdAll])
 have f1 : (p.fr != q.fr) = false := by simpa using h1
 by_cases h2 : p.tt = q.tt
 rotate_left
 ·have f2 : (p.tt != q.tt) = true := by simpa using h2
  rw [no (fun h => h2 (by rw [h]))]
  simp only [Tryz.f19, cx, f1, f2, Nat.add_zero, go_sem, meths]
  exact .bool (.inr rfl) rfl rfl (by simp [UpdAll])
 have f2 : (p.tt != q.tt) = false := by simpa using h2
 by_cases h3 : p.tg = q.tg
 rotate_left
 ·have f3 : (p.tg != q.tg) = true := by simpa using h3
  rw [no (fun h => h3 (by rw [h]))]
  simp only [Tryz.f19, cx, f1, f2, f3, Nat.add_zero, go_sem, meths]
  exact .bool (.inr rfl) rfl rfl (by simp [UpdAll])
 have f3 : (p.tg != q.tg) = false := by simpa using h3
 by_cases h4 : p.cs.length = q.cs.length
 rotate_left
 ·have f4 : ((p.cs.length : Int) != (q.cs.length : Int)) = true := by simp; omega
  rw [no (fun h => h4 (by rw [h]))]
  simp only [Tryz.f19, cx, f1, f2, f3, f4, List.length_map, Nat.add_zero, go_sem, meths]
  exact .bool (.inr rfl) rfl rfl (by simp [UpdAll])
 have f4 : ((p.cs.length : Int) != (q.cs.length : Int)) = false := by simp; omega
 simp only [Tryz.f19, cx, f1, f2, f3, f4, List.length_map, Nat.add_zero, go_sem, meths]
 refine loopK.intro _ _ (I := fun i : Nat => ⟨[none, none, some (.ptr ⟨L + 1, 0⟩ 0 0), some (.ptr ⟨L + 1, 32⟩ 0 0), none, some (.int .i64 i)] ++ oz 46, [(⟨L + 1, 0⟩, .rows 24 4 true true [p.row]), (⟨L + 1, 32⟩, .rows 24 4 true true [q.row])], 10000 * (i + 1)⟩)
  (pre := fun i => i ≤ p.cs.length ∧ ∀ j (h1 : j < p.cs.length) (h2 : j < q.cs.length), j < i → p.cs[j] = q.cs[j]) (μ := fun i => p.cs.length - i) 0 ⟨by omega, by intro j _ _ h; omega⟩ ?_ ?_
 ·refine Sub.of (hfz hF2) (by simp only [go_sem, subT, and_self, Int.natCast_zero]) ?_ (by simp [subK, keys]) (by simp)
  simp [subH, Tx.look, Pkx.row]
 ·rintro i ⟨hi, hpr⟩
  by_cases hlt : i < p.cs.length
  ·have g1 : decide ((i : Int) < (p.cs.length : Int)) = true := dT (by omega)
   have r0 := rowCk hlt
   have r1 := rowCk (cs := q.cs) (i := i) (by omega)
   obtain ⟨x, hx⟩ : ∃ x, x = p.cs[i] := ⟨_, rfl⟩
   obtain ⟨y, hy⟩ : ∃ y, y = q.cs[i] := ⟨_, rfl⟩
   rw [← hx] at r0
   rw [← hy] at r1
   by_cases hxy : x = y
   ·have b1 : (!(x.kd == y.kd && (x.fl == y.fl && x.bd == y.bd))) = false := by rw [hxy]; simp
    simp only [g1, r0, r1, b1, Ckx.row, Pkx.row, List.length_map, Nat.add_assoc, go_sem]
    refine ⟨by kernel_rfl, ?_⟩
    repeat refine sd2 ?_
    refine ⟨okDyn_num (fun x => x.i % 10000) (by simp only [numF, List.map, Nat.reduceMod]; kernel_rfl), ?_⟩
    repeat refine sd2 ?_
    refine ⟨i + 1, ⟨by omega, fun j a1 a2 hj => ?_⟩, by omega, ?_⟩
    ·rcases Nat.lt_or_ge j i with h | h
     ·exact hpr j a1 a2 h
     ·have : j = i := by omega
      subst this
      rw [← hx, ← hy, hxy]
    ·refine Sub.o hF2 ?_
     simp [subH, Tx.look]
   ·have b1 : (!(x.kd == y.kd && (x.fl == y.fl && x.bd == y.bd))) = true := by
     cases hb9 : (x.kd == y.kd && (x.fl == y.fl && x.bd == y.bd)) with
     | false => rfl
     | true =>
      simp only [Bool.and_eq_true, beq_iff_eq] at hb9
      exact absurd (ckExt hb9.1 hb9.2.1 hb9.2.2) hxy
    simp only [g1, r0, r1, b1, Ckx.row, Pkx.row, List.length_map, Nat.add_assoc, go_sem]
    refine ⟨by kernel_rfl, ?_⟩
    repeat refine sd2 ?_
    refine ⟨okDyn_num (fun x => x.i % 10000) (by simp only [numF, List.map, Nat.reduceMod]; kernel_rfl), ?_⟩
    repeat refine sd2 ?_
    rw [no (fun h => hxy (by rw [hx, hy]; congr 1; rw [h]))]
    exact .bool (.inr rfl) rfl rfl (by simp [UpdAll])
  ·have g1 : decide ((i : Int) < (p.cs.length : Int)) = false := dF (by omega)
   simp only [g1, Pkx.row, List.length_map, Nat.add_assoc, go_sem]
   have heq : p = q := pkExt h1 h2 h3 (List.ext_getElem h4 fun k a1 a2 => hpr k a1 a2 (by omega))
   rw [hb.2 heq]
   exact .bool (.inr rfl) rfl rfl (by simp [UpdAll])
theorem lawFails_ok {F : SF} {L nx : Nat} : Con Tryz.prog 55 [.agg [.int .i64 0, .int .i64 0, .str []], .int .i64 320] F L nx nx (.bool true) [] [] := by
 refine bdy Tryz.f55 ?_
 intro F3 hF1 hF2
 simp only [Tryz.f55, cx, go_sem, meths]
 exact .bool (.inr rfl) rfl rfl (by simp [UpdAll])
def dgs : List UInt8 := [48, 49, 50, 51, 52, 53, 54, 55, 56, 57, 97, 98, 99, 100, 101, 102]
def dgP : List PV := [.int .u8 48, .int .u8 49, .int .u8 50, .int .u8 51, .int .u8 52, .int .u8 53, .int .u8 54, .int .u8 55, .int .u8 56, .int .u8 57, .int .u8 97, .int .u8 98, .int .u8 99, .int .u8 100, .int .u8 101, .int .u8 102]
theorem digits_ok {F : SF} {L nx : Nat} : Con Tryz.prog 133 [] F L nx nx (.agg dgP) [] [] := by
 refine bdy Tryz.f133 ?_
 intro F3 hF1 hF2
 simp only [Tryz.f133, cx, go_sem, meths]
 exact PostF.same (p := True) (.inr rfl) (by simp only [dgP, resVal, resVals, resVal1, one, go_sem]) trivial (by rfl) (by simp [UpdAll])
theorem dg_at (k : Nat) (h : k < 16) : dgP.getD k (.tup []) = .int .u8 ((dgs.getD k 0).toNat) := by
 have : ∀ k, k < 16 → dgP[k]? = some (PV.int .u8 ((dgs.getD k 0).toNat)) := by
  intro k hk
  rcases k with _ | _ | _ | _ | _ | _ | _ | _ | _ | _ | _ | _ | _ | _ | _ | _ | k <;> first | rfl | omega
 rw [List.getD_eq_getElem?_getD, this k h]; rfl
theorem and15 (n : Nat) (h : n < 256) : Sx.ibits .and .u8 (n : Int) 15 = ((n % 16 : Nat) : Int) := by
 have : ∀ n : Nat, n < 256 → Sx.ibits .and .u8 (n : Int) 15 = ((n % 16 : Nat) : Int) := of_decide_eq_true (by kernel_rfl)
 exact this n h
theorem shr4 (n : Nat) : (n : Int).fdiv (2 ^ min 4 8) = ((n / 16 : Nat) : Int) := by
 rw [Int.fdiv_eq_ediv_of_nonneg _ (by decide)]
 have : (2 : Int) ^ min 4 8 = 16 := by decide
 rw [this]; omega
def hexS (s : List UInt8) : List UInt8 := s.flatMap fun c => [dgs.getD (c.toNat / 16) 0, dgs.getD (c.toNat % 16) 0]
theorem Hex_ok {F : SF} {L nx : Nat} (s : List UInt8) (hs : s.length ≤ 100000) : Con Tryz.prog 105 [.str s] F L nx nx (.str (hexS s)) [] [] := by
 refine bdy Tryz.f105 ?_
 intro F3 hF1 hF2
 have dgl : dgP.length = 16 := rfl
 have dgn : nfl dgP = true := rfl
 simp only [Tryz.f105, cx, go_sem, meths]
 refine CallVC.same digits_ok ?_
 simp only [dgl, dgn, go_sem]
 repeat refine sd2 ?_
 refine loopK.intro _ _ (I := fun z : Nat × Nat => ⟨[some (.str s), none, none, some (.ptr ⟨L + 1, 32⟩ 0 0), some (.sl ⟨L + 1, z.2⟩ 0 (2 * z.1)), none, none, none, some (.int .i64 s.length), some (.int .i64 z.1)] ++ oz 20, [(⟨L + 1, 32⟩, .rows 215 16 true true [dgP]), (⟨L + 1, z.2⟩, .rows 5 1 true true ((hexS (s.take z.1)).map rowB))], 10000 * (z.1 + 1)⟩)
  (pre := fun z => z.1 ≤ s.length ∧ 100 ≤ z.2 ∧ z.2 < 10000 * (z.1 + 1)) (μ := fun z => s.length - z.1) (0, 224) ⟨by simp, by simp, by simp⟩ ?_ ?_
 ·refine Sub.trans (Sub.nilName 4 5 (wd := 1) (by omega) rfl) ?_
  refine Sub.of (hfz hF2) (by simp only [Nat.mul_zero, go_sem, subT, and_self, Int.natCast_zero]; try trivial) ?_ ?_ ?_
  ·simp [subH, Tx.look, updH, setH, hexS]
  ·simp [subK, keys, updH, setH]
  ·simp
 ·rintro ⟨i, q⟩ ⟨hi, hq0, hq⟩
  simp only at hi hq0 hq ⊢
  have q_0 : (q = 0) = False := by apply eq_false; omega
  have n0_q : (0 = q) = False := by apply eq_false; omega
  have q_32 : (q = 32) = False := by apply eq_false; omega
  have n32_q : (32 = q) = False := by apply eq_false; omega
  obtain ⟨q_n1, q_n2, q_n3, q_n4, q_n5⟩ := nqL L (i := i) (p := q) (by omega)
  by_cases hlt : i < s.length
  ·have f1 : decide ((i : Int) < (s.length : Int)) = true := dT (by omega)
   obtain ⟨c, hc⟩ : ∃ c, c = s[i] := ⟨_, rfl⟩
   have r0 : s.getD i 0 = c := by rw [hc]; simp [List.getD_eq_getElem?_getD, hlt]
   have hc8 := c.toNat_lt
   have k1 := shr4 c.toNat
   have k2 := and15 c.toNat (by omega)
   have k3 := dg_at (c.toNat / 16) (by omega)
   have k4 := dg_at (c.toNat % 16) (by omega)
   have k5 : hexS (s.take (i + 1)) = hexS (s.take i) ++ [dgs.getD (c.toNat / 16) 0, dgs.getD (c.toNat % 16) 0] := by
    rw [List.take_succ_eq_append_getElem hlt, ← hc]; simp [hexS]
   have hl2 : (hexS (s.take i)).length = 2 * i := by
    have : ∀ l : List UInt8, (hexS l).length = 2 * l.length := by
     intro l
     induction l with
     | nil => rfl
     | cons a l ih => simp only [hexS, List.flatMap_cons, List.length_append, List.length_cons, List.length_nil] at ih ⊢; omega
    rw [this, List.length_take]; omega
   simp only [f1, r0, k1, k2, k3, k4, Nat.mul_one, List.length_map, q_32, n32_q, q_n1, q_n2, q_n5, kS2, kS3, Nat.add_assoc, go_sem]
   refine ⟨by kernel_rfl, ?_⟩
   repeat refine sd2 ?_
   refine ⟨okDyn_num (fun x => if x.i = q then 1 else x.i % 10000 + 100) (by simp only [numF, List.map, n32_q, q_n1, if_true, if_false, Nat.mul_add_mod, Nat.reduceMod]; kernel_rfl), ?_⟩
   repeat refine sd2 ?_
   refine ⟨(i + 1, 10000 * (i + 1) + 544), ⟨by simp only []; omega, by simp only []; omega, by simp only []; omega⟩, by simp only []; omega, ?_⟩
   refine Sub.of (hfz hF2) (by simp only [Nat.mul_add, Nat.mul_one, go_sem, subT, and_self, Int.natCast_succ]) ?_ (by simp [subK, keys]) (by simp only []; omega)
   simp [subH, Tx.look, k5, rowB, q_n1, kS2]
  ·have hin : i = s.length := by omega
   subst hin
   have f1 : decide ((s.length : Int) < (s.length : Int)) = false := dF (by omega)
   have hl2 : (hexS s).length = 2 * s.length := by
    have : ∀ l : List UInt8, (hexS l).length = 2 * l.length := by
     intro l
     induction l with
     | nil => rfl
     | cons a l ih => simp only [hexS, List.flatMap_cons, List.length_append, List.length_cons, List.length_nil] at ih ⊢; omega
    rw [this]
   rw [List.take_of_length_le (Nat.le_refl _)]
   simp only [f1, List.length_map, q_32, Nat.add_assoc, go_sem]
   have e1 : List.take (2 * s.length) ((hexS s).map rowB) = (hexS s).map rowB := List.take_of_length_le (by simp [hl2])
   simp only [e1, rowB_bytes]
   refine ⟨⟨by omega, isByte_all _⟩, ?_⟩
   exact PostF.rs (v0 := .str (hexS s)) (.inr rfl)
theorem is1_ok {F : SF} {L nx : Nat} (a b c : Nm) (ha : a.l ≤ L) (hb : b.l ≤ L) (hc : c.l ≤ L) (oa pa ob pb oc pc : Bool) (ea eb ec : TypeId) (k fl : Int) (bd tx : List UInt8) (hl : bd.length ≤ 100000) (ht : hexS bd = tx)
  (hFa : F a = some (.rows ea 1 oa pa [[.int .i64 k]])) (hFb : F b = some (.rows eb 1 ob pb [[.int .i64 fl]])) (hFc : F c = some (.rows ec 1 oc pc [[.str tx]])) :
  Con Tryz.prog 104 [.agg [.int .i64 k, .int .i64 fl, .str bd], .int .i64 0, .ptr a 0 0, .ptr b 0 0, .ptr c 0 0] F L nx nx (.bool true) [] [a, b, c] := by
 refine bdy Tryz.f104 (hrd := (by simp; omega)) ?_
 intro F3 hF1 hF2
 have ka := (hF1 a (by simp)).trans hFa
 have kb := (hF1 b (by simp)).trans hFb
 have kc := (hF1 c (by simp)).trans hFc
 have a1 : ∀ k, (a = (⟨L + 1, k⟩ : Nm)) = False := nm_out ha
 have b1 : ∀ k, (b = (⟨L + 1, k⟩ : Nm)) = False := nm_out hb
 have c1 : ∀ k, (c = (⟨L + 1, k⟩ : Nm)) = False := nm_out hc
 simp only [Tryz.f104, cx, ka, kb, a1, b1, Nat.add_zero, go_sem, meths]
 refine ⟨by kernel_rfl, ?_⟩
 refine CallVC.same (Hex_ok bd hl) ?_
 rw [ht]
 simp only [kc, c1, beq_self_eq_true, go_sem]
 refine ⟨okDyn_num (fun _ => 0) (by kernel_rfl), ?_⟩
 exact .bool (.inr rfl) rfl rfl (by simp [UpdAll])
theorem is_ok {F : SF} {L nx : Nat} (k fl : Int) (tx : List UInt8) :
  Con Tryz.prog 56 [.int .i64 k, .int .i64 fl, .str tx] F L nx (nx + 3) (.fn (.func 104) [] [.ptr ⟨L, nx⟩ 0 0, .ptr ⟨L, nx + 1⟩ 0 0, .ptr ⟨L, nx + 2⟩ 0 0])
   [(⟨L, nx⟩, .rows 3 1 true true [[.int .i64 k]]), (⟨L, nx + 1⟩, .rows 3 1 true true [[.int .i64 fl]]), (⟨L, nx + 2⟩, .rows 9 1 true true [[.str tx]])] [] := by
 refine bdyN Tryz.f56 ?_
 intro F3 hF1 hF2
 simp only [Tryz.f56, cx, go_sem, meths]
 refine .now (.val [0, 32, 64] (.inr rfl) (by simp) (p := True) (v0 := .fn (.func 104) [] [.ptr ⟨L + 1, 0⟩ 0 0, .ptr ⟨L + 1, 32⟩ 0 0, .ptr ⟨L + 1, 64⟩ 0 0]) ?_ trivial ?_ ?_ ⟨?_, ?_, ?_, ?_, ?_, ?_, trivial⟩ ?_)
 ·simp only [resVal, resVals, resVal1, one, go_sem]
 ·simp [nmA, nmAL, Dn]
 ·simp [Tx.rn, Tx.rnL, sg, List.idxOf, List.findIdx, List.findIdx.go]
 ·simp
 ·rw [kp_at0 (by simp)]
  exact .pure (by simp [Tx.look])
 ·simp
 ·rw [kp_at (by simp)]
  exact .pure (by simp [Tx.look])
 ·simp
 ·rw [kp_at (by simp)]
  exact .pure (by simp [Tx.look])
 ·simp [UpdAll, keys]
def pkZ : Pkx := ⟨0, 0, 0, []⟩
theorem refuses_ok {F : SF} {L nx : Nat} (s : List UInt8) (e : Int) (hd : ∀ (F : SF) (L nx : Nat), Con Tryz.prog 17 [.str s] F L nx nx (.tup [.agg [.int .i64 0, .int .i64 0, .int .i64 0, .nilS], .int .i64 e]) [] []) :
  Con Tryz.prog 53 [.str s, .int .i64 e] F L nx nx (.bool true) [] [] := by
 refine bdy Tryz.f53 ?_
 intro F3 hF1 hF2
 simp only [Tryz.f53, cx, go_sem, meths]
 refine CallVC.same (hd _ _ _) ?_
 have f1 : (e == e) = true := by simp
 simp only [f1, go_sem]
 refine CallVC.gen (args2 := [.agg pkZ.row, .agg pkZ.row]) (by simp [Pkx.row, pkZ, WkL, Wk]) (rSameP_ok pkZ pkZ (by simp [pkZ]) (by simp [pkZ]) true (by simp)) ?_
 simp only [Pkx.row, pkZ, List.map_nil, wkNL, wkN, unown, go_sem]
 exact .bool (.inr rfl) rfl rfl (by simp [UpdAll])
def pW : Pkx := ⟨1, 2, 3, [⟨11, 0, []⟩]⟩
theorem pW_ok : pW.ok = true := by kernel_rfl
def sW : List UInt8 := encS pW
theorem sW_len : sW.length = 16 := by kernel_rfl
theorem sW_dec : decG sW = some pW := by kernel_rfl
theorem sW_bad : decG (sW.take 15 ++ [5]) = none := by kernel_rfl
def d1W : Dat := ⟨1, 2, 3, 51, true, true, false, [104, 105]⟩
def b1W : List UInt8 := dataB d1W
theorem h1W : hexS b1W = [48, 48, 48, 48, 48, 48, 48, 49, 48, 48, 48, 50, 48, 48, 48, 51, 48, 48, 48, 48, 48, 48, 51, 51, 54, 56, 54, 57] := by kernel_rfl
def b2W : List UInt8 := sackO 9 1000 [(2, 3)] [7]
theorem h2W : hexS b2W = [48, 48, 48, 48, 48, 48, 48, 57, 48, 48, 48, 48, 48, 51, 101, 56, 48, 48, 48, 49, 48, 48, 48, 49, 48, 48, 48, 50, 48, 48, 48, 51, 48, 48, 48, 48, 48, 48, 48, 55] := by kernel_rfl
def b3W : List UInt8 := fwdT 5 [(1, 7)]
theorem h3W : hexS b3W = [48, 48, 48, 48, 48, 48, 48, 53, 48, 48, 48, 49, 48, 48, 48, 55] := by kernel_rfl
def b4W : List UInt8 := resetB 2 6 0 1 []
theorem h4W : hexS b4W = [48, 50, 48, 48, 48, 48, 48, 48, 48, 54, 48, 49] := by kernel_rfl
theorem bW_len : b1W.length ≤ 100000 ∧ b2W.length ≤ 100000 ∧ b3W.length ≤ 100000 ∧ b4W.length ≤ 100000 := of_decide_eq_true (by kernel_rfl)
def fldP : PV := .tup [.agg [.int .i64 0, .int .i64 0, .str []], .int .i64 320]
def putP (k fl : Int) (b : List UInt8) : PV := .tup [.agg [.int .i64 k, .int .i64 fl, .str b], .int .i64 0]
section
variable {F : SF} {L nx : Nat}
theorem w1_ok : Con Tryz.prog 21 [.agg d1W.row] F L nx nx (putP 0 3 b1W) [] [] := by
 have h := putData_ok (F := F) (L := L) (nx := nx) d1W
 rw [show d1W.ok = true by kernel_rfl, if_pos rfl] at h
 exact h
theorem w2_ok : Con Tryz.prog 26 [sackP 9 1000 [(2, 3)] [7]] F L nx nx (putP 3 0 b2W) [] [] := by
 have h := putSack_ok (F := F) (L := L) (nx := nx) 9 1000 [(2, 3)] [7] (by simp) (by simp)
 rw [show sackV 9 1000 [(2, 3)] [7] = true by kernel_rfl, if_pos rfl] at h
 exact h
theorem w3_ok : Con Tryz.prog 26 [sackP 0 0 [(2, 3), (4, 5)] []] F L nx nx fldP [] [] := by
 have h := putSack_ok (F := F) (L := L) (nx := nx) 0 0 [(2, 3), (4, 5)] [] (by simp) (by simp)
 rw [show sackV 0 0 [(2, 3), (4, 5)] [] = false by kernel_rfl, if_neg (by simp)] at h
 exact h
theorem w4_ok : Con Tryz.prog 26 [sackP 0 0 [(1, 1)] []] F L nx nx fldP [] [] := by
 have h := putSack_ok (F := F) (L := L) (nx := nx) 0 0 [(1, 1)] [] (by simp) (by simp)
 rw [show sackV 0 0 [(1, 1)] [] = false by kernel_rfl, if_neg (by simp)] at h
 exact h
theorem w5_ok : Con Tryz.prog 30 [.agg (Ini.mk 0 0 1 1 0 []).row] F L nx nx fldP [] [] := by
 have h := putInit_ok (F := F) (L := L) (nx := nx) ⟨0, 0, 1, 1, 0, []⟩
 rw [show (Ini.mk 0 0 1 1 0 []).ok = false by kernel_rfl, if_neg (by simp)] at h
 exact h
theorem w6_ok : Con Tryz.prog 34 [fwdP 5 [(1, 7)]] F L nx nx (putP 192 0 b3W) [] [] := by
 have h := putForward_ok (F := F) (L := L) (nx := nx) 5 [(1, 7)] (by simp)
 rw [show fwdV 5 [(1, 7)] = true by kernel_rfl, if_pos rfl] at h
 exact h
theorem w7_ok : Con Tryz.prog 38 [rstP 2 6 0 1 (.fs 1 (([] : List Int).map eI))] F L nx nx (putP 130 0 b4W) [] [] := by
 have h := putReset_ok (F := F) (L := L) (nx := nx) 2 6 0 1 [] (by simp)
 rw [show resetV 2 6 0 1 [] = true by kernel_rfl, if_pos rfl] at h
 exact h
theorem w8_ok : Con Tryz.prog 43 [.agg (Ckx.mk 3 0 []).row] F L nx nx (.tup [.agg zDat.row, .int .i64 2]) [] [] := by
 have h := getDataT_ok (F := F) (L := L) (nx := nx) ⟨3, 0, []⟩ (by simp)
 rw [show getDatV ⟨3, 0, []⟩ = .tup [.agg zDat.row, .int .i64 2] from if_neg (by simp)] at h
 exact h
theorem w9_ok : Con Tryz.prog 45 [.agg (Ckx.mk 3 0 []).row] F L nx nx (zSck 5) [] [] := by
 have h := getSackT_ok (F := F) (L := L) (nx := nx) ⟨3, 0, []⟩ (by simp)
 rw [show getSckV ⟨3, 0, []⟩ = zSck 5 by unfold getSckV; rw [if_pos rfl, if_neg (by rw [show sckOk ⟨3, 0, []⟩ = false by kernel_rfl]; simp)]] at h
 exact h
theorem w10_ok : Con Tryz.prog 14 [.agg pW.row] F L nx nx (.tup [.str sW, .int .i64 0]) [] [] := encode_ok pW pW_ok
theorem w11_ok : Con Tryz.prog 17 [.str sW] F L nx nx (.tup [.agg pW.row, .int .i64 0]) [] [] := decode_ok sW pW (by rw [sW_len]; omega) (by rw [sW_len]; omega) sW_dec
end
theorem works32_ok {F : SF} {L nx : Nat} : Con Tryz.prog 10 [] F L nx nx (.bool true) [] [] := by
 have hl := sW_len
 have hl15 : (sW.take 15).length = 15 := by rw [List.length_take, hl]; rfl
 refine bdy Tryz.f10 ?_
 intro F3 hF1 hF2
 simp only [Tryz.f10, cx, go_sem, meths]
 have hn : (((16 : Nat) : Int) != 16) = false := rfl
 have hn2 : ((2 : Int) == 2) = true := rfl
 have hn5 : ((5 : Int) == 5) = true := rfl
 refine CallVC.gen (args2 := [.agg pW.row]) (by simp [WkL, Wk, Pkx.row, Ckx.row, pW]) w10_ok ?_
 simp only [hn, wkNL, wkN, unown, Pkx.row, Ckx.row, pW, List.map_cons, hl, go_sem]
 refine CallVC.same w11_ok ?_
 simp only [Pkx.row, Ckx.row, pW, List.map_cons, go_sem]
 refine CallVC.same w8_ok ?_
 simp only [zDat, Dat.row, go_sem]
 refine CallVC.same w9_ok ?_
 simp only [zSck, go_sem]
 refine CallVC.same (is_ok _ _ _) ?_
 simp only [go_sem]
 refine CallVC.same w1_ok ?_
 simp only [putP, go_sem]
 refine CallVC.same (is1_ok _ _ _ (by simp) (by simp) (by simp) true true true true true true 3 3 9 0 3 b1W _ bW_len.1 h1W (by simp [Tx.look]) (by simp [Tx.look]) (by simp [Tx.look])) ?_
 simp only [go_sem]
 refine CallVC.same (is_ok _ _ _) ?_
 simp only [go_sem]
 refine CallVC.gen (args2 := [sackP 9 1000 [(2, 3)] [7]]) (by simp [WkL, Wk, sackP, kE, eI]) w2_ok ?_
 simp only [putP, sackP, kE, eI, wkNL, wkN, unown, List.map_cons, go_sem]
 refine CallVC.same (is1_ok _ _ _ (by simp) (by simp) (by simp) true true true true true true 3 3 9 3 0 b2W _ bW_len.2.1 h2W (by simp [Tx.look]) (by simp [Tx.look]) (by simp [Tx.look])) ?_
 simp only [go_sem]
 refine CallVC.gen (args2 := [sackP 0 0 [(2, 3), (4, 5)] []]) (by simp [WkL, Wk, sackP, kE]) w3_ok ?_
 simp only [fldP, sackP, kE, wkNL, wkN, unown, List.map_cons, go_sem]
 refine CallVC.same lawFails_ok ?_
 simp only [go_sem]
 refine CallVC.gen (args2 := [sackP 0 0 [(1, 1)] []]) (by simp [WkL, Wk, sackP, kE]) w4_ok ?_
 simp only [fldP, sackP, kE, wkNL, wkN, unown, List.map_cons, go_sem]
 refine CallVC.same lawFails_ok ?_
 simp only [go_sem]
 refine CallVC.same w5_ok ?_
 simp only [fldP, go_sem]
 refine CallVC.same lawFails_ok ?_
 simp only [go_sem]
 refine CallVC.same (is_ok _ _ _) ?_
 simp only [go_sem]
 refine CallVC.gen (args2 := [fwdP 5 [(1, 7)]]) (by simp [WkL, Wk, fwdP, kE]) w6_ok ?_
 simp only [putP, fwdP, kE, wkNL, wkN, unown, List.map_cons, go_sem]
 refine CallVC.same (is1_ok _ _ _ (by simp) (by simp) (by simp) true true true true true true 3 3 9 192 0 b3W _ bW_len.2.2.1 h3W (by simp [Tx.look]) (by simp [Tx.look]) (by simp [Tx.look])) ?_
 simp only [go_sem]
 refine CallVC.same (is_ok _ _ _) ?_
 simp only [go_sem]
 refine CallVC.gen (args2 := [rstP 2 6 0 1 (.fs 1 (([] : List Int).map eI))]) (by simp [WkL, Wk, rstP]) w7_ok ?_
 simp only [putP, rstP, wkNL, wkN, unown, List.map_nil, go_sem]
 refine CallVC.same (is1_ok _ _ _ (by simp) (by simp) (by simp) true true true true true true 3 3 9 130 0 b4W _ bW_len.2.2.2 h4W (by simp [Tx.look]) (by simp [Tx.look]) (by simp [Tx.look])) ?_
 simp only [go_sem]
 refine CallVC.gen (args2 := [.agg pW.row, .agg pW.row]) (by simp [WkL, Wk, Pkx.row, Ckx.row, pW]) (rSameP_ok pW pW (by simp [pW]) (by simp [pW]) true (by simp)) ?_
 simp only [wkNL, wkN, unown, Pkx.row, Ckx.row, pW, List.map_cons, List.map_nil, hl, hl15, go_sem]
 repeat refine sd2 ?_
 refine CallVC.same (refuses_ok (sW.take 15 ++ [5]) 5 (fun F L nx => decodeNo_ok _ (by rw [List.length_append, hl15]; simp) (by rw [List.length_append, hl15]; simp) sW_bad)) ?_
 simp only [hl, go_sem]
 repeat refine sd2 ?_
 refine CallVC.same (refuses_ok (sW.take 15) 7 (fun F L nx => decodeShort_ok _ (by rw [hl15]; omega))) ?_
 simp only [hn2, hn5, go_sem]
 repeat refine sd2 ?_
 exact .bool (.inr rfl) rfl rfl (by simp [UpdAll])
end Go.Proofs.YtaacfnngodhecaaGreatDoor
end
section
namespace Go.Proofs.YtaacfnngodhecaaGreatDoor
open Go.Tx
set_option maxRecDepth 100000
set_option maxHeartbeats 16000000
theorem serB_mk {b x : Int} (h0 : 0 ≤ x) (h : x < 2 ^ b.toNat) : serB b x = true := by unfold serB; simp [h0, h]
theorem serB_32 {x : Int} (h0 : 0 ≤ x) (h : x < 4294967296) : serB 32 x = true := serB_mk h0 h
theorem serB_16 {x : Int} (h0 : 0 ≤ x) (h : x < 65536) : serB 16 x = true := serB_mk h0 h
theorem serB_8 {x : Int} (h0 : 0 ≤ x) (h : x < 256) : serB 8 x = true := serB_mk h0 h
theorem Pcx.Ok.dat {p : Pcx} (h : p.Ok) : p.dat.ok = true := by
 have h1 := h.a
 have h2 := h.d
 have h3 := someX_len p.pl 100 (by omega)
 unfold Dat.ok Pcx.dat
 simp only [Bool.and_eq_true, Bool.or_eq_true, decide_eq_true_eq]
 refine ⟨⟨serB_32 (by omega) (by omega), serB_32 (by omega) (by omega)⟩, ⟨serB_16 (by omega) (by omega), ?_⟩, by omega, by omega, ?_⟩
 ·split
  ·exact serB_16 (by omega) (by omega)
  ·exact serB_16 (by omega) (by omega)
 ·cases p.lo <;> simp
theorem Pcx.Ok.ini {p : Pcx} (h : p.Ok) (ck : Bool) : (p.ini ck).ok = true := by
 have h1 := h.a
 have h2 := h.b
 have h4 := h.d
 have h3 := someX_len p.pl 200 (by omega)
 unfold Ini.ok Pcx.ini
 simp only [Bool.and_eq_true, decide_eq_true_eq]
 refine ⟨⟨serB_32 (by omega) (by omega), serB_32 (by omega) (by omega), serB_32 (by omega) (by omega)⟩, ⟨serB_16 (by omega) (by omega), serB_16 (by omega) (by omega)⟩, by omega, by omega, by omega, ?_⟩
 cases ck
 ·simp
 ·simp only [if_true]; omega
theorem Pcx.sk_at (p : Pcx) {n i : Nat} (h : i < n) : ((p.sk n).map kN).getD i (0, 0) = kN (p.fa i, (p.x i).1 * (p.x i).2) := by
 simp [Pcx.sk, List.getD_eq_getElem?_getD, h]
theorem Pcx.Ok.fwd {p : Pcx} (h : p.Ok) : fwdV p.a ((p.sk p.n).map kN) = true := by
 have h1 := h.a
 have hn : p.n ≤ 30 := by unfold Pcx.n; omega
 unfold fwdV
 simp only [Bool.and_eq_true, List.all_eq_true, List.mem_range, decide_eq_true_eq, List.length_map, Pcx.sk_len]
 refine ⟨fun i hi => ?_, serB_32 (by omega) (by omega), hn⟩
 have hf := Pcx.fa_le h i
 have hx := h.x i
 have hm : (p.x i).1 * (p.x i).2 ≤ 255 * 255 := Nat.mul_le_mul (by omega) (by omega)
 unfold okSk
 simp only [p.sk_at hi, kN, Bool.and_eq_true, Bool.or_eq_true, beq_iff_eq, decide_eq_true_eq]
 refine ⟨⟨serB_16 (by omega) (by omega), serB_16 (Int.natCast_nonneg _) (by omega)⟩, ?_⟩
 cases i with
 | zero => exact .inl rfl
 | succ i =>
  right
  rw [show i + 1 - 1 = i from rfl, p.sk_at (show i < p.n by omega)]
  simp only [kN, Pcx.fa]
  omega
theorem Pcx.gp_at (p : Pcx) {n i : Nat} (h : i < n) : ((p.gp n).map kN).getD i (0, 0) = kN (p.ga i + (2 + (p.x i).1), p.ga (i + 1)) := by
 simp [Pcx.gp, List.getD_eq_getElem?_getD, h]
theorem Pcx.Ok.sck {p : Pcx} (h : p.Ok) : sackV p.a p.b ((p.gp p.n).map kN) ((p.db (p.c % 6)).map fun x : Nat => (x : Int)) = true := by
 have h1 := h.a
 have h2 := h.b
 have hn : p.n ≤ 30 := by unfold Pcx.n; omega
 unfold sackV
 simp only [Bool.and_eq_true, List.all_eq_true, List.mem_range, decide_eq_true_eq, List.length_map, Pcx.gp_len, Pcx.db_len]
 refine ⟨fun i hi => ?_, ⟨serB_32 (by omega) (by omega), serB_32 (by omega) (by omega)⟩, hn, by omega, fun x hx => ?_⟩
 ·have hf := Pcx.ga_le h (i + 1)
  unfold okGp
  simp only [p.gp_at hi, kN, Bool.and_eq_true, decide_eq_true_eq]
  have hb : befG ((p.gp p.n).map kN) i = p.ga i := by
   unfold befG
   cases i with
   | zero => simp [Pcx.ga]
   | succ i => rw [if_neg (by omega), show i + 1 - 1 = i from rfl, p.gp_at (show i < p.n by omega)]; rfl
  rw [hb]
  have hga : p.ga (i + 1) = p.ga i + 2 + (p.x i).1 + (p.x i).2 := rfl
  omega
 ·obtain ⟨y, hy, rfl⟩ := List.mem_map.1 hx
  simp only [Pcx.db, List.mem_map] at hy
  obtain ⟨j, _, rfl⟩ := hy
  exact serB_32 (Int.natCast_nonneg _) (by omega)
def Pcx.rst (p : Pcx) : Rsx := if p.m8 then ⟨2, p.a, 0, ((p.b % 256 : Nat) : Int), []⟩ else ⟨1, p.a, p.b, 0, p.ss p.n9⟩
theorem Pcx.ss_at (p : Pcx) {n i : Nat} (h : i < n + 1) : (p.ss n).getD i 0 = (p.sa i : Int) := by
 simp [Pcx.ss, List.getD_eq_getElem?_getD, h]
theorem Pcx.Ok.rst {p : Pcx} (h : p.Ok) : resetV p.rst.kind p.rst.num p.rst.last p.rst.res p.rst.xs = true := by
 have h1 := h.a
 have h2 := h.b
 have hn : p.n9 ≤ 29 := by unfold Pcx.n9; omega
 unfold Pcx.rst
 cases p.m8 with
 | true =>
  simp only [if_true]
  unfold resetV
  simp only [Bool.and_eq_true]
  refine ⟨⟨⟨⟨rfl, serB_32 (by omega) (by omega)⟩, serB_32 (by omega) (by omega)⟩, serB_8 (by omega) (by omega)⟩, by simp⟩
 | false =>
  simp only [Bool.false_eq_true, if_false]
  unfold resetV
  simp only [Bool.and_eq_true]
  refine ⟨⟨⟨⟨?_, serB_32 (by omega) (by omega)⟩, serB_32 (by omega) (by omega)⟩, serB_8 (by omega) (by omega)⟩, ?_⟩
  ·unfold incB
   simp only [List.all_eq_true, List.mem_range, Pcx.ss_len, Bool.and_eq_true, Bool.or_eq_true, beq_iff_eq, decide_eq_true_eq]
   intro i hi
   have hf := Pcx.sa_le h i
   rw [p.ss_at hi]
   refine ⟨serB_16 (by omega) (by omega), ?_⟩
   cases i with
   | zero => exact .inl rfl
   | succ i =>
    right
    rw [show i + 1 - 1 = i from rfl, p.ss_at (show i < p.n9 + 1 by omega)]
    simp only [Pcx.sa]
    omega
  ·rw [if_neg (by omega)]
   simp [Pcx.ss_len]; omega
theorem pReset_ok {F : SF} {L nx : Nat} (p : Pcx) (hp : p.Ok) : Con Tryz.prog 37 [.agg p.row] F L nx nx (rstP p.rst.kind p.rst.num p.rst.last p.rst.res (.fs 1 (p.rst.xs.map eI))) [] [] := by
 unfold Pcx.rst
 cases hm : p.m8 with
 | true => exact pReset1_ok p hp hm
 | false => exact pReset2_ok p hp hm
theorem xPutReset_ok {F : SF} {L nx : Nat} (k n la r : Int) (xs : List Int) (h : resetV k n la r xs = true) : Con Tryz.prog 40 [rstP k n la r (.fs 1 (xs.map eI))] F L nx nx (.agg [.int .i64 130, .int .i64 0, .str (resetB k n la r xs)]) [] [] := by
 obtain ⟨b1, b2, b3, b4, b5⟩ := rstB h
 rcases b5 with ⟨rfl, rfl, rfl⟩ | ⟨rfl, rfl, c1, c2⟩
 ·have h1 := xPutReset2_ok (F := F) (L := L) (nx := nx) n.toNat r.toNat 0 [] (by omega) (by omega)
  rw [show ((n.toNat : Nat) : Int) = n by omega, show ((r.toNat : Nat) : Int) = r by omega] at h1
  have e : resetB 2 n 0 r [] = putB 1 2 ++ putB 4 n.toNat ++ putB 1 r.toNat := by unfold resetB; rw [if_pos rfl]
  rw [e]
  exact h1
 ·have h1 := xPutReset1_ok (F := F) (L := L) (nx := nx) n.toNat la.toNat 0 (xs.map Int.toNat) (by omega) (by omega) (by
   intro k hk
   obtain ⟨y, hy, rfl⟩ := List.mem_map.1 hk
   have := b4 y hy
   show y.toNat < 65536; omega) (by simp; omega)
  have e2 : (xs.map Int.toNat).map eN = xs.map eI := by
   rw [List.map_map]
   apply List.map_congr_left
   intro x hx
   have := (b4 x hx).1
   show [PV.int .i64 ((x.toNat : Nat) : Int)] = [PV.int .i64 x]
   rw [show ((x.toNat : Nat) : Int) = x by omega]
  rw [e2, show ((n.toNat : Nat) : Int) = n by omega, show ((la.toNat : Nat) : Int) = la by omega] at h1
  have e : resetB 1 n la 0 xs = putB 1 1 ++ putB 4 n.toNat ++ putB 4 la.toNat ++ (xs.map Int.toNat).flatMap (putB 2) := by unfold resetB; rw [if_neg (by omega), List.append_assoc, List.append_assoc, List.append_assoc]
  rw [e]
  exact h1
theorem xPutSackV_ok {F : SF} {L nx : Nat} (c w : Int) (gs : List (Int × Int)) (ds : List Int) (h : sackV c w gs ds = true) : Con Tryz.prog 28 [sackP c w gs ds] F L nx nx (.agg [.int .i64 3, .int .i64 0, .str (sackO c w gs ds)]) [] [] := by
 obtain ⟨b1, b2, b3, b4, b5, b6⟩ := sackB h
 have h1 := xPutSack_ok (F := F) (L := L) (nx := nx) c.toNat w.toNat (gs.map fun k => (k.1.toNat, k.2.toNat)) (ds.map Int.toNat) (by omega) (by omega) (by
  intro k hk
  obtain ⟨y, hy, rfl⟩ := List.mem_map.1 hk
  have := b1 y hy
  constructor
  ·show y.1.toNat < 65536; omega
  ·show y.2.toNat < 65536; omega) (by
  intro k hk
  obtain ⟨y, hy, rfl⟩ := List.mem_map.1 hk
  have := b6 y hy
  show y.toNat < 4294967296; omega) (by simpa using b4) (by simpa using b5)
 rw [mapK gs (fun x hx => ⟨(b1 x hx).1, (b1 x hx).2.2.1⟩), mapN ds (fun x hx => (b6 x hx).1), show ((c.toNat : Nat) : Int) = c by omega, show ((w.toNat : Nat) : Int) = w by omega] at h1
 exact h1
end Go.Proofs.YtaacfnngodhecaaGreatDoor
end
section
namespace Go.Proofs.YtaacfnngodhecaaGreatDoor
open Go.Tx
theorem dataB_len (d : Dat) : (dataB d).length = 12 + d.pl.length := by
 unfold dataB; simp only [List.length_append, putB_len]; try omega
theorem flD_ran (la fi lo : Bool) : 0 ≤ flD la fi lo 3 ∧ flD la fi lo 3 ≤ 7 := by
 cases la <;> cases fi <;> cases lo <;> decide
theorem ini_oct_len (d : Ini) : d.oct.length = 16 + d.ck.length := by
 unfold Ini.oct iniB; simp only [List.length_append, putB_len]; try omega
theorem fwdT_len (cum : Nat) (sk : List (Nat × Nat)) : (fwdT cum sk).length = 4 + 4 * sk.length := by
 unfold fwdT; rw [List.length_append, putB_len, skT_len]
theorem sackO_len (c w : Int) (gs : List (Int × Int)) (ds : List Int) : (sackO c w gs ds).length = 12 + 4 * gs.length + 4 * ds.length := by
 unfold sackO sackT
 simp only [List.length_append, putB_len, skT_len, flat_len, List.length_map]
 try omega
theorem resetB_len (k n la r : Int) (xs : List Int) : (resetB k n la r xs).length = if k = 2 then 6 else 9 + 2 * xs.length := by
 unfold resetB
 split
 ·simp only [List.length_append, putB_len]
 ·simp only [List.length_append, putB_len, flat_len, List.length_map]
  omega
end Go.Proofs.YtaacfnngodhecaaGreatDoor
end
section
namespace Go.Proofs.YtaacfnngodhecaaGreatDoor
open Go.Tx
set_option maxRecDepth 100000
set_option maxHeartbeats 16000000
structure Edx where
 a : Nat
 n : Nat
 t : List UInt8
def Edx.row (e : Edx) : List PV := [.int .u16 e.a, .int .u8 e.n, .str e.t]
structure Edx.Ok (e : Edx) : Prop where
 a : e.a < 65536
 n : e.n < 256
 t : e.t.length ≤ maxLen
def Edx.of (e : Edx) (s : List UInt8) : List UInt8 := s.take (e.a % (s.length + 1)) ++ e.t.take 8 ++ s.drop (e.a % (s.length + 1) + e.n % 5)
theorem editOf_ok {F : SF} {L nx : Nat} (e : Edx) (he : e.Ok) (s : List UInt8) (hs : s.length ≤ 1000000) : Con Tryz.prog 16 [.agg e.row, .str s] F L nx nx (.str (e.of s)) [] [] := by
 obtain ⟨ha, hn, ht⟩ := he
 unfold maxLen at ht
 have hm : e.a % (s.length + 1) ≤ s.length := by have := Nat.mod_lt e.a (show s.length + 1 > 0 by omega); omega
 have ka : (e.a : Int).tmod ((s.length : Int) + 1) = ((e.a % (s.length + 1) : Nat) : Int) := by
  have := tmL e.a ((s.length : Int) + 1) (by omega)
  rwa [show ((s.length : Int) + 1).toNat = s.length + 1 by omega] at this
 have kn : (e.n : Int).tmod 5 = ((e.n % 5 : Nat) : Int) := tmL e.n 5 (by omega)
 unfold Edx.of
 obtain ⟨u, hu⟩ : ∃ u, u = e.a % (s.length + 1) := ⟨_, rfl⟩
 obtain ⟨v, hv⟩ : ∃ v, v = e.n % 5 := ⟨_, rfl⟩
 have hv5 : v < 5 := by rw [hv]; exact Nat.mod_lt _ (by omega)
 rw [← hu] at hm ka ⊢
 rw [← hv] at kn ⊢
 have q2 : List.take (min (e.t.length : Int) 8).toNat e.t = e.t.take 8 := by rw [List.take_eq_take_iff]; omega
 have q3 : List.take (s.length - (min ((u : Int) + (v : Int)) s.length).toNat) (List.drop (min ((u : Int) + (v : Int)) s.length).toNat s) = s.drop (u + v) := by
  rw [List.take_of_length_le (by simp)]
  by_cases h : u + v ≤ s.length
  ·rw [show (min ((u : Int) + (v : Int)) s.length).toNat = u + v by omega]
  ·rw [show (min ((u : Int) + (v : Int)) s.length).toNat = s.length by omega, List.drop_length, List.drop_of_length_le (by omega)]
 have l1 : (s.take u).length = u := by rw [List.length_take]; omega
 have l2 : (e.t.take 8).length ≤ 8 := by rw [List.length_take]; omega
 have l3 : (s.drop (u + v)).length ≤ s.length := by rw [List.length_drop]; omega
 refine bdy Tryz.f16 ?_
 intro F3 hF1 hF2
 simp only [Tryz.f16, cx, Edx.row, ka, kn, q2, q3, l1, Nat.sub_zero, List.length_append, Nat.add_assoc, Nat.add_zero, go_sem, meths]
 repeat refine sd2 ?_
 refine ⟨by kernel_rfl, ?_⟩
 exact PostF.rs (v0 := .str (s.take u ++ e.t.take 8 ++ s.drop (u + v))) (.inr rfl)
theorem xPutForwardV_ok {F : SF} {L nx : Nat} (c : Int) (sk : List (Int × Int)) (h : fwdV c sk = true) : Con Tryz.prog 36 [fwdP c sk] F L nx nx (.agg [.int .i64 192, .int .i64 0, .str (fwdT c.toNat (sk.map fun k => (k.1.toNat, k.2.toNat)))]) [] [] := by
 obtain ⟨b1, b2, b3, b4⟩ := fwdB h
 have h1 := xPutForward_ok (F := F) (L := L) (nx := nx) c.toNat (sk.map fun k => (k.1.toNat, k.2.toNat)) (by omega) (by
  intro k hk
  obtain ⟨y, hy, rfl⟩ := List.mem_map.1 hk
  have := b1 y hy
  constructor
  ·show y.1.toNat < 65536; omega
  ·show y.2.toNat < 65536; omega) (by simp; omega)
 rw [mapK sk (fun x hx => ⟨(b1 x hx).1, (b1 x hx).2.2.1⟩), show ((c.toNat : Nat) : Int) = c by omega] at h1
 exact h1
def kds : List Nat := [4, 5, 6, 7, 8, 10, 11, 14]
def Pcx.chk (p : Pcx) : Ckx := match p.w % 8 with
 | 0 => ⟨0, flD p.dat.la p.dat.fi p.dat.lo 3, dataB p.dat⟩
 | 1 => ⟨0, flD p.dat.la p.dat.fi p.dat.lo 3, dataB p.dat⟩
 | 2 => ⟨3, 0, sackO p.a p.b ((p.gp p.n).map kN) ((p.db (p.c % 6)).map fun x : Nat => (x : Int))⟩
 | 3 => ⟨iniK (p.ini p.m8).ck, 0, (p.ini p.m8).oct⟩
 | 4 => ⟨192, 0, fwdT p.a (p.sk p.n)⟩
 | 5 => ⟨130, 0, resetB p.rst.kind p.rst.num p.rst.last p.rst.res p.rst.xs⟩
 | _ => ⟨(kds.getD (p.w / 8 % 8) 0 : Nat), (p.a % 2 : Nat), p.pl.take 60⟩
theorem wrap8 {n : Nat} (h : n < 256) : IntKind.u8.wrap (n : Int) = (n : Int) := by
 simp [IntKind.wrap, IntKind.signed, IntKind.bits]; omega
theorem kds_get {x : Nat} (h : x < 8) : ([PV.int .i64 4, PV.int .i64 5, PV.int .i64 6, PV.int .i64 7, PV.int .i64 8, PV.int .i64 10, PV.int .i64 11, PV.int .i64 14] : List PV).getD x (PV.tup []) = PV.int .i64 ((kds.getD x 0 : Nat) : Int) := by
 rcases (show x = 0 ∨ x = 1 ∨ x = 2 ∨ x = 3 ∨ x = 4 ∨ x = 5 ∨ x = 6 ∨ x = 7 by omega) with rfl | rfl | rfl | rfl | rfl | rfl | rfl | rfl <;> rfl
theorem fwK (l : List (Nat × Nat)) : (l.map kN).map (fun k => (k.1.toNat, k.2.toNat)) = l := by
 rw [List.map_map, List.map_congr_left (g := id) (by intro x _; rfl), List.map_id]
theorem pChunk_ok {F : SF} {L nx : Nat} (p : Pcx) (hp : p.Ok) : Con Tryz.prog 41 [.agg p.row] F L nx nx (.agg p.chk.row) [] [] := by
 have tw : (p.w : Int).tmod 8 = ((p.w % 8 : Nat) : Int) := tmL p.w 8 (by omega)
 have td : (p.w : Int).tdiv 8 = ((p.w / 8 : Nat) : Int) := tdL p.w 8 (by omega)
 have tx : ((p.w / 8 : Nat) : Int).tmod 8 = ((p.w / 8 % 8 : Nat) : Int) := tmL (p.w / 8) 8 (by omega)
 have ta : (p.a : Int).tmod 2 = ((p.a % 2 : Nat) : Int) := tmL p.a 2 (by omega)
 unfold Pcx.chk
 obtain ⟨m, hm⟩ : ∃ m, m = p.w % 8 := ⟨_, rfl⟩
 have hm8 : m < 8 := by rw [hm]; exact Nat.mod_lt _ (by omega)
 rw [← hm] at tw ⊢
 have hpp := hp
 obtain ⟨hw, ha, hb, hc, hd, hl, hll, hpl⟩ := hpp
 rcases (show m = 6 ∨ m = 7 ∨ m = 0 ∨ m = 1 ∨ m = 2 ∨ m = 3 ∨ m = 4 ∨ m = 5 by omega) with rfl | rfl | rfl | rfl | rfl | rfl | rfl | rfl
 ·show Con Tryz.prog 41 [.agg p.row] F L nx nx (.agg [.int .i64 ((kds.getD (p.w / 8 % 8) 0 : Nat) : Int), .int .i64 ((p.a % 2 : Nat) : Int), .str (p.pl.take 60)]) [] []
  have tv : (p.w : Int).tmod 8 = 6 := tw
  have z0 : ((6 : Int) == 0) = false := rfl
  have z1 : ((6 : Int) == 1) = false := rfl
  have z2 : ((6 : Int) == 2) = false := rfl
  have z3 : ((6 : Int) == 3) = false := rfl
  have z4 : ((6 : Int) == 4) = false := rfl
  have z5 : ((6 : Int) == 5) = false := rfl
  have wx : IntKind.u8.wrap ((p.w / 8 : Nat) : Int) = ((p.w / 8 : Nat) : Int) := wrap8 (by omega)
  have gx := kds_get (x := p.w / 8 % 8) (Nat.mod_lt _ (by omega))
  have bx : p.w / 8 % 8 < 8 := Nat.mod_lt _ (by omega)
  have ba : p.a % 2 < 2 := Nat.mod_lt _ (by omega)
  have tk : List.take (min (p.pl.length : Int) 60).toNat p.pl = p.pl.take 60 := by rw [List.take_eq_take_iff]; omega
  unfold maxLen at hpl
  refine bdy Tryz.f41 ?_
  intro F3 hF1 hF2
  simp only [Tryz.f41, cx, Pcx.row, tv, z0, z1, z2, z3, z4, z5, td, tx, ta, wx, gx, tk, Nat.sub_zero, Nat.add_zero, go_sem, meths]
  repeat refine sd2 ?_
  refine ⟨okDyn_num (fun x => x.i) (by kernel_rfl), ?_⟩
  exact PostF.same (p := True) (.inr rfl) (by simp only [resVal, resVals, resVal1, one, go_sem]) trivial (by simp [Tx.nf, nfl]) (by simp [UpdAll])
 ·show Con Tryz.prog 41 [.agg p.row] F L nx nx (.agg [.int .i64 ((kds.getD (p.w / 8 % 8) 0 : Nat) : Int), .int .i64 ((p.a % 2 : Nat) : Int), .str (p.pl.take 60)]) [] []
  have tv : (p.w : Int).tmod 8 = 7 := tw
  have z0 : ((7 : Int) == 0) = false := rfl
  have z1 : ((7 : Int) == 1) = false := rfl
  have z2 : ((7 : Int) == 2) = false := rfl
  have z3 : ((7 : Int) == 3) = false := rfl
  have z4 : ((7 : Int) == 4) = false := rfl
  have z5 : ((7 : Int) == 5) = false := rfl
  have wx : IntKind.u8.wrap ((p.w / 8 : Nat) : Int) = ((p.w / 8 : Nat) : Int) := wrap8 (by omega)
  have gx := kds_get (x := p.w / 8 % 8) (Nat.mod_lt _ (by omega))
  have bx : p.w / 8 % 8 < 8 := Nat.mod_lt _ (by omega)
  have ba : p.a % 2 < 2 := Nat.mod_lt _ (by omega)
  have tk : List.take (min (p.pl.length : Int) 60).toNat p.pl = p.pl.take 60 := by rw [List.take_eq_take_iff]; omega
  unfold maxLen at hpl
  refine bdy Tryz.f41 ?_
  intro F3 hF1 hF2
  simp only [Tryz.f41, cx, Pcx.row, tv, z0, z1, z2, z3, z4, z5, td, tx, ta, wx, gx, tk, Nat.sub_zero, Nat.add_zero, go_sem, meths]
  repeat refine sd2 ?_
  refine ⟨okDyn_num (fun x => x.i) (by kernel_rfl), ?_⟩
  exact PostF.same (p := True) (.inr rfl) (by simp only [resVal, resVals, resVal1, one, go_sem]) trivial (by simp [Tx.nf, nfl]) (by simp [UpdAll])
 ·show Con Tryz.prog 41 [.agg p.row] F L nx nx (.agg [.int .i64 0, .int .i64 (flD p.dat.la p.dat.fi p.dat.lo 3), .str (dataB p.dat)]) [] []
  have tv : (p.w : Int).tmod 8 = 0 := tw
  have z0 : ((0 : Int) == 0) = true := rfl
  have z1 : ((0 : Int) == 1) = false := rfl
  have z2 : ((0 : Int) == 2) = false := rfl
  have z3 : ((0 : Int) == 3) = false := rfl
  have z4 : ((0 : Int) == 4) = false := rfl
  have z5 : ((0 : Int) == 5) = false := rfl
  refine bdy Tryz.f41 ?_
  intro F3 hF1 hF2
  simp only [Tryz.f41, cx, Pcx.row, tv, z0, Nat.add_zero, go_sem, meths]
  repeat refine sd2 ?_
  refine CallVC.same (pData_ok p hp) ?_
  simp only [Dat.row, go_sem]
  refine CallVC.same (rPutData_ok p.dat hp.dat) ?_
  simp only [go_sem]
  exact PostF.same (p := True) (.inr rfl) (by simp only [resVal, resVals, resVal1, one, go_sem]) trivial (by simp [Tx.nf, nfl]) (by simp [UpdAll])
 ·show Con Tryz.prog 41 [.agg p.row] F L nx nx (.agg [.int .i64 0, .int .i64 (flD p.dat.la p.dat.fi p.dat.lo 3), .str (dataB p.dat)]) [] []
  have tv : (p.w : Int).tmod 8 = 1 := tw
  have z0 : ((1 : Int) == 0) = false := rfl
  have z1 : ((1 : Int) == 1) = true := rfl
  have z2 : ((1 : Int) == 2) = false := rfl
  have z3 : ((1 : Int) == 3) = false := rfl
  have z4 : ((1 : Int) == 4) = false := rfl
  have z5 : ((1 : Int) == 5) = false := rfl
  refine bdy Tryz.f41 ?_
  intro F3 hF1 hF2
  simp only [Tryz.f41, cx, Pcx.row, tv, z0, z1, Nat.add_zero, go_sem, meths]
  repeat refine sd2 ?_
  refine CallVC.same (pData_ok p hp) ?_
  simp only [Dat.row, go_sem]
  refine CallVC.same (rPutData_ok p.dat hp.dat) ?_
  simp only [go_sem]
  exact PostF.same (p := True) (.inr rfl) (by simp only [resVal, resVals, resVal1, one, go_sem]) trivial (by simp [Tx.nf, nfl]) (by simp [UpdAll])
 ·show Con Tryz.prog 41 [.agg p.row] F L nx nx (.agg [.int .i64 3, .int .i64 0, .str (sackO p.a p.b ((p.gp p.n).map kN) ((p.db (p.c % 6)).map fun x : Nat => (x : Int)))]) [] []
  have tv : (p.w : Int).tmod 8 = 2 := tw
  have z0 : ((2 : Int) == 0) = false := rfl
  have z1 : ((2 : Int) == 1) = false := rfl
  have z2 : ((2 : Int) == 2) = true := rfl
  have z3 : ((2 : Int) == 3) = false := rfl
  have z4 : ((2 : Int) == 4) = false := rfl
  have z5 : ((2 : Int) == 5) = false := rfl
  refine bdy Tryz.f41 ?_
  intro F3 hF1 hF2
  simp only [Tryz.f41, cx, Pcx.row, tv, z0, z1, z2, Nat.add_zero, go_sem, meths]
  repeat refine sd2 ?_
  refine CallVC.same (pSack_ok p hp) ?_
  simp only [sackP, go_sem]
  refine CallVC.same (xPutSackV_ok _ _ _ _ hp.sck) ?_
  simp only [go_sem]
  exact PostF.same (p := True) (.inr rfl) (by simp only [resVal, resVals, resVal1, one, go_sem]) trivial (by simp [Tx.nf, nfl]) (by simp [UpdAll])
 ·show Con Tryz.prog 41 [.agg p.row] F L nx nx (.agg [.int .i64 (iniK (p.ini p.m8).ck), .int .i64 0, .str (p.ini p.m8).oct]) [] []
  have tv : (p.w : Int).tmod 8 = 3 := tw
  have z0 : ((3 : Int) == 0) = false := rfl
  have z1 : ((3 : Int) == 1) = false := rfl
  have z2 : ((3 : Int) == 2) = false := rfl
  have z3 : ((3 : Int) == 3) = true := rfl
  have z4 : ((3 : Int) == 4) = false := rfl
  have z5 : ((3 : Int) == 5) = false := rfl
  refine bdy Tryz.f41 ?_
  intro F3 hF1 hF2
  simp only [Tryz.f41, cx, Pcx.row, tv, z0, z1, z2, z3, Nat.add_zero, go_sem, meths]
  repeat refine sd2 ?_
  refine CallVC.same (pInit_ok p hp p.m8) ?_
  simp only [Ini.row, go_sem]
  refine CallVC.same (rPutInit_ok (p.ini p.m8) (hp.ini p.m8)) ?_
  simp only [go_sem]
  exact PostF.same (p := True) (.inr rfl) (by simp only [resVal, resVals, resVal1, one, go_sem]) trivial (by simp [Tx.nf, nfl]) (by simp [UpdAll])
 ·show Con Tryz.prog 41 [.agg p.row] F L nx nx (.agg [.int .i64 192, .int .i64 0, .str (fwdT p.a (p.sk p.n))]) [] []
  have tv : (p.w : Int).tmod 8 = 4 := tw
  have z0 : ((4 : Int) == 0) = false := rfl
  have z1 : ((4 : Int) == 1) = false := rfl
  have z2 : ((4 : Int) == 2) = false := rfl
  have z3 : ((4 : Int) == 3) = false := rfl
  have z4 : ((4 : Int) == 4) = true := rfl
  have z5 : ((4 : Int) == 5) = false := rfl
  refine bdy Tryz.f41 ?_
  intro F3 hF1 hF2
  simp only [Tryz.f41, cx, Pcx.row, tv, z0, z1, z2, z3, z4, Nat.add_zero, go_sem, meths]
  repeat refine sd2 ?_
  refine CallVC.same (pForward_ok p hp) ?_
  simp only [fwdP, go_sem]
  refine CallVC.same (xPutForwardV_ok _ _ hp.fwd) ?_
  simp only [go_sem]
  exact PostF.same (p := True) (.inr rfl) (by simp only [fwK, resVal, resVals, resVal1, one, go_sem]) trivial (by simp [Tx.nf, nfl]) (by simp [UpdAll])
 ·show Con Tryz.prog 41 [.agg p.row] F L nx nx (.agg [.int .i64 130, .int .i64 0, .str (resetB p.rst.kind p.rst.num p.rst.last p.rst.res p.rst.xs)]) [] []
  have tv : (p.w : Int).tmod 8 = 5 := tw
  have z0 : ((5 : Int) == 0) = false := rfl
  have z1 : ((5 : Int) == 1) = false := rfl
  have z2 : ((5 : Int) == 2) = false := rfl
  have z3 : ((5 : Int) == 3) = false := rfl
  have z4 : ((5 : Int) == 4) = false := rfl
  have z5 : ((5 : Int) == 5) = true := rfl
  refine bdy Tryz.f41 ?_
  intro F3 hF1 hF2
  simp only [Tryz.f41, cx, Pcx.row, tv, z0, z1, z2, z3, z4, z5, Nat.add_zero, go_sem, meths]
  repeat refine sd2 ?_
  refine CallVC.same (pReset_ok p hp) ?_
  simp only [rstP, go_sem]
  refine CallVC.same (xPutReset_ok _ _ _ _ _ hp.rst) ?_
  simp only [go_sem]
  exact PostF.same (p := True) (.inr rfl) (by simp only [resVal, resVals, resVal1, one, go_sem]) trivial (by simp [Tx.nf, nfl]) (by simp [UpdAll])
theorem takeM {α : Type} (l : List α) (m : Nat) (k : Int) (hk : k = m) : List.take ((min (l.length : Int) k).toNat - 0) l = l.take m := by
 rw [List.take_eq_take_iff]; omega
theorem edx_len (e : Edx) (s : List UInt8) : (e.of s).length ≤ s.length + 8 := by
 unfold Edx.of
 simp only [List.length_append, List.length_take, List.length_drop]
 omega
end Go.Proofs.YtaacfnngodhecaaGreatDoor
end
section
namespace Go.Proofs.YtaacfnngodhecaaGreatDoor
open Go.ChangeShapes Go.WideShapes Go.ChangeAt Go.RowKit Go.Tx
set_option maxRecDepth 100000
theorem trodAll_five32 {P : Program} {H : Type} {enc : TypeId × Value → H} {w : World} {base : Nat} {spare : TypeId → Bool} {held : Bool} {t0 t1 t2 t3 t4 : TypeId} {args : Array Value} {ds : List (DataW H)} {ps : List MemPlace} (h : DataW.TrodAll enc P w base spare held [t0, t1, t2, t3, t4] args.toList ds ps) :
  ∃ v0 v1 v2 v3 v4 d0 d1 d2 d3 d4 p0 p1 p2 p3 p4, args = #[v0, v1, v2, v3, v4] ∧ ds = [d0, d1, d2, d3, d4] ∧ ps = p0 ++ p1 ++ p2 ++ p3 ++ p4 ∧ DataW.Trod enc P w base spare held t0 v0 d0 p0 ∧ DataW.Trod enc P w base spare held t1 v1 d1 p1 ∧ DataW.Trod enc P w base spare held t2 v2 d2 p2 ∧ DataW.Trod enc P w base spare held t3 v3 d3 p3 ∧ DataW.Trod enc P w base spare held t4 v4 d4 p4 := by
 obtain ⟨v0, vs0, d0, ds0, p0, q0, hargs, rfl, rfl, hd0, h⟩ := trodAll_cons h
 obtain ⟨v1, vs1, d1, ds1, p1, q1, rfl, rfl, rfl, hd1, h⟩ := trodAll_cons h
 obtain ⟨v2, vs2, d2, ds2, p2, q2, rfl, rfl, rfl, hd2, h⟩ := trodAll_cons h
 obtain ⟨v3, vs3, d3, ds3, p3, q3, rfl, rfl, rfl, hd3, h⟩ := trodAll_cons h
 obtain ⟨v4, vs4, d4, ds4, p4, q4, rfl, rfl, rfl, hd4, h⟩ := trodAll_cons h
 obtain ⟨rfl, rfl, rfl⟩ := trodAll_nil h
 exact ⟨v0, v1, v2, v3, v4, d0, d1, d2, d3, d4, p0, p1, p2, p3, p4, by cases args; simp_all, rfl, by simp, hd0, hd1, hd2, hd3, hd4⟩
theorem undEdit32 : ∃ fs, Tryz.prog.underlying 31 = some (.struct fs) := undS (by kernel_rfl)
theorem wfI64 {n : Int} (h : (Lit.int .i64 n).wf = true) : -9223372036854775808 ≤ n ∧ n ≤ 9223372036854775807 := by
 simpa [Lit.wf, IntKind.min, IntKind.max, IntKind.signed, IntKind.bits] using h
theorem shpChunk32 {n : Nat} {xs : List PV} (h : Shp tys (n + 4) 34 xs) : ∃ c : Ckx, xs = c.row ∧ c.bd.length ≤ maxLen ∧ (-9223372036854775808 ≤ c.fl ∧ c.fl ≤ 9223372036854775807) := by
 have h := Shp.struct g34 h
 simp only [List.foldr] at h
 obtain ⟨_, _, rfl, h1, _, _, rfl, h2, _, _, rfl, h3, rfl⟩ := h
 obtain ⟨a1, rfl, _⟩ := Shp.int g3 h1
 obtain ⟨a2, rfl, w2⟩ := Shp.int g3 h2
 obtain ⟨s3, rfl, l3⟩ := Shp.str g9 h3
 exact ⟨⟨a1, a2, s3⟩, rfl, l3, wfI64 w2⟩
theorem shpEdit32 {n : Nat} {xs : List PV} (h : Shp tys (n + 4) 31 xs) : ∃ e : Edx, xs = e.row ∧ e.Ok := by
 have h := Shp.struct g31 h
 simp only [List.foldr] at h
 obtain ⟨_, _, rfl, h1, _, _, rfl, h2, _, _, rfl, h3, rfl⟩ := h
 obtain ⟨_, rfl, w1⟩ := Shp.int g25 h1
 obtain ⟨_, rfl, w2⟩ := Shp.int g5 h2
 obtain ⟨s3, rfl, l3⟩ := Shp.str g9 h3
 obtain ⟨a1, rfl, b1⟩ := wf16 w1
 obtain ⟨a2, rfl, b2⟩ := wf8 w2
 exact ⟨⟨a1, a2, s3⟩, rfl, b1, b2, l3⟩
theorem vr_one32 {W : World} {Z : Nat → Prop} {E : Env} {x : PV} {v : Value} (h : VRl W Z E [x] [v]) : VR W Z E x v := by
 simp only [VRl] at h
 obtain ⟨v', t, h1, h2, h3⟩ := h
 simp at h1
 rw [h1.1]; exact h2
end Go.Proofs.YtaacfnngodhecaaGreatDoor
end
