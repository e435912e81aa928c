/- Lemmas for the walk: ZC69, ZC70, ZC40, ZC41, ZC42, ZD3, ZD4, ZC11, ZD5, ZD6, ZC43, ZC57. -/
import Derived.Test.YtfhhbkehlfipgaaGreatP17
import Derived.Test.YtfhhbkehlfipgaaGreatP16
import Derived.Test.YtfhhbkehlfipgaaGreatP13
import Derived.Test.YtfhhbkehlfipgaaGreatP10
import Derived.Test.YtfhhbkehlfipgaaGreatP14
set_option linter.all false
section
namespace Go.Proofs.YtfhhbkehlfipgaaGreat
open Go.Tx
set_option maxRecDepth 100000
set_option maxHeartbeats 16000000
structure DvX where
 k : Nat
 i : Nat
 q : Nat
 inn : List Int
 ps : List Dat
 out : List Msg
def dvI (ps : List Dat) (inn : List Int) (z : DvX) : Prop :=
 DelP z.inn z.ps ∧ z.inn.length = inn.length ∧ z.ps.length + z.k ≤ ps.length ∧ delG (ps.length - z.k) z.inn z.ps z.out = delG ps.length inn ps [] ∧ z.out.length = z.k ∧ 64 ≤ z.q ∧ z.q < 10000 * (z.i + 1)
structure DvY where
 j : Nat
 i : Nat
structure DvZ where
 j : Nat
 i : Nat
 q : Nat
theorem refDeliver_ok {F : SF} {L nx : Nat} (m mo ma : Nm) (ol al : Nat) (hm : m.l < L ∨ (m.l = L ∧ m.i < nx)) (hmo : mo.l ≤ L) (hma : ma.l ≤ L) (num seen : Int) (inn : List Int) (ps : List Dat) (hP : DelP inn ps)
  (hFm : F m = some (.rows 3 1 true true (inn.map eI))) :
  Con Tryz.prog 61 [.agg [.sl mo 0 ol, .sl m 0 inn.length, .fs 8 (ps.map Dat.row), .int .i64 num, .int .i64 seen, .sl ma 0 al]] F L nx nx (.tup [.agg [.sl mo 0 ol, .sl m 0 inn.length, .fs 8 ((delG ps.length inn ps []).2.1.map Dat.row), .int .i64 num, .int .i64 seen, .sl ma 0 al], .fs 4 ((delG ps.length inn ps []).2.2.map Msg.row)]) [(m, .rows 3 1 true true ((delG ps.length inn ps []).1.map eI))] [m] := by
 show Con Tryz.prog 61 _ F L nx (nx + 0) _ _ _
 refine bdyN Tryz.f61 (hrd := (by simp; omega)) ?_
 intro F3 hF1 hF2
 have hFm := (hF1 m (by simp)).trans hFm
 have hml : m.l ≤ L := by omega
 have q7 := nm_out' hml
 have q8 := nm_out hml
 simp only [Tryz.f61, cx, go_sem, meths]
 have hi16 := hP.i2
 refine CallVC.same (refDueN_ok m mo ma ol al (show m.l ≤ L + 1 by omega) (by omega) (by omega) inn num seen ps hP.len hP.ok hP.st hP.nodup (by omega) (by simp [hFm, q8])) ?_
 rw [show (numsC (dueG inn ps)).map (plI ps) = duP inn ps from rfl]
 simp only [go_sem]
 refine loopK.intro _ _ (I := fun z : DvX => ⟨[none, some (.ptr ⟨L + 1, 0⟩ 0 0), some (.ptr ⟨L + 1, 32⟩ 0 0), some (.nilS), some (.sl ⟨L + 1, z.q⟩ 0 z.out.length), some (.fs 1 ((duP z.inn z.ps).map eI)), none, none, none, none, none, none, none, none, none, none, none, none, none, none, none, none, none, none, none, none, none, none, none, none, none, none, none, none, none, none, none, none, none, none, none, none, none, none, none, none, none, none, none, none, none, none, none, none, none, none, none, none, none, none, none, none, none, none, none, none, none, none, none, none, none, none, none, none, none, none, none, none, none, none, none, none, none, none, none, none, none, none, none, none, none],
  [(⟨L + 1, 0⟩, .rows 41 6 true false [[.sl mo 0 ol, .sl m 0 z.inn.length, .fs 8 (z.ps.map Dat.row), .int .i64 num, .int .i64 seen, .sl ma 0 al]]), (⟨L + 1, 32⟩, .rows 41 6 true true [[.nilS, .nilS, .nilS, .int .i64 0, .int .i64 0, .nilS]]), (m, .rows 3 1 true true (z.inn.map eI)), (⟨L + 1, z.q⟩, .rows 23 4 true true (z.out.map Msg.row))], 10000 * (z.i + 1)⟩)
  (pre := dvI ps inn) (μ := fun z => z.ps.length) ⟨0, 0, 192, inn, ps, []⟩ ⟨hP, rfl, by simp, rfl, rfl, by simp, by simp⟩ ?_ ?_
 ·refine Sub.trans (Sub.nilName 4 23 (wd := 4) (by omega) rfl) ?_
  refine Sub.of (hfz hF2) (by simp only [go_sem, subT, and_self]) ?_ (by simp [subK, keys, updH, setH, q7]) (by simp)
  simp [subH, Tx.look, updH, setH, hFm, q8]
 ·rintro ⟨k, i, q, inn1, ps1, out1⟩ ⟨h1, h2, h3, h4, h5, k1, k2⟩
  simp only at h1 h2 h3 h4 h5 k1 k2 ⊢
  have hp80 := h1.len
  have hi1 := h1.i2
  have hpl := hP.len
  have q_0 : (q = 0) = False := by apply eq_false; omega
  have n0_q : (0 = q) = False := by apply eq_false; omega
  have q_32 : (q = 32) = False := by apply eq_false; omega
  have n32_q : (32 = q) = False := by apply eq_false; omega
  have q_n1 : ∀ kk, (10000 * (i + 1) + kk = q) = False := fun kk => by apply eq_false; omega
  have q_n2 : ∀ kk, (q = 10000 * (i + 1) + kk) = False := fun kk => by apply eq_false; omega
  have q_n3 : (10000 * (i + 1) = q) = False := by apply eq_false; omega
  have q_n4 : (q = 10000 * (i + 1)) = False := by apply eq_false; omega
  have q_n5 : ∀ kk, ((⟨L + 1, q⟩ : Nm) == ⟨L + 1, 10000 * (i + 1) + kk⟩) = false := fun kk => by simp; omega
  cases hdu : dueG inn1 ps1 with
  | none =>
   have e0 : duP inn1 ps1 = [] := by unfold duP; rw [hdu]; rfl
   have f1 : decide ((0 : Int) < ((0 : Nat) : Int)) = false := rfl
   rw [delG_none (out := out1) hdu (ps.length - k)] at h4
   rw [← h4, e0]
   simp only [f1, h2, q7, Nat.add_assoc, n0_q, n32_q, go_sem]
   refine .now (PostN.mk (.inr rfl) ⟨[], True, .tup [.agg [.sl mo 0 ol, .sl m 0 inn.length, .fs 8 (ps1.map Dat.row), .int .i64 num, .int .i64 seen, .sl ma 0 al], .sl ⟨L + 1, q⟩ 0 out1.length], .tup [.agg [.sl mo 0 ol, .sl m 0 inn.length, .fs 8 (ps1.map Dat.row), .int .i64 num, .int .i64 seen, .sl ma 0 al], .fs 4 (out1.map Msg.row)], rfl, List.nodup_nil, by simp only [resVal, resVals, resVal1, one, go_sem], trivial, ?_, ?_, ?_, ?_, ⟨by omega, ?_, trivial⟩⟩ ?_)
   ·simp [Wk, WkL, Tx.look, q7, q_0, q_32, List.take_of_length_le]
   ·simp [wkN, wkNL]
   ·simp [nmA, nmAL, Dn]; omega
   ·simp [Tx.rn, Tx.rnL, sg_out hml, sg_out hmo, sg_out hma]
   ·rw [kp_nil]
    exact .pure (by simp [Tx.look, q8])
   ·simp [UpdAll, keys]
  | some r =>
   obtain ⟨m2, n2⟩ := r
   obtain ⟨d, hd, hc, hdq⟩ := due_spec hdu
   have hnl3 := complete_ne hc
   have hnl4 := complete_len hc
   obtain ⟨t1, t2, ⟨tl, t3⟩, t4⟩ := complete_text h1.nodup hd hc
   have hself := getT_self h1.nodup hd
   obtain ⟨kd, hkd, u1, u2, _⟩ := place_of hself
   obtain ⟨P, hPd⟩ : ∃ P, P = duP inn1 ps1 := ⟨_, rfl⟩
   have hPe : P = n2.map (plI ps1) := by rw [hPd]; unfold duP; rw [hdu]; rfl
   have hPl : P.length = n2.length := by rw [hPe]; simp
   rw [← hPd]
   have f1 : decide ((0 : Int) < (P.length : Int)) = true := dT (by omega)
   have rP : (P.map eI).getD 0 [] = [.int .i64 (kd : Int)] := by rw [hPe, t3]; simp [eI, u1]
   have rD : (ps1.map Dat.row).getD kd [] = d.row := by rw [rowD hkd, u2]
   have hst := h1.st d hd
   have hok := Dat.ok_bounds (h1.ok d hd)
   have hwl : (withoutG ps1 fun d => n2.contains d.tsn).length < ps1.length := without_len hd (by simpa using (complete_spec hc).2.2.2)
   obtain ⟨k', hk'⟩ : ∃ k', ps.length - k = k' + 1 := ⟨ps.length - k - 1, by omega⟩
   rw [hk', delG, hdu] at h4
   simp only at h4
   obtain ⟨ps2, hps2⟩ : ∃ ps2, ps2 = withoutG ps1 fun d => n2.contains d.tsn := ⟨_, rfl⟩
   have hP2 : DelP inn1 ps2 := by rw [hps2]; exact h1.without _
   rw [← hps2] at hwl h4
   simp only [f1, rP, rD, Dat.row, Int.toNat_natCast, q7, nS2, Nat.add_assoc, n0_q, q_n1, List.length_map, Nat.add_zero, go_sem]
   repeat refine sd2 ?_
   refine ⟨okDyn_num (fun x => if x = m then 1 else x.i % 10000 + 100) (by simp only [numF, List.map, q7, if_false, Nat.mul_add_mod, Nat.reduceMod, Nat.reduceAdd]; kernel_rfl), ?_⟩
   obtain ⟨i0, hi0⟩ : ∃ x, x = i := ⟨_, rfl⟩
   obtain ⟨a, ha⟩ : ∃ a, a = 10000 * (i + 1) + 608 := ⟨_, rfl⟩
   have hqa : q < a := by omega
   have ha2 : a < 10000 * (i0 + 2) := by omega
   have k2' : q < 10000 * (i0 + 1) := by omega
   simp only [← ha]
   refine loopK.intro _ _ (I := fun z : DvY => ⟨[none, some (.ptr ⟨L + 1, 0⟩ 0 0), some (.ptr ⟨L + 1, 32⟩ 0 0), some (.nilS), some (.sl ⟨L + 1, q⟩ 0 out1.length), some (.fs 1 (P.map eI)), none, some (.ptr ⟨L + 1, a⟩ 0 0), some (.int .i64 z.j), none, none, none, none, none, none, none, none, none, none, none, none, none, none, none, none, none, none, none, none, none, none, none, none, none, none, none, none, none, none, none, none, none, none, none, none, none, none, none, none, none, none, none, none, none, none, none, none, none, none, none, none, none, none, none, none, none, none, none, none, none, none, none, none, none, none, none, none, none, none, none, none, none, none, none, none, none, none, none, none, none, none],
    [(⟨L + 1, 0⟩, .rows 41 6 true false [[.sl mo 0 ol, .sl m 0 inn1.length, .fs 8 (ps1.map Dat.row), .int .i64 num, .int .i64 seen, .sl ma 0 al]]), (⟨L + 1, 32⟩, .rows 41 6 true true [[.nilS, .nilS, .nilS, .int .i64 0, .int .i64 0, .nilS]]), (m, .rows 3 1 true true (inn1.map eI)), (⟨L + 1, q⟩, .rows 23 4 true true (out1.map Msg.row)), (⟨L + 1, a⟩, .rows 23 4 true true [[.int .i64 d.st, .int .i64 d.pr, .bool d.lo, .str (txN ps1 n2 z.j)]])], 10000 * (z.i + 1)⟩)
    (pre := fun z => z.j ≤ n2.length ∧ i0 < z.i) (μ := fun z => n2.length - z.j) ⟨0, i + 1⟩ ⟨by simp, by simp only []; omega⟩ ?_ ?_
   ·have e0 : txN ps1 n2 0 = [] := by simp [txN]
    have a0 : (a = 0) = False := by apply eq_false; omega
    have a1 : (0 = a) = False := by apply eq_false; omega
    have a2 : (a = 32) = False := by apply eq_false; omega
    have a3 : (32 = a) = False := by apply eq_false; omega
    have a4 : (a = q) = False := by apply eq_false; omega
    have a5 : (q = a) = False := by apply eq_false; omega
    have a6 : (a = 10000 * (i + 1) + 320) = False := by apply eq_false; omega
    refine Sub.of (hfz hF2) (by simp only [go_sem, subT, and_self, Int.natCast_zero]) ?_ (by simp [subK, keys, q7, q8]) (by simp only []; omega)
    simp [subH, Tx.look, e0, h2, a0, a2, a4, a6, q7, q8, q_0, q_32]
   ·clear q_0 n0_q q_32 n32_q q_n1 q_n2 q_n3 q_n4 q_n5 k2 ha hi0 i
    rintro ⟨j, i⟩ ⟨g1, g2⟩
    simp only at g1 g2 ⊢
    have q_0 : (q = 0) = False := by apply eq_false; omega
    have n0_q : (0 = q) = False := by apply eq_false; omega
    have q_32 : (q = 32) = False := by apply eq_false; omega
    have n32_q : (32 = q) = False := by apply eq_false; omega
    have q_a : (q = a) = False := by apply eq_false; omega
    have na_q : (a = q) = False := by apply eq_false; omega
    have q_n1 : ∀ kk, (10000 * (i + 1) + kk = q) = False := fun kk => by apply eq_false; omega
    have q_n2 : ∀ kk, (q = 10000 * (i + 1) + kk) = False := fun kk => by apply eq_false; omega
    have q_n3 : (10000 * (i + 1) = q) = False := by apply eq_false; omega
    have q_n4 : (q = 10000 * (i + 1)) = False := by apply eq_false; omega
    have q_n5 : ∀ kk, ((⟨L + 1, q⟩ : Nm) == ⟨L + 1, 10000 * (i + 1) + kk⟩) = false := fun kk => by simp; omega
    have a_0 : (a = 0) = False := by apply eq_false; omega
    have n0_a : (0 = a) = False := by apply eq_false; omega
    have a_32 : (a = 32) = False := by apply eq_false; omega
    have n32_a : (32 = a) = False := by apply eq_false; omega
    have a_n1 : ∀ kk, (10000 * (i + 1) + kk = a) = False := fun kk => by apply eq_false; omega
    have a_n2 : ∀ kk, (a = 10000 * (i + 1) + kk) = False := fun kk => by apply eq_false; omega
    have a_n3 : (10000 * (i + 1) = a) = False := by apply eq_false; omega
    have a_n4 : (a = 10000 * (i + 1)) = False := by apply eq_false; omega
    have a_n5 : ∀ kk, ((⟨L + 1, a⟩ : Nm) == ⟨L + 1, 10000 * (i + 1) + kk⟩) = false := fun kk => by simp; omega
    by_cases hlt : j < n2.length
    ·have f2 : decide ((j : Int) < (P.length : Int)) = true := dT (by omega)
     obtain ⟨y, hy⟩ := t2 n2[j] (List.getElem_mem hlt)
     obtain ⟨kj, hkj, v1, v2, v3⟩ := place_of hy
     have rJ : (P.map eI).getD j [] = [.int .i64 (kj : Int)] := by rw [hPe]; simp [eI, hlt, v1, List.getD_eq_getElem?_getD]
     have rK : (ps1.map Dat.row).getD kj [] = y.row := by rw [rowD hkj, v2]
     have hty := txN_succ (ps := ps1) hlt
     rw [v3] at hty
     have htl := txN_len h1.ok n2 j
     have hyo := Dat.ok_bounds (h1.ok y (by rw [← v2]; exact List.getElem_mem hkj))
     simp only [f2, rJ, rK, Dat.row, Int.toNat_natCast, q7, Nat.add_assoc, n0_q, na_q, a_0, n0_a, a_32, List.length_map, go_sem]
     repeat refine sd2 ?_
     refine ⟨okDyn_num (fun x => if x.i = a then 1 else x.i % 10000 + 100) (by simp only [numF, List.map, n0_a, eq_self, if_true, if_false, Nat.reduceMod, Nat.reduceAdd]; kernel_rfl), ?_⟩
     repeat refine sd2 ?_
     refine ⟨⟨j + 1, i + 1⟩, ⟨by simp only []; omega, by simp only []; omega⟩, by simp only []; omega, ?_⟩
     refine Sub.of (hfz hF2) (by simp only [go_sem, subT, and_self, Int.natCast_succ]) ?_ (by simp [subK, keys, q7, q8]) (by simp only []; omega)
     simp [subH, Tx.look, hty, q7, q8, q_0, q_32, na_q, a_0, a_32]
    ·have f2 : decide ((j : Int) < (P.length : Int)) = false := dF (by omega)
     have e : j = n2.length := by omega
     subst e
     rw [txN_all, ← t1]
     simp only [f2, q7, Nat.add_assoc, n0_q, n32_q, n0_a, n32_a, List.length_map, go_sem]
     repeat refine sd2 ?_
     obtain ⟨i1, hi1⟩ : ∃ x, x = i := ⟨_, rfl⟩
     obtain ⟨h0, hh0⟩ : ∃ h : Dat → Bool, h = fun d => n2.contains d.tsn := ⟨_, rfl⟩
     rw [← hh0] at hps2
     refine loopK.intro _ _ (I := fun z : DvZ => ⟨[none, some (.ptr ⟨L + 1, 0⟩ 0 0), some (.ptr ⟨L + 1, 32⟩ 0 0), some (.nilS), some (.sl ⟨L + 1, q⟩ 0 out1.length), some (.fs 1 (P.map eI)), none, some (.ptr ⟨L + 1, a⟩ 0 0), none, some (.sl ⟨L + 1, z.q⟩ 0 (kept h0 ps1 z.j).length), some (.int .i64 z.j), none, none, none, none, none, none, none, none, none, none, none, none, none, none, none, none, none, none, none, none, none, none, none, none, none, none, none, none, none, none, none, none, none, none, none, none, none, none, none, none, none, none, none, none, none, none, none, none, none, none, none, none, none, none, none, none, none, none, none, none, none, none, none, none, none, none, none, none, none, none, none, none, none, none, none, none, none, none, none, none],
      [(⟨L + 1, 0⟩, .rows 41 6 true false [[.sl mo 0 ol, .sl m 0 inn1.length, .fs 8 (ps1.map Dat.row), .int .i64 num, .int .i64 seen, .sl ma 0 al]]), (⟨L + 1, 32⟩, .rows 41 6 true true [[.nilS, .nilS, .nilS, .int .i64 0, .int .i64 0, .nilS]]), (m, .rows 3 1 true true (inn1.map eI)), (⟨L + 1, q⟩, .rows 23 4 true true (out1.map Msg.row)), (⟨L + 1, a⟩, .rows 23 4 true true [[.int .i64 d.st, .int .i64 d.pr, .bool d.lo, .str m2.tx]]), (⟨L + 1, z.q⟩, .rows 32 8 true true ((kept h0 ps1 z.j).map Dat.row))], 10000 * (z.i + 1)⟩)
      (pre := fun z => z.j ≤ ps1.length ∧ i1 < z.i ∧ z.q < 10000 * (z.i + 1) ∧ q < z.q ∧ a < z.q) (μ := fun z => ps1.length - z.j) ⟨0, i + 1, 10000 * (i + 1) + 192⟩ ⟨by simp, by simp only []; omega, by simp only []; omega, by simp only []; omega, by simp only []; omega⟩ ?_ ?_
     ·have e0 : kept h0 ps1 0 = [] := rfl
      refine Sub.trans (Sub.nilName 9 32 (wd := 8) (by omega) rfl) ?_
      refine Sub.of (hfz hF2) (by simp only [e0, List.length_nil, go_sem, subT, and_self, Int.natCast_zero]) ?_ (by simp [subK, keys, updH, setH, q7, q8, nB, q_0, n0_q, q_32, n32_q, q_a, na_q, q_n1, q_n2, a_0, n0_a, a_32, n32_a, a_n1, a_n2]) (by simp only []; omega)
      simp [subH, Tx.look, updH, setH, e0, q7, q8, nB, q_0, q_32, na_q, q_n1, a_0, a_32, a_n1]
     ·have g2' : i0 < i1 := by omega
      clear q_0 n0_q q_32 n32_q q_a na_q q_n1 q_n2 q_n3 q_n4 q_n5 a_0 n0_a a_32 n32_a a_n1 a_n2 a_n3 a_n4 a_n5 g2 hi1 i
      rintro ⟨j, i, q2⟩ ⟨g1, g2, g3, g4, g5⟩
      simp only at g1 g2 g3 g4 g5 ⊢
      have q2_0 : (q2 = 0) = False := by apply eq_false; omega
      have n0_q2 : (0 = q2) = False := by apply eq_false; omega
      have q2_32 : (q2 = 32) = False := by apply eq_false; omega
      have n32_q2 : (32 = q2) = False := by apply eq_false; omega
      have q2_a : (q2 = a) = False := by apply eq_false; omega
      have na_q2 : (a = q2) = False := by apply eq_false; omega
      have q2_q : (q2 = q) = False := by apply eq_false; omega
      have nq_q2 : (q = q2) = False := by apply eq_false; omega
      have q2_n1 : ∀ kk, (10000 * (i + 1) + kk = q2) = False := fun kk => by apply eq_false; omega
      have q2_n2 : ∀ kk, (q2 = 10000 * (i + 1) + kk) = False := fun kk => by apply eq_false; omega
      have q2_n3 : (10000 * (i + 1) = q2) = False := by apply eq_false; omega
      have q2_n4 : (q2 = 10000 * (i + 1)) = False := by apply eq_false; omega
      have q2_n5 : ∀ kk, ((⟨L + 1, q2⟩ : Nm) == ⟨L + 1, 10000 * (i + 1) + kk⟩) = false := fun kk => by simp; omega
      have q_0 : (q = 0) = False := by apply eq_false; omega
      have n0_q : (0 = q) = False := by apply eq_false; omega
      have q_32 : (q = 32) = False := by apply eq_false; omega
      have n32_q : (32 = q) = False := by apply eq_false; omega
      have q_a : (q = a) = False := by apply eq_false; omega
      have na_q : (a = q) = False := by apply eq_false; omega
      have q_n1 : ∀ kk, (10000 * (i + 1) + kk = q) = False := fun kk => by apply eq_false; omega
      have q_n2 : ∀ kk, (q = 10000 * (i + 1) + kk) = False := fun kk => by apply eq_false; omega
      have q_n3 : (10000 * (i + 1) = q) = False := by apply eq_false; omega
      have q_n4 : (q = 10000 * (i + 1)) = False := by apply eq_false; omega
      have q_n5 : ∀ kk, ((⟨L + 1, q⟩ : Nm) == ⟨L + 1, 10000 * (i + 1) + kk⟩) = false := fun kk => by simp; omega
      have a_0 : (a = 0) = False := by apply eq_false; omega
      have n0_a : (0 = a) = False := by apply eq_false; omega
      have a_32 : (a = 32) = False := by apply eq_false; omega
      have n32_a : (32 = a) = False := by apply eq_false; omega
      have a_n1 : ∀ kk, (10000 * (i + 1) + kk = a) = False := fun kk => by apply eq_false; omega
      have a_n2 : ∀ kk, (a = 10000 * (i + 1) + kk) = False := fun kk => by apply eq_false; omega
      have a_n3 : (10000 * (i + 1) = a) = False := by apply eq_false; omega
      have a_n4 : (a = 10000 * (i + 1)) = False := by apply eq_false; omega
      have a_n5 : ∀ kk, ((⟨L + 1, a⟩ : Nm) == ⟨L + 1, 10000 * (i + 1) + kk⟩) = false := fun kk => by simp; omega
      have hkl := kept_len h0 ps1 j
      by_cases hlt : j < ps1.length
      ·have f3 : decide ((j : Int) < (ps1.length : Int)) = true := dT (by omega)
       have r0 := rowD hlt
       have hks := kept_succ (h := h0) hlt
       have hpa := places_any h1.nodup t2 hlt
       rw [← hPe] at hpa
       have hh : h0 ps1[j] = n2.contains ps1[j].tsn := by rw [hh0]
       obtain ⟨y, hy⟩ : ∃ y, y = ps1[j] := ⟨_, rfl⟩
       rw [← hy] at r0 hks hpa hh
       rw [← hh] at hpa
       have hhas := fun F L nx => has_ok (F := F) (L := L) (nx := nx) P (j : Int) (by omega)
       rw [show (P.any (hasP (j : Int))) = P.any (fun y => y == (j : Int)) from rfl, hpa] at hhas
       obtain ⟨K, hK⟩ : ∃ K, K = kept h0 ps1 j := ⟨_, rfl⟩
       rw [← hK] at hks hkl ⊢
       simp only [f3, q7, Nat.add_assoc, n0_q2, n0_q, n0_a, List.length_map, go_sem]
       repeat refine sd2 ?_
       refine CallVC.same (hhas _ _ _) ?_
       cases hb : h0 y with
       | true =>
        rw [hb] at hks
        have e1 : kept h0 ps1 (j + 1) = K := by rw [hks]; simp
        simp only [Nat.add_assoc, go_sem]
        repeat refine sd2 ?_
        refine ⟨⟨j + 1, i + 1, q2⟩, ⟨by simp only []; omega, by simp only []; omega, by simp only []; omega, by simp only []; omega, by simp only []; omega⟩, by simp only []; omega, ?_⟩
        refine Sub.of (hfz hF2) (by simp only [e1, go_sem, subT, and_self, Int.natCast_succ]) ?_ (by simp [subK, keys, q7, q8]) (by simp only []; omega)
        simp only [e1]
        simp [subH, Tx.look, q7, q8, q2_0, q2_32, q2_a, q2_q, q_0, q_32, na_q, a_0, a_32]
       | false =>
        rw [hb] at hks
        have e1 : (kept h0 ps1 (j + 1)).map Dat.row = K.map Dat.row ++ [[.int .i64 y.tsn, .int .i64 y.st, .int .i64 y.sq, .int .i64 y.pr, .bool y.fi, .bool y.la, .bool y.lo, .str y.pl]] := by rw [hks]; simp [Dat.row]
        have e2 : (kept h0 ps1 (j + 1)).length = K.length + 1 := by rw [hks]; simp
        simp only [r0, Dat.row, Int.toNat_natCast, q7, nS2, Nat.add_assoc, q2_0, n0_q2, q2_32, q2_a, q2_q, q2_n1, q2_n2, q2_n5, n0_q, q_n1, n0_a, a_n1, List.length_map, go_sem]
        repeat refine sd2 ?_
        refine ⟨⟨j + 1, i + 1, 10000 * (i + 1) + 480⟩, ⟨by simp only []; omega, by simp only []; omega, by simp only []; omega, by simp only []; omega, by simp only []; omega⟩, by simp only []; omega, ?_⟩
        refine Sub.of (hfz hF2) (by simp only [e2, go_sem, subT, and_self, Int.natCast_succ]) ?_ (by simp [subK, keys, q7, q8]) (by simp only []; omega)
        simp only [e1]
        simp [subH, Tx.look, q7, q8, nB, q2_n1, q_0, q_32, na_q, q_n1, a_0, a_32, a_n1]
      ·have f3 : decide ((j : Int) < (ps1.length : Int)) = false := dF (by omega)
       have e : j = ps1.length := by omega
       subst e
       have eK : kept h0 ps1 ps1.length = ps2 := by rw [kept_all, hps2]
       rw [eK]
       obtain ⟨c1, c2, c3, c4⟩ := complete_spec hc
       have hmr : m2.row = [.int .i64 d.st, .int .i64 d.pr, .bool d.lo, .str m2.tx] := by rw [Msg.row, c1, c2, c3]
       have hml1 : m2.lo = d.lo := c3
       cases hlo : d.lo with
       | true =>
        rw [hml1, hlo] at h4
        simp only [if_true] at h4
        rw [hlo] at hmr
        simp only [f3, q7, nS2, Nat.add_assoc, n0_q2, n32_q2, na_q2, nq_q2, q2_n1, q_0, n0_q, q_32, n32_q, q_a, na_q, q_n1, q_n2, q_n5, a_0, n0_a, a_32, n32_a, a_n1, List.length_map, go_sem]
        repeat refine sd2 ?_
        refine CallVC.gen (args2 := [.agg [.sl mo 0 ol, .sl m 0 inn1.length, .fs 8 (ps2.map Dat.row), .int .i64 num, .int .i64 seen, .sl ma 0 al]]) (by simp [WkL, Wk, List.take_of_length_le, q7, q2_0, q2_32, q2_a, q2_q]) (refDueN_ok m mo ma ol al (show m.l ≤ L + 1 by omega) (by omega) (by omega) inn1 num seen ps2 hP2.len hP2.ok hP2.st hP2.nodup (by omega) (by simp [wkNL, wkN, unown, SF.upd, SF.set, q7, q8, q2_0, q2_32, q2_a, q2_q])) ?_
        rw [show (numsC (dueG inn1 ps2)).map (plI ps2) = duP inn1 ps2 from rfl]
        simp only [wkNL, wkN, unown, q7, Nat.add_assoc, q2_0, q2_32, q2_a, q2_q, q2_n2, go_sem]
        repeat refine sd2 ?_
        refine ⟨⟨k + 1, i + 1, 10000 * (i + 1) + 448, inn1, ps2, out1 ++ [m2]⟩, ⟨hP2, h2, by simp only []; omega, by rw [← h4]; show delG (ps.length - (k + 1)) _ _ _ = _; rw [show ps.length - (k + 1) = k' by omega], by simp; omega, by simp only []; omega, by simp only []; omega⟩, hwl, ?_⟩
        refine Sub.trans (Sub.freeze (n := ⟨L + 1, 0⟩) (e := 41) (wd := 6) (o := true) (rs := [[.sl mo 0 ol, .sl m 0 inn1.length, .sl ⟨L + 1, q2⟩ 0 ps2.length, .int .i64 num, .int .i64 seen, .sl ma 0 al]]) [[.sl mo 0 ol, .sl m 0 inn1.length, .fs 8 (ps2.map Dat.row), .int .i64 num, .int .i64 seen, .sl ma 0 al]] (by simp [Tx.look]) (by simp [WkLL, WkL, Wk, Tx.look, List.take_of_length_le, q7, q2_0, q2_32, q2_a, q2_q]) (by simp [wkNLL, wkNL, wkN, n0_q2])) ?_
        refine Sub.of (hfz hF2) (by simp only [List.length_append, go_sem, subT, and_self]) ?_ (by simp [subK, keys, updH, setH, unown, wkNLL, wkNL, wkN, Tx.look, q7, q8, nB, q2_0, q2_32, q2_a, q2_q, q2_n2, q_0, q_32, q_n2, a_0, a_32, a_n2]) (by simp only []; omega)
        simp [subH, Tx.look, updH, setH, unown, wkNLL, wkNL, wkN, hmr, q7, q8, nB, q2_0, q2_32, q2_a, q2_q, q2_n1, q_n1, a_n1]
       | false =>
        rw [hml1, hlo] at h4
        simp only [if_false, Bool.false_eq_true] at h4
        rw [hlo] at hmr
        have hsq := serB16_at h1.i3 (k := d.st.toNat) (by omega)
        have r1 := getD_eI inn1 (i := d.st.toNat) (by omega)
        simp only [f3, r1, eI, hFm, q7, q8, Nat.add_assoc, n0_q2, n32_q2, na_q2, n0_q, n32_q, na_q, a_0, n0_a, a_32, n32_a, List.length_map, Nat.add_zero, go_sem]
        repeat refine sd2 ?_
        refine CallVC.gen (args2 := [.agg [.sl mo 0 ol, .sl m 0 inn1.length, .fs 8 (ps2.map Dat.row), .int .i64 num, .int .i64 seen, .sl ma 0 al], .int .i64 d.st, .int .i64 (inn1.getD d.st.toNat 0)]) (by simp [WkL, Wk, List.take_of_length_le, q7, q2_0, q2_32, q2_a, q2_q]) (refNext_ok m mo ma ol al (.inl (show m.l < L + 1 by omega)) (by omega) (by omega) num seen d.st (inn1.getD d.st.toNat 0) inn1 h1.i3 hok.2.2.1 hst hsq.1 hsq.2 (by omega) ps2 (by have := hP2.len; omega) hP2.ok (by simp [wkNL, wkN, unown, SF.upd, SF.set, q7, q8, q2_0, q2_32, q2_a, q2_q])) ?_
        rw [c1] at h4
        have hP3 := hP2.next d.st (inn1.getD d.st.toNat 0)
        have hwl3 : (nextP inn1 ps2 d.st (inn1.getD d.st.toNat 0)).length ≤ ps2.length := List.length_filter_le _ _
        obtain ⟨inn3, hin3⟩ : ∃ x, x = nextI inn1 d.st (inn1.getD d.st.toNat 0) := ⟨_, rfl⟩
        obtain ⟨ps3, hps3⟩ : ∃ x, x = nextP inn1 ps2 d.st (inn1.getD d.st.toNat 0) := ⟨_, rfl⟩
        have hl3 : inn3.length = inn1.length := by rw [hin3]; exact nextI_len _ _ _
        rw [← hin3, ← hps3] at hP3 h4
        rw [← hps3] at hwl3
        rw [← hin3, ← hps3]
        simp only [wkNL, wkN, unown, q7, q8, nS2, Nat.add_assoc, q2_0, n0_q2, q2_32, q2_a, na_q2, q2_q, nq_q2, q2_n1, q_0, n0_q, q_32, q_a, na_q, q_n1, q_n2, q_n5, a_0, n0_a, a_32, a_n1, List.length_map, go_sem]
        refine ⟨okDyn_num (fun x => if x = m then 1 else if x.i = a then 2 else if x.i = q2 then 3 else x.i % 10000 + 100) (by simp only [numF, List.map, q7, Nat.reduceAdd, n0_q2, q2_a, na_q2, n0_a, eq_self, if_true, if_false, Nat.reduceMod, Nat.reduceAdd]; kernel_rfl), ?_⟩
        repeat refine sd2 ?_
        have hdn := fun F L nx h1 h2 h3 h4 => refDueN_ok (F := F) (L := L) (nx := nx) m mo ma ol al h1 h2 h3 inn3 num seen ps3 hP3.len hP3.ok hP3.st hP3.nodup (by omega) h4
        rw [hl3] at hdn
        refine CallVC.same (hdn _ _ _ (show m.l ≤ L + 1 by omega) (by omega) (by omega) (by simp [q8])) ?_
        rw [show (numsC (dueG inn3 ps3)).map (plI ps3) = duP inn3 ps3 from rfl]
        simp only [Nat.add_assoc, go_sem]
        repeat refine sd2 ?_
        refine ⟨⟨k + 1, i + 1, 10000 * (i + 1) + 768, inn3, ps3, out1 ++ [m2]⟩, ⟨hP3, hl3.trans h2, by simp only []; omega, by rw [← h4]; show delG (ps.length - (k + 1)) _ _ _ = _; rw [show ps.length - (k + 1) = k' by omega], by simp; omega, by simp only []; omega, by simp only []; omega⟩, by simp only []; omega, ?_⟩
        refine Sub.of (hfz hF2) (by simp only [List.length_append, go_sem, subT, and_self]) ?_ (by simp [subK, keys, q7, q8, nB, q2_0, q2_32, q2_n2, q_0, q_32, q_n2, a_0, a_32, a_n2]) (by simp only []; omega)
        simp [subH, Tx.look, hl3, hmr, q7, q8, nB, q2_n1, q_n1, a_n1]
theorem tsn_any {ps : List Dat} {t : Int} : ps.any (tsnB t) = ps.any (fun y => y.tsn == t) := rfl
theorem refTakeG_ok {F : SF} {L nx : Nat} (out inn asked : List Int) (num seen : Int) (hS : Str0 out inn num seen asked) (ps : List Dat) (hP : PsOk inn ps) (hD : dueG inn ps = none) (d : Dat) (hd : d.ok = true) (hst : d.st < inn.length) (hl : ps.length < 80) :
  Con Tryz.prog 23 [strV out inn num seen asked ps, .agg d.row] F L nx nx (.tup [strV out (takeG inn ps d).1 num seen asked (takeG inn ps d).2.1, .fs 4 ((takeG inn ps d).2.2.map Msg.row), .int .i64 0]) [] [] := by
 have ho2 := hS.o2
 have hi2 := hS.i2
 have ha2 := hS.a2
 have hok := Dat.ok_bounds hd
 have hri := fun F L nx => right_ok (F := F) (L := L) (nx := nx) out inn asked num seen ps (by omega) (by omega) (by omega) (by omega)
 rw [chkB_of hS hP hD] at hri
 have hrd := fun F L nx => rightData_ok (F := F) (L := L) (nx := nx) d
 rw [hd] at hrd
 have hat := fun F L nx => rAt_ok (F := F) (L := L) (nx := nx) ps d.tsn (by omega)
 have hco := fun F L nx => copied_ok (F := F) (L := L) (nx := nx) out inn asked num seen ps (by omega) (by omega) (by omega) (by omega)
 have hany := idxI_any (tsnB d.tsn) ps
 have r1 := getD_eI inn (i := d.st.toNat) (by omega)
 have hin := serB16_at hS.i3 (k := d.st.toNat) (by omega)
 have hle := fun F L nx => rLead16_ok (F := F) (L := L) (nx := nx) d.sq (inn.getD d.st.toNat 0) (by omega) (by omega) (by omega) (by omega)
 have f1 : decide ((inn.length : Int) ≤ d.st) = false := dF (by omega)
 have f2 : decide ((80 : Int) ≤ (ps.length : Int)) = false := dF (by omega)
 simp only [strV, Dat.row] at hri hrd hat hco hle
 refine bdy Tryz.f23 ?_
 intro F3 hF1 hF2
 simp only [Tryz.f23, cx, strV, Dat.row, go_sem, meths]
 refine CallVC.same (hri _ _ _) ?_
 simp only [go_sem]
 repeat refine sd2 ?_
 refine CallVC.same (hrd _ _ _) ?_
 simp only [f1, List.length_map, Nat.add_zero, go_sem]
 repeat refine sd2 ?_
 refine CallVC.same (hat _ _ _) ?_
 cases hda : ps.any (tsnB d.tsn) with
 | true =>
  rw [hda] at hany
  have e : takeG inn ps d = (inn, ps, []) := by unfold takeG; rw [← tsn_any, hda]; rfl
  rw [e]
  simp only [hany, go_sem]
  repeat refine sd2 ?_
  refine ⟨okDyn_num (fun x => x.i) (by kernel_rfl), ?_⟩
  repeat refine sd2 ?_
  exact PostF.rs (v0 := .tup [.agg [.fs 1 (out.map eI), .fs 1 (inn.map eI), .fs 8 (ps.map Dat.row), .int .i64 num, .int .i64 seen, .fs 1 (asked.map eI)], .nilS, .int .i64 0]) (.inr rfl)
 | false =>
 rw [hda] at hany
 cases hlo : d.lo with
 | true =>
  have hpn : PsOk inn (ps ++ [d]) := psOk_add hP hl (by unfold partOk; rw [hd]; simp only [Bool.true_and, Bool.and_eq_true, decide_eq_true_eq, Bool.or_eq_true]; exact ⟨hst, .inl hlo⟩) hda
  have e : takeG inn ps d = delG (ps ++ [d]).length inn (ps ++ [d]) [] := by
   unfold takeG
   rw [← tsn_any, hda, hlo]; simp
  obtain ⟨ps3, hps3⟩ : ∃ x, x = ps ++ [d] := ⟨_, rfl⟩
  have hdl := fun F L nx m mo ma ol al hm hmo hma hFm => refDeliver_ok (F := F) (L := L) (nx := nx) m mo ma ol al hm hmo hma num seen inn ps3 (by rw [hps3]; exact hpn.delP hS.i3 hS.i2) hFm
  have hme : ps.map Dat.row ++ [[.int .i64 d.tsn, .int .i64 d.st, .int .i64 d.sq, .int .i64 d.pr, .bool d.fi, .bool d.la, .bool d.lo, .str d.pl]] = ps3.map Dat.row := by rw [hps3]; simp [Dat.row]
  have hpl : ps.length + 1 = ps3.length := by rw [hps3]; simp
  rw [← hps3] at e
  rw [e]
  obtain ⟨z, hz⟩ : ∃ z, z = delG ps3.length inn ps3 [] := ⟨_, rfl⟩
  have hzl : z.1.length = inn.length := by rw [hz]; exact delG_len _ _ _ _
  rw [← hz] at hdl ⊢
  simp only [hlo] at hme
  simp only [f2, hany, List.length_map, go_sem]
  repeat refine sd2 ?_
  refine ⟨okDyn_num (fun x => x.i) (by kernel_rfl), ?_⟩
  repeat refine sd2 ?_
  refine CallVC.same (hco _ _ _) ?_
  simp only [hme, hpl, nm_beq, List.length_map, go_sem]
  repeat refine sd2 ?_
  refine CallVC.gen (args2 := [.agg [.sl ⟨L + 1, 1184⟩ 0 out.length, .sl ⟨L + 1, 1185⟩ 0 inn.length, .fs 8 (ps3.map Dat.row), .int .i64 num, .int .i64 seen, .sl ⟨L + 1, 1187⟩ 0 asked.length]]) (by simp [Wk, WkL, List.take_of_length_le]) (hdl _ _ _ ⟨L + 1, 1185⟩ ⟨L + 1, 1184⟩ ⟨L + 1, 1187⟩ out.length asked.length (.inr ⟨rfl, by simp⟩) (Nat.le_refl _) (Nat.le_refl _) (by simp [wkNL, wkN, unown, SF.upd, SF.set])) ?_
  simp only [wkNL, wkN, unown, go_sem]
  repeat refine sd2 ?_
  exact PostF.rs (v0 := .tup [.agg [.sl ⟨L + 1, 1184⟩ 0 out.length, .sl ⟨L + 1, 1185⟩ 0 inn.length, .fs 8 (z.2.1.map Dat.row), .int .i64 num, .int .i64 seen, .sl ⟨L + 1, 1187⟩ 0 asked.length], .fs 4 (z.2.2.map Msg.row), .int .i64 0] ) (.inr rfl) (hw := by simp [Wk, WkL, Tx.look, List.take_of_length_le, hzl])
 | false =>
  by_cases hld : lead d.sq (inn.getD d.st.toNat 0) 16 < 0
  ·have g4 : decide (lead d.sq (inn.getD d.st.toNat 0) 16 < 0) = true := dT hld
   have e : takeG inn ps d = (inn, ps, []) := by unfold takeG; rw [← tsn_any, hda, hlo, g4]; rfl
   rw [e]
   simp only [hany, r1, eI, List.length_map, go_sem]
   repeat refine sd2 ?_
   refine CallVC.same (hle _ _ _) ?_
   simp only [g4, go_sem]
   repeat refine sd2 ?_
   refine ⟨okDyn_num (fun x => x.i) (by kernel_rfl), ?_⟩
   repeat refine sd2 ?_
   exact PostF.rs (v0 := .tup [.agg [.fs 1 (out.map eI), .fs 1 (inn.map eI), .fs 8 (ps.map Dat.row), .int .i64 num, .int .i64 seen, .fs 1 (asked.map eI)], .nilS, .int .i64 0]) (.inr rfl)
  ·have g4 : decide (lead d.sq (inn.getD d.st.toNat 0) 16 < 0) = false := dF hld
   simp only [hany, r1, eI, List.length_map, go_sem]
   repeat refine sd2 ?_
   refine CallVC.same (hle _ _ _) ?_
   have hpn : PsOk inn (ps ++ [d]) := psOk_add hP hl (by unfold partOk; rw [hd]; simp only [Bool.true_and, Bool.and_eq_true, decide_eq_true_eq, Bool.or_eq_true]; exact ⟨hst, .inr (by omega)⟩) hda
   have e : takeG inn ps d = delG (ps ++ [d]).length inn (ps ++ [d]) [] := by
    unfold takeG
    rw [← tsn_any, hda, hlo, g4]; simp
   obtain ⟨ps3, hps3⟩ : ∃ x, x = ps ++ [d] := ⟨_, rfl⟩
   have hdl := fun F L nx m mo ma ol al hm hmo hma hFm => refDeliver_ok (F := F) (L := L) (nx := nx) m mo ma ol al hm hmo hma num seen inn ps3 (by rw [hps3]; exact hpn.delP hS.i3 hS.i2) hFm
   have hme : ps.map Dat.row ++ [[.int .i64 d.tsn, .int .i64 d.st, .int .i64 d.sq, .int .i64 d.pr, .bool d.fi, .bool d.la, .bool d.lo, .str d.pl]] = ps3.map Dat.row := by rw [hps3]; simp [Dat.row]
   have hpl : ps.length + 1 = ps3.length := by rw [hps3]; simp
   rw [← hps3] at e
   rw [e]
   obtain ⟨z, hz⟩ : ∃ z, z = delG ps3.length inn ps3 [] := ⟨_, rfl⟩
   have hzl : z.1.length = inn.length := by rw [hz]; exact delG_len _ _ _ _
   rw [← hz] at hdl ⊢
   simp only [hlo] at hme
   simp only [g4, f2, List.length_map, go_sem]
   repeat refine sd2 ?_
   refine ⟨okDyn_num (fun x => x.i) (by kernel_rfl), ?_⟩
   repeat refine sd2 ?_
   refine CallVC.same (hco _ _ _) ?_
   simp only [hme, hpl, nm_beq, List.length_map, go_sem]
   repeat refine sd2 ?_
   refine CallVC.gen (args2 := [.agg [.sl ⟨L + 1, 1472⟩ 0 out.length, .sl ⟨L + 1, 1473⟩ 0 inn.length, .fs 8 (ps3.map Dat.row), .int .i64 num, .int .i64 seen, .sl ⟨L + 1, 1475⟩ 0 asked.length]]) (by simp [Wk, WkL, List.take_of_length_le]) (hdl _ _ _ ⟨L + 1, 1473⟩ ⟨L + 1, 1472⟩ ⟨L + 1, 1475⟩ out.length asked.length (.inr ⟨rfl, by simp⟩) (Nat.le_refl _) (Nat.le_refl _) (by simp [wkNL, wkN, unown, SF.upd, SF.set])) ?_
   simp only [wkNL, wkN, unown, go_sem]
   repeat refine sd2 ?_
   exact PostF.rs (v0 := .tup [.agg [.sl ⟨L + 1, 1472⟩ 0 out.length, .sl ⟨L + 1, 1473⟩ 0 inn.length, .fs 8 (z.2.1.map Dat.row), .int .i64 num, .int .i64 seen, .sl ⟨L + 1, 1475⟩ 0 asked.length], .fs 4 (z.2.2.map Msg.row), .int .i64 0] ) (.inr rfl) (hw := by simp [Wk, WkL, Tx.look, List.take_of_length_le, hzl])
end Go.Proofs.YtfhhbkehlfipgaaGreat
end
section
namespace Go.Proofs.YtfhhbkehlfipgaaGreat
open Go.Tx
set_option maxRecDepth 100000
set_option maxHeartbeats 16000000
end Go.Proofs.YtfhhbkehlfipgaaGreat
end
section
namespace Go.Proofs.YtfhhbkehlfipgaaGreat
open Go.Tx
set_option maxRecDepth 100000
set_option maxHeartbeats 16000000
end Go.Proofs.YtfhhbkehlfipgaaGreat
end
section
namespace Go.Proofs.YtfhhbkehlfipgaaGreat
open Go.Tx
set_option maxRecDepth 100000
set_option maxHeartbeats 16000000
def oU (k : Nat) : List PV := [.int .u8 k]
end Go.Proofs.YtfhhbkehlfipgaaGreat
end
section
namespace Go.Proofs.YtfhhbkehlfipgaaGreat
open Go.Tx
set_option maxRecDepth 100000
set_option maxHeartbeats 1000000
structure Plan where
 n : Nat
 M : Nat → Msg
 c : Nat → Nat
 t : Nat → Nat → Int
 sq : Nat → Nat
structure Plan.Ok (p : Plan) : Prop where
 c1 : ∀ j, j < p.n → 1 ≤ p.c j
 tn : ∀ j i, j < p.n → i + 1 < p.c j → (p.t j i + 1) % 4294967296 = p.t j (i + 1)
 ti : ∀ j i j' i', j < p.n → i < p.c j → j' < p.n → i' < p.c j' → p.t j i = p.t j' i' → j = j' ∧ i = i'
 sqi : ∀ j j', j < p.n → j' < p.n → (p.M j).lo = false → (p.M j').lo = false → (p.M j).st = (p.M j').st → p.sq j = p.sq j' → j = j'
 sqd : ∀ j, j < p.n → (p.M j).lo = false → ∀ q, q < p.sq j → ∃ j', j' < p.n ∧ (p.M j').lo = false ∧ (p.M j').st = (p.M j).st ∧ p.sq j' = q
 sqb : ∀ j, j < p.n → p.sq j < 1000
 tx : ∀ j, j < p.n → (List.range (p.c j)).flatMap (pieceS (p.M j).tx) = (p.M j).tx
def Plan.pc (p : Plan) (j i : Nat) : Dat := ⟨p.t j i, (p.M j).st, p.sq j, (p.M j).pr, i == 0, i + 1 == p.c j, (p.M j).lo, pieceS (p.M j).tx i⟩
def Plan.tsns (p : Plan) (j : Nat) : List Int := (List.range (p.c j)).map (p.t j)
structure Plan.Sub (p : Plan) (ps : List Dat) : Prop where
 mem : ∀ d ∈ ps, ∃ j i, j < p.n ∧ i < p.c j ∧ d = p.pc j i
 nd : (ps.map Dat.tsn).Nodup
def Plan.all (p : Plan) (ps : List Dat) (j : Nat) : Prop := ∀ i, i < p.c j → p.pc j i ∈ ps
section
variable {p : Plan} (hp : p.Ok)
include hp
theorem Plan.pc_inj {j i j' i' : Nat} (h1 : j < p.n) (h2 : i < p.c j) (h3 : j' < p.n) (h4 : i' < p.c j') (h : p.pc j i = p.pc j' i') : j = j' ∧ i = i' := hp.ti j i j' i' h1 h2 h3 h4 (congrArg Dat.tsn h)
theorem Plan.getT_pc {ps : List Dat} (hs : p.Sub ps) {j i : Nat} (h1 : j < p.n) (h2 : i < p.c j) : (getT ps (p.t j i) = some (p.pc j i) ∧ p.pc j i ∈ ps) ∨ (getT ps (p.t j i) = none ∧ p.pc j i ∉ ps) := by
 cases hg : getT ps (p.t j i) with
 | none =>
  right
  refine ⟨rfl, fun hm => ?_⟩
  unfold getT at hg
  rw [List.find?_eq_none] at hg
  exact hg _ hm (by simp [Plan.pc])
 | some d =>
  left
  obtain ⟨hm, ht⟩ := getT_mem hg
  obtain ⟨j', i', h3, h4, rfl⟩ := hs.mem d hm
  obtain ⟨rfl, rfl⟩ := hp.ti _ _ _ _ h3 h4 h1 h2 ht
  exact ⟨rfl, hm⟩
theorem Plan.len_ge {ps : List Dat} {j i : Nat} (h1 : j < p.n) (h2 : i < p.c j) (hm : ∀ i', i' ≤ i → p.pc j i' ∈ ps) : i + 1 ≤ ps.length := by
 have hnd : ((List.range (i + 1)).map (p.t j)).Nodup := by
  rw [List.nodup_iff_pairwise_ne, List.pairwise_map]
  refine List.Pairwise.imp_of_mem ?_ (List.nodup_iff_pairwise_ne.1 List.nodup_range)
  intro a b ha hb hab he
  have ha := List.mem_range.1 ha
  have hb := List.mem_range.1 hb
  exact hab (hp.ti j a j b h1 (by omega) h1 (by omega) he).2
 have := nodup_sub (m := ps.map Dat.tsn) hnd (fun x hx => by
  obtain ⟨a, ha, rfl⟩ := List.mem_map.1 hx
  have ha := List.mem_range.1 ha
  exact List.mem_map.2 ⟨p.pc j a, hm a (by omega), rfl⟩)
 simpa using this
theorem Plan.compG_pc {ps : List Dat} (hs : p.Sub ps) {j : Nat} (h1 : j < p.n) : ∀ (k i : Nat) (tx : List UInt8) (ns : List Int), i < p.c j → (∀ i', i' ≤ i → p.pc j i' ∈ ps) → ns = (List.range i).map (p.t j) → tx = (List.range i).flatMap (pieceS (p.M j).tx) → ps.length + 1 ≤ k + i →
  (p.all ps j ∧ compG ps (p.pc j 0) k (p.pc j i) tx ns = some ((p.M j).tx, p.tsns j)) ∨ (¬ p.all ps j ∧ compG ps (p.pc j 0) k (p.pc j i) tx ns = none)
 | 0, i, tx, ns, h2, hm, _, _, hk => by
  have := p.len_ge hp h1 h2 hm
  omega
 | k + 1, i, tx, ns, h2, hm, hns, htx, hk => by
  have e1 : ns.contains (p.t j i) = false := by
   rw [hns, List.contains_eq_any_beq, List.any_eq_false]
   intro x hx
   obtain ⟨a, ha, rfl⟩ := List.mem_map.1 hx
   have ha := List.mem_range.1 ha
   simp only [beq_iff_eq]
   intro he
   have := (hp.ti j i j a h1 h2 h1 (by omega) he).2
   omega
  have e2 : ((i == 0) && !ns.isEmpty) = false := by
   cases i with
   | zero => rw [hns]; rfl
   | succ i => rfl
  have hc : ((p.pc j i).st != (p.pc j 0).st || (p.pc j i).sq != (p.pc j 0).sq || (p.pc j i).lo != (p.pc j 0).lo || ((p.pc j i).fi && !ns.isEmpty) || ns.contains (p.pc j i).tsn) = false := by
   have : ((p.pc j i).fi && !ns.isEmpty) = false := e2
   rw [this, show ns.contains (p.pc j i).tsn = false from e1]
   simp [Plan.pc]
  have hstep : ns ++ [p.t j i] = (List.range (i + 1)).map (p.t j) := by rw [List.range_succ, List.map_append, hns]; rfl
  have hstx : tx ++ pieceS (p.M j).tx i = (List.range (i + 1)).flatMap (pieceS (p.M j).tx) := by rw [List.range_succ, List.flatMap_append, htx]; simp
  rw [compG, if_neg (by rw [hc]; simp)]
  by_cases hla : i + 1 = p.c j
  ·left
   have : (p.pc j i).la = true := by simp [Plan.pc, hla]
   rw [this]
   refine ⟨fun i' hi' => hm i' (by omega), ?_⟩
   simp only [if_true]
   rw [show (p.pc j i).pl = pieceS (p.M j).tx i from rfl, show (p.pc j i).tsn = p.t j i from rfl, hstep, hstx, hla, hp.tx j h1]
   rfl
  ·have : (p.pc j i).la = false := by simp [Plan.pc, hla]
   rw [this]
   simp only [if_false, Bool.false_eq_true]
   rw [show (p.pc j i).tsn = p.t j i from rfl, hp.tn j i h1 (by omega)]
   rcases p.getT_pc hp hs h1 (show i + 1 < p.c j by omega) with ⟨g1, g2⟩ | ⟨g1, g2⟩
   ·rw [g1]
    simp only
    exact Plan.compG_pc hs h1 k (i + 1) _ _ (by omega) (fun i' hi' => by
     by_cases he : i' = i + 1
     ·subst he; exact g2
     ·exact hm i' (by omega)) hstep hstx (by omega)
   ·right
    rw [g1]
    exact ⟨fun ha => g2 (ha _ (by omega)), rfl⟩
theorem Plan.complete_pc {ps : List Dat} (hs : p.Sub ps) {j i : Nat} (h1 : j < p.n) (h2 : i < p.c j) (hm : p.pc j i ∈ ps) : (i = 0 ∧ p.all ps j ∧ complete ps (p.pc j i) = some (p.M j, p.tsns j)) ∨ (¬ (i = 0 ∧ p.all ps j) ∧ complete ps (p.pc j i) = none) := by
 unfold complete
 by_cases hi : i = 0
 ·subst hi
  rw [if_pos (show (p.pc j 0).fi = true from rfl)]
  rcases p.compG_pc hp hs h1 (ps.length + 1) 0 [] [] h2 (fun i' hi' => by rw [Nat.le_zero.1 hi']; exact hm) rfl rfl (by omega) with ⟨a, b⟩ | ⟨a, b⟩
  ·left
   rw [b]
   exact ⟨rfl, a, rfl⟩
  ·right
   rw [b]
   exact ⟨fun h => a h.2, rfl⟩
 ·right
  rw [if_neg (by simp [Plan.pc, hi])]
  exact ⟨fun h => hi h.1, rfl⟩
theorem Plan.due_some {inn : List Int} {ps : List Dat} (hs : p.Sub ps) {m : Msg} {ns : List Int} (h : dueG inn ps = some (m, ns)) : ∃ j, j < p.n ∧ p.all ps j ∧ m = p.M j ∧ ns = p.tsns j ∧ ((p.M j).lo = true ∨ (p.sq j : Int) = inn.getD (p.M j).st.toNat 0) := by
 obtain ⟨d, hd, hc, hq⟩ := due_spec h
 obtain ⟨j, i, h1, h2, rfl⟩ := hs.mem d hd
 rcases p.complete_pc hp hs h1 h2 hd with ⟨_, a, b⟩ | ⟨_, b⟩
 ·rw [b] at hc
  injection hc with hc
  injection hc with e1 e2
  exact ⟨j, h1, a, e1.symm, e2.symm, hq⟩
 ·rw [b] at hc; cases hc
end
theorem lead_small {x y : Nat} (hx : x < 2000) (hy : y < 2000) : lead x y 16 = (x : Int) - y := by
 unfold lead
 rw [show (2 : Int) ^ (Int.toNat 16) = 65536 from rfl, show (2 : Int) ^ (Int.toNat (16 - 1)) = 32768 from rfl]
 split <;> omega
structure Plan.Inv (p : Plan) (x : Nat) (inn : List Int) (A : List Dat) (D : List Nat) (ps : List Dat) : Prop where
 a : p.Sub A
 dn : D.Nodup
 dl : ∀ j ∈ D, j < p.n
 dA : ∀ j ∈ D, j ≠ x → ∀ i, i < p.c j → p.pc j i ∈ A
 s : p.Sub ps
 m : ∀ j i, j < p.n → i < p.c j → (p.pc j i ∈ ps ↔ p.pc j i ∈ A ∧ j ∉ D)
 q : ∀ j, j < p.n → (p.M j).lo = false → (j ∈ D ↔ (p.sq j : Int) < inn.getD (p.M j).st.toNat 0)
 r : ∀ j, j < p.n → ∃ v : Nat, inn.getD (p.M j).st.toNat 0 = v ∧ v ≤ 1000
 st : ∀ j, j < p.n → 0 ≤ (p.M j).st ∧ (p.M j).st < inn.length
 ord : D.Pairwise fun a b => (p.M a).lo = false → (p.M b).lo = false → (p.M a).st = (p.M b).st → p.sq a < p.sq b
end Go.Proofs.YtfhhbkehlfipgaaGreat
end
section
namespace Go.Proofs.YtfhhbkehlfipgaaGreat
open Go.Tx
set_option maxRecDepth 100000
set_option maxHeartbeats 1000000
theorem getD_nextI (inn : List Int) {st st' : Int} (sq : Int) (h0 : 0 ≤ st) (h1 : st < inn.length) (h0' : 0 ≤ st') : (nextI inn st sq).getD st'.toNat 0 = if st' = st then (sq + 1) % 65536 else inn.getD st'.toNat 0 := by
 unfold nextI
 rw [List.getD_eq_getElem?_getD, List.getElem?_set]
 split
 ·rename_i he
  have : st' = st := by omega
  rw [if_pos this, if_pos (by omega)]; rfl
 ·rw [if_neg (by rintro rfl; simp_all), ← List.getD_eq_getElem?_getD]
theorem Plan.sub_filter {p : Plan} {ps : List Dat} (hs : p.Sub ps) (f : Dat → Bool) : p.Sub (withoutG ps f) where
 mem := fun d hd => hs.mem d (List.mem_filter.1 hd).1
 nd := List.Nodup.sublist (List.Sublist.map _ List.filter_sublist) hs.nd
section
variable {p : Plan} (hp : p.Ok)
include hp
theorem Plan.in_tsns {j i j' : Nat} (h1 : j < p.n) (h2 : i < p.c j) (h3 : j' < p.n) : (p.tsns j').contains (p.t j i) = decide (j = j') := by
 rw [Bool.eq_iff_iff, List.contains_iff_mem, decide_eq_true_eq]
 constructor
 ·intro h
  obtain ⟨i', hi', he⟩ := List.mem_map.1 h
  exact (hp.ti j' i' j i h3 (List.mem_range.1 hi') h1 h2 he).1.symm
 ·rintro rfl
  exact List.mem_map.2 ⟨i, List.mem_range.2 h2, rfl⟩
theorem Plan.Inv.loose {x : Nat} {inn : List Int} {A ps : List Dat} {D : List Nat} (h : p.Inv x inn A D ps) {j : Nat} (h1 : j < p.n) (ha : p.all ps j) (hlo : (p.M j).lo = true) : p.Inv x inn A (D ++ [j]) (withoutG ps fun d => (p.tsns j).contains d.tsn) := by
 have hj : j ∉ D := ((h.m j 0 h1 (hp.c1 j h1)).1 (ha 0 (hp.c1 j h1))).2
 refine ⟨h.a, ?_, ?_, ?_, p.sub_filter h.s _, ?_, ?_, h.r, h.st, ?_⟩
 ·rw [List.nodup_append]
  refine ⟨h.dn, by simp, fun a ha' b hb => ?_⟩
  simp at hb; subst hb; rintro rfl; exact hj ha'
 ·intro k hk
  rcases List.mem_append.1 hk with hk | hk
  ·exact h.dl k hk
  ·simp at hk; subst hk; exact h1
 ·intro k hk hx i hi
  rcases List.mem_append.1 hk with hk | hk
  ·exact h.dA k hk hx i hi
  ·simp at hk; subst hk; exact ((h.m k i h1 hi).1 (ha i hi)).1
 ·intro k i hk hi
  unfold withoutG
  rw [List.mem_filter, h.m k i hk hi]
  have : (p.tsns j).contains (p.pc k i).tsn = decide (k = j) := p.in_tsns hp hk hi h1
  simp only [this, List.mem_append, List.mem_singleton, not_or, Bool.not_eq_true', decide_eq_false_iff_not, and_assoc]
 ·intro k hk hl
  rw [← h.q k hk hl, List.mem_append, List.mem_singleton]
  constructor
  ·rintro (h | rfl)
   ·exact h
   ·rw [hlo] at hl; cases hl
  ·exact .inl
 ·rw [List.pairwise_append]
  refine ⟨h.ord, by simp, fun a _ b hb _ hlb => ?_⟩
  simp at hb; subst hb; rw [hlo] at hlb; cases hlb
theorem Plan.Inv.next {x : Nat} {inn : List Int} {A ps : List Dat} {D : List Nat} (h : p.Inv x inn A D ps) {j : Nat} (h1 : j < p.n) (hlo : (p.M j).lo = false) (hq : (p.sq j : Int) = inn.getD (p.M j).st.toNat 0) (hA : j ≠ x → ∀ i, i < p.c j → p.pc j i ∈ A)
  (ps2 : List Dat) (hs2 : p.Sub ps2) (hm2 : ∀ k i, k < p.n → i < p.c k → (p.pc k i ∈ ps2 ↔ (p.pc k i ∈ A ∧ k ∉ D) ∧ k ≠ j)) :
  p.Inv x (nextI inn (p.M j).st (p.sq j)) A (D ++ [j]) (nextP inn ps2 (p.M j).st (p.sq j)) := by
 have hst := h.st j h1
 have hsq := hp.sqb j h1
 have hmod : ((p.sq j : Int) + 1) % 65536 = ((p.sq j + 1 : Nat) : Int) := by omega
 have hg : ∀ k, k < p.n → (nextI inn (p.M j).st (p.sq j)).getD (p.M k).st.toNat 0 = if (p.M k).st = (p.M j).st then ((p.sq j + 1 : Nat) : Int) else inn.getD (p.M k).st.toNat 0 := by
  intro k hk
  rw [getD_nextI inn _ hst.1 hst.2 (h.st k hk).1, hmod]
 have hj : j ∉ D := by rw [h.q j h1 hlo]; omega
 have hold : ∀ d ∈ ps2, oldB (nextI inn (p.M j).st (p.sq j)) (p.M j).st d = false := by
  intro d hd
  obtain ⟨k, i, hk, hi, rfl⟩ := hs2.mem d hd
  obtain ⟨⟨_, hkD⟩, hkj⟩ := (hm2 k i hk hi).1 hd
  unfold oldB
  rw [show (p.pc k i).st = (p.M k).st from rfl, show (p.pc k i).lo = (p.M k).lo from rfl, show (p.pc k i).sq = (p.sq k : Int) from rfl]
  by_cases hs : (p.M k).st = (p.M j).st
  ·cases hl : (p.M k).lo with
   | true => simp
   | false =>
    have hg' := hg j h1
    rw [if_pos rfl] at hg'
    rw [hg', lead_small (by have := hp.sqb k hk; omega) (by omega)]
    have h3 : ¬ (p.sq k : Int) < inn.getD (p.M k).st.toNat 0 := fun hc => hkD ((h.q k hk hl).2 hc)
    rw [hs, ← hq] at h3
    have h4 : p.sq k ≠ p.sq j := fun he => hkj (hp.sqi k j hk h1 hl hlo hs he)
    simp only [Bool.and_eq_false_iff, decide_eq_false_iff_not]
    right; omega
  ·simp [hs]
 have hP : nextP inn ps2 (p.M j).st (p.sq j) = ps2 := by
  unfold nextP withoutG
  rw [List.filter_eq_self]
  intro d hd
  rw [hold d hd]; rfl
 rw [hP]
 refine ⟨h.a, ?_, ?_, ?_, hs2, ?_, ?_, ?_, ?_, ?_⟩
 ·rw [List.nodup_append]
  refine ⟨h.dn, by simp, fun a ha' b hb => ?_⟩
  simp at hb; subst hb; rintro rfl; exact hj ha'
 ·intro k hk
  rcases List.mem_append.1 hk with hk | hk
  ·exact h.dl k hk
  ·simp at hk; subst hk; exact h1
 ·intro k hk hx i hi
  rcases List.mem_append.1 hk with hk | hk
  ·exact h.dA k hk hx i hi
  ·simp at hk; subst hk; exact hA hx i hi
 ·intro k i hk hi
  rw [hm2 k i hk hi]
  simp only [List.mem_append, List.mem_singleton, not_or, and_assoc]
 ·intro k hk hl
  rw [hg k hk, List.mem_append, List.mem_singleton, h.q k hk hl]
  by_cases hs : (p.M k).st = (p.M j).st
  ·rw [if_pos hs, hs, ← hq]
   constructor
   ·rintro (h | rfl) <;> omega
   ·intro h4
    by_cases he : p.sq k = p.sq j
    ·exact .inr (hp.sqi k j hk h1 hl hlo hs he)
    ·left; omega
  ·rw [if_neg hs]
   constructor
   ·rintro (h | rfl)
    ·exact h
    ·exact absurd rfl hs
   ·exact .inl
 ·intro k hk
  rw [hg k hk]
  split
  ·exact ⟨_, rfl, by omega⟩
  ·exact h.r k hk
 ·intro k hk
  rw [nextI_len]; exact h.st k hk
 ·rw [List.pairwise_append]
  refine ⟨h.ord, by simp, fun a ha b hb hla hlb hst' => ?_⟩
  simp at hb; subst hb
  have := (h.q a (h.dl a ha) hla).1 ha
  rw [hst', ← hq] at this
  omega
theorem Plan.wlen {ps : List Dat} {j : Nat} (h1 : j < p.n) (ha : p.all ps j) : (withoutG ps fun d => (p.tsns j).contains d.tsn).length < ps.length :=
 without_len (ha 0 (hp.c1 j h1)) (by
  rw [show (p.pc j 0).tsn = p.t j 0 from rfl, p.in_tsns hp h1 (hp.c1 j h1) h1]; simp)
theorem Plan.del : ∀ (k : Nat) {x : Nat} {inn : List Int} {A ps : List Dat} {D : List Nat} (out : List Msg), p.Inv x inn A D ps → ps.length ≤ k →
  ∃ D', p.Inv x (delG k inn ps out).1 A (D ++ D') (delG k inn ps out).2.1 ∧ (delG k inn ps out).2.2 = out ++ D'.map p.M ∧ dueG (delG k inn ps out).1 (delG k inn ps out).2.1 = none
 | 0, x, inn, A, ps, D, out, h, hl => by
  have : ps = [] := List.length_eq_zero_iff.1 (by omega)
  subst this
  exact ⟨[], by simpa [delG] using h, by simp [delG], rfl⟩
 | k + 1, x, inn, A, ps, D, out, h, hl => by
  rw [delG]
  cases hd : dueG inn ps with
  | none => exact ⟨[], by simpa using h, by simp, hd⟩
  | some r =>
   obtain ⟨m, ns⟩ := r
   obtain ⟨j, h1, ha, rfl, rfl, hq⟩ := p.due_some hp h.s hd
   have hlen := p.wlen hp h1 ha
   simp only
   cases hlo : (p.M j).lo with
   | true =>
    simp only [if_true]
    obtain ⟨D', a, b, c⟩ := Plan.del k (out ++ [p.M j]) (h.loose hp h1 ha hlo) (by omega)
    exact ⟨j :: D', by simpa using a, by rw [b]; simp, c⟩
   | false =>
    simp only [Bool.false_eq_true, if_false]
    have hq' := hq.resolve_left (by rw [hlo]; simp)
    rw [← hq']
    have hA : ∀ i, i < p.c j → p.pc j i ∈ A := fun i hi => ((h.m j i h1 hi).1 (ha i hi)).1
    have hi := h.next hp h1 hlo hq' (fun _ => hA) (withoutG ps fun d => (p.tsns j).contains d.tsn) (p.sub_filter h.s _) (fun k i hk hi => by
     unfold withoutG
     rw [List.mem_filter, h.m k i hk hi]
     have : (p.tsns j).contains (p.pc k i).tsn = decide (k = j) := p.in_tsns hp hk hi h1
     simp only [this, Bool.not_eq_true', decide_eq_false_iff_not])
    have hlen2 : (nextP inn (withoutG ps fun d => (p.tsns j).contains d.tsn) (p.M j).st (p.sq j)).length ≤ _ := List.length_filter_le _ _
    obtain ⟨D', a, b, c⟩ := Plan.del k (out ++ [p.M j]) hi (by omega)
    exact ⟨j :: D', by simpa using a, by rw [b]; simp, c⟩
theorem Plan.take {x : Nat} {inn : List Int} {A ps : List Dat} {D : List Nat} (h : p.Inv x inn A D ps) {j i : Nat} (h1 : j < p.n) (h2 : i < p.c j) (hn : p.pc j i ∉ A) (hj : j ∉ D) :
  ∃ D', p.Inv x (takeG inn ps (p.pc j i)).1 (A ++ [p.pc j i]) (D ++ D') (takeG inn ps (p.pc j i)).2.1 ∧ (takeG inn ps (p.pc j i)).2.2 = D'.map p.M ∧ dueG (takeG inn ps (p.pc j i)).1 (takeG inn ps (p.pc j i)).2.1 = none := by
 have hne : ∀ (L : List Dat), p.Sub L → p.pc j i ∉ L → ∀ y ∈ L, y.tsn ≠ p.t j i := by
  intro L hL hnl y hy he
  obtain ⟨k, i', hk, hi', rfl⟩ := hL.mem y hy
  obtain ⟨rfl, rfl⟩ := hp.ti _ _ _ _ hk hi' h1 h2 he
  exact hnl hy
 have hps : p.pc j i ∉ ps := fun hm => hn ((h.m j i h1 h2).1 hm).1
 have hadd : ∀ (L : List Dat), p.Sub L → p.pc j i ∉ L → p.Sub (L ++ [p.pc j i]) := by
  intro L hL hnl
  refine ⟨fun d hd => ?_, ?_⟩
  ·rcases List.mem_append.1 hd with hd | hd
   ·exact hL.mem d hd
   ·simp at hd; exact ⟨j, i, h1, h2, hd⟩
  ·rw [List.map_append, List.nodup_append]
   refine ⟨hL.nd, by simp, fun a ha b hb => ?_⟩
   simp at hb; subst hb
   obtain ⟨y, hy, rfl⟩ := List.mem_map.1 ha
   exact hne L hL hnl y hy
 have hc : (ps.any (fun y => y.tsn == (p.pc j i).tsn) || (!(p.pc j i).lo && decide (lead (p.pc j i).sq (inn.getD (p.pc j i).st.toNat 0) 16 < 0))) = false := by
  rw [Bool.or_eq_false_iff]
  refine ⟨?_, ?_⟩
  ·rw [List.any_eq_false]
   intro y hy
   simp only [beq_iff_eq]
   exact hne ps h.s hps y hy
  ·rw [show (p.pc j i).lo = (p.M j).lo from rfl, show (p.pc j i).sq = (p.sq j : Int) from rfl, show (p.pc j i).st = (p.M j).st from rfl]
   cases hlo : (p.M j).lo with
   | true => rfl
   | false =>
    obtain ⟨v, hv, hv2⟩ := h.r j h1
    have h3 : ¬ (p.sq j : Int) < inn.getD (p.M j).st.toNat 0 := fun hc => hj ((h.q j h1 hlo).2 hc)
    rw [hv] at h3 ⊢
    rw [lead_small (by have := hp.sqb j h1; omega) (by omega)]
    simp; omega
 unfold takeG
 rw [if_neg (by rw [hc]; simp)]
 have hI : p.Inv x inn (A ++ [p.pc j i]) D (ps ++ [p.pc j i]) := by
  refine ⟨hadd A h.a hn, h.dn, h.dl, fun k hk hx i' hi' => List.mem_append_left _ (h.dA k hk hx i' hi'), hadd ps h.s hps, fun k i' hk hi' => ?_, h.q, h.r, h.st, h.ord⟩
  rw [List.mem_append, List.mem_append, h.m k i' hk hi', List.mem_singleton]
  constructor
  ·rintro (⟨a, b⟩ | a)
   ·exact ⟨.inl a, b⟩
   ·obtain ⟨rfl, rfl⟩ := p.pc_inj hp hk hi' h1 h2 a
    exact ⟨.inr rfl, hj⟩
  ·rintro ⟨a | a, b⟩
   ·exact .inl ⟨a, b⟩
   ·exact .inr a
 obtain ⟨D', a, b, c⟩ := p.del hp (ps.length + 1) [] hI (by simp)
 exact ⟨D', a, by simpa using b, c⟩
end
end Go.Proofs.YtfhhbkehlfipgaaGreat
end
section
namespace Go.Proofs.YtfhhbkehlfipgaaGreat
open Go.Tx
set_option maxRecDepth 100000
set_option maxHeartbeats 2000000
end Go.Proofs.YtfhhbkehlfipgaaGreat
end
section
namespace Go.Proofs.YtfhhbkehlfipgaaGreat
open Go.Tx
set_option maxRecDepth 100000
set_option maxHeartbeats 16000000
structure MsOk (N : Nat) (ms : List Msg) : Prop where
 len : ms.length ≤ 12
 st : ∀ m ∈ ms, 0 ≤ m.st ∧ m.st < N
 pr : ∀ m ∈ ms, 0 ≤ m.pr ∧ m.pr < 4294967296
 t1 : ∀ m ∈ ms, 1 ≤ m.tx.length
 t2 : ∀ m ∈ ms, m.tx.length ≤ 3300
theorem Plan.Inv.empty {p : Plan} {x : Nat} {inn : List Int} {A ps : List Dat} {D : List Nat} (h : p.Inv x inn A D ps) (ha : ∀ j, j < p.n → j ∈ D) : ps = [] := by
 cases ps with
 | nil => rfl
 | cons d l =>
  obtain ⟨j, i, h1, h2, rfl⟩ := h.s.mem d (by simp)
  exact absurd (ha j h1) ((h.m j i h1 h2).1 (by simp)).2
structure Wd where
 st : Nat
 kd : Nat
 sz : Nat
 lo : Bool
def Wd.row (w : Wd) : List PV := [.int .u8 w.st, .int .u8 w.kd, .int .u16 w.sz, .bool w.lo]
def Wd.ok (w : Wd) : Prop := w.st < 256 ∧ w.kd < 256 ∧ w.sz < 65536
def Wd.msg (N : Nat) (w : Wd) : Msg := ⟨((w.st % N : Nat) : Int), ((50 + w.kd % 4 : Nat) : Int), w.lo, msgText w.sz⟩
def msgsW (N : Nat) (ws : List Wd) : List Msg := (ws.take 12).map (Wd.msg N)
theorem msgText_len (sz : Nat) : 1 ≤ (msgText sz).length ∧ (msgText sz).length ≤ 3300 := by simp [msgText]; omega
theorem msgsW_ok {N : Nat} (hN : 1 ≤ N) (ws : List Wd) : MsOk N (msgsW N ws) where
 len := by simp [msgsW]; omega
 st := fun m hm => by
  obtain ⟨w, _, rfl⟩ := List.mem_map.1 hm
  have := Nat.mod_lt w.st (show N > 0 by omega)
  simp only [Wd.msg]; omega
 pr := fun m hm => by
  obtain ⟨w, _, rfl⟩ := List.mem_map.1 hm
  simp only [Wd.msg]; omega
 t1 := fun m hm => by
  obtain ⟨w, _, rfl⟩ := List.mem_map.1 hm
  exact (msgText_len _).1
 t2 := fun m hm => by
  obtain ⟨w, _, rfl⟩ := List.mem_map.1 hm
  exact (msgText_len _).2
theorem comes_valid : ∀ (l : List Dat) {inn : List Int} {ps : List Dat} (out : List Msg), PsOk inn ps → dueG inn ps = none → inn.all (serB 16) = true → (∀ d ∈ l, d.ok = true ∧ d.st < inn.length) → ps.length + l.length ≤ 80 →
  PsOk (comesG inn ps l out).1 (comesG inn ps l out).2.1 ∧ dueG (comesG inn ps l out).1 (comesG inn ps l out).2.1 = none ∧ (comesG inn ps l out).1.all (serB 16) = true ∧ (comesG inn ps l out).1.length = inn.length
 | [], inn, ps, out, h, hD, hi, _, _ => ⟨h, hD, hi, rfl⟩
 | d :: l, inn, ps, out, h, hD, hi, hl, hlen => by
  simp only [List.length_cons] at hlen
  obtain ⟨e1, e2⟩ := hl d (by simp)
  have hv := takeG_valid h hD hi (d := d) (by omega) e1 (by omega)
  have hle := takeG_le inn ps d
  have hln := takeG_len inn ps d
  obtain ⟨a, b, c, e⟩ := comes_valid l (out ++ (takeG inn ps d).2.2) hv.1 hv.2.1 hv.2.2 (fun x hx => by rw [hln]; exact hl x (by simp [hx])) (by omega)
  exact ⟨a, b, c, e.trans hln⟩
theorem startF_ok {F : SF} {L nx : Nat} (o i : Nat) (f a b : Int) (w r : PV) (ho : o < 256) (hi : i < 256) (ha1 : 0 ≤ a) (ha2 : a < 65536) (hb1 : 0 ≤ b) (hb2 : b < 65536) :
  Con Tryz.prog 20 [.agg [.int .u8 o, .int .u8 i, .int .u32 f, .int .u16 a, .int .u16 b, w, r]] F L nx nx (strV (((zrs (1 + o % 16)).set 0 a).set (o % 16) b) ((zrs (1 + i % 16)).set 0 b) 0 (-1) [] []) [] [] := by
 have h := start_ok (F := F) (L := L + 1) (nx := 0) o i f a b w r ho hi ha1 ha2 hb1 hb2
 have e1 : (((zrs (1 + o % 16)).set 0 a).set (o % 16) b).length = 1 + o % 16 := by simp [zrs]
 have e2 : ((zrs (1 + i % 16)).set 0 b).length = 1 + i % 16 := by simp [zrs]
 refine Con.frozen h (by simp [keys]) (fun F => ?_) ?_ ?_
 ·simp [strV, Wk, WkL, SF.upd, SF.set, e1, e2, List.take_of_length_le, -List.map_set]
 ·simp [strV, wkN, wkNL]
 ·simp [strV, Tx.nf, nfl]
def startI (i : Nat) (b : Int) : List Int := (zrs (1 + i % 16)).set 0 b
def piecesW (i : Nat) (f : Int) (b : Int) (ws : List Wd) : List Dat := (numG f (startI i b) (msgsW (1 + i % 16) ws) []).2
theorem piecesD_ok {F : SF} {L nx : Nat} (o i0 : Nat) (f : Nat) (hf : f < 4294967296) (a b : Int) (ho : o < 256) (hi : i0 < 256) (ha1 : 0 ≤ a) (ha2 : a < 65536) (hb1 : 0 ≤ b) (hb2 : b < 65536) (ws : List Wd) (hws : ∀ w ∈ ws, w.ok) (hwl : ws.length ≤ 9223372036854775807) (ks : List Nat) :
  Con Tryz.prog 24 [.agg [.int .u8 o, .int .u8 i0, .int .u32 f, .int .u16 a, .int .u16 b, .fs 4 (ws.map Wd.row), .fs 1 (ks.map oU)]] F L nx nx (.fs 8 ((piecesW i0 f b ws).map Dat.row)) [] [] := by
 have hst := fun F L nx => startF_ok (F := F) (L := L) (nx := nx) o i0 f a b (.fs 4 (ws.map Wd.row)) (.fs 1 (ks.map oU)) ho hi ha1 ha2 hb1 hb2
 obtain ⟨N, hN⟩ : ∃ N, N = 1 + i0 % 16 := ⟨_, rfl⟩
 have hN1 : 1 ≤ N ∧ N ≤ 16 := by omega
 obtain ⟨inn, hinn⟩ : ∃ x, x = (zrs (1 + i0 % 16)).set 0 b := ⟨_, rfl⟩
 have hil : inn.length = N := by rw [hinn, hN]; simp [zrs]
 have his : inn.all (serB 16) = true := by
  have h16 : (2 : Int) ^ (Int.toNat 16) = 65536 := rfl
  rw [hinn, List.all_eq_true]
  intro x hx
  rcases List.mem_or_eq_of_mem_set hx with h | rfl
  ·simp [zrs] at h; rw [h]; rfl
  ·simp only [serB, h16, Bool.and_eq_true, decide_eq_true_eq]; omega
 obtain ⟨l, hl⟩ : ∃ x, x = msgsW N ws := ⟨_, rfl⟩
 have hpw : piecesW i0 f b ws = (numG f inn l []).2 := by unfold piecesW startI; rw [← hinn, ← hN, ← hl]
 rw [hpw]
 obtain ⟨out0, hout0⟩ : ∃ x, x = ((zrs (1 + o % 16)).set 0 a).set (o % 16) b := ⟨_, rfl⟩
 rw [← hinn, ← hout0] at hst
 have hll : l.length = min 12 ws.length := by rw [hl]; simp [msgsW]
 have hmo : ∀ m ∈ l, MsgOk inn.length m := by
  intro m hm
  have h := msgsW_ok hN1.1 ws
  rw [hl] at hm
  have h32 : (2 : Int) ^ (Int.toNat 32) = 4294967296 := rfl
  have := h.pr m hm
  exact ⟨(h.st m hm).1, by rw [hil]; exact (h.st m hm).2, by simp [serB]; omega, h.t1 m hm, Nat.le_trans (h.t2 m hm) (by omega)⟩
 simp only [strV, List.map_nil] at hst
 refine bdy Tryz.f24 ?_
 intro F3 hF1 hF2
 simp only [Tryz.f24, cx, go_sem, meths]
 refine CallVC.same (hst _ _ _) ?_
 simp only [Nat.add_zero, go_sem]
 refine ⟨⟨by omega, by omega⟩, ?_⟩
 refine loopK.intro _ _ (I := fun z : NumX => ⟨[none, some (.ptr ⟨L + 1, 0⟩ 0 0), none, some (.sl ⟨L + 1, z.q⟩ 0 z.acc.length), some (.ptr ⟨L + 1, 128⟩ 0 0), some (.int .i64 (((f : Int) + (z.acc.length : Int)) % 4294967296)), some (.int .i64 z.k), none, none, none, none, none, none, none, none, none, none, none, none, none, none, none, none, none, none, none, none, none, none, none, none, none, none, none, none, none, none, none, none, none, none, none, none, none, none, none, none, none, none, none, none, none, none, none, none, none, none, none, none, none, none, none, none, none],
  [(⟨L + 1, 0⟩, .rows 30 7 true true [[.int .u8 o, .int .u8 i0, .int .u32 f, .int .u16 a, .int .u16 b, .fs 4 (ws.map Wd.row), .fs 1 (ks.map oU)]]), (⟨L + 1, 128⟩, .rows 41 6 true true [[.fs 1 (z.out.map eI), .fs 1 (inn.map eI), .fs 8 [], .int .i64 0, .int .i64 (-1), .fs 1 []]]), (⟨L + 1, z.q⟩, .rows 32 8 true true (z.acc.map Dat.row))], 10000 * (z.i + 1)⟩)
  (pre := numI f inn l) (μ := fun z => l.length - z.k) ⟨0, 0, 480, inn, []⟩ ⟨by simp, rfl, his, by simp, rfl, by simp, by simp⟩ ?_ ?_
 ·refine Sub.trans (Sub.nilName 3 32 (wd := 8) (by omega) rfl) ?_
  have e0 : (f : Int) % 4294967296 = f := by omega
  refine Sub.of (hfz hF2) (by simp only [go_sem, subT, and_self, Int.natCast_zero, Int.add_zero, e0]) ?_ (by simp [subK, keys, updH, setH]) (by simp)
  simp [subH, Tx.look, updH, setH]
 ·rintro ⟨k, i, q, out1, acc⟩ ⟨h1, h2, h3, h4, h5, k1, k2⟩
  simp only at h1 h2 h3 h4 h5 k1 k2 ⊢
  have q_0 : (q = 0) = False := by apply eq_false; omega
  have n0_q : (0 = q) = False := by apply eq_false; omega
  have q_128 : (q = 128) = False := by apply eq_false; omega
  have n128_q : (128 = q) = False := by apply eq_false; omega
  have q_n1 : ∀ kk, (10000 * (i + 1) + kk = q) = False := fun kk => by apply eq_false; omega
  have q_n2 : ∀ kk, (q = 10000 * (i + 1) + kk) = False := fun kk => by apply eq_false; omega
  have q_n3 : (10000 * (i + 1) = q) = False := by apply eq_false; omega
  have q_n4 : (q = 10000 * (i + 1)) = False := by apply eq_false; omega
  have q_n5 : ∀ kk, ((⟨L + 1, q⟩ : Nm) == ⟨L + 1, 10000 * (i + 1) + kk⟩) = false := fun kk => by simp; omega
  by_cases hlt : k < l.length
  ·have f1 : decide ((k : Int) < (ws.length : Int)) = true := dT (by omega)
   have f2 : decide ((k : Int) < 12) = true := dT (by omega)
   have hkw : k < ws.length := by omega
   obtain ⟨w, hw⟩ : ∃ w, w = ws[k] := ⟨_, rfl⟩
   have r0 : (ws.map Wd.row).getD k [] = w.row := by rw [hw]; simp [hkw, List.getD_eq_getElem?_getD]
   have hwo := hws w (by rw [hw]; exact List.getElem_mem hkw)
   have hm : l[k] = Wd.msg N w := by
    have : l[k]? = some (Wd.msg N w) := by
     rw [hl, msgsW, List.getElem?_map, List.getElem?_take_of_lt (by omega), List.getElem?_eq_getElem hkw, ← hw]; rfl
    rw [List.getElem?_eq_getElem hlt] at this
    exact Option.some.inj this
   have hmsg := fun F L nx => message_ok (F := F) (L := L) (nx := nx) w.st w.kd w.sz N w.lo hwo.1 hwo.2.1 hwo.2.2 hN1.1 hN1.2
   have hmt := msgText_len w.sz
   have hmod := Nat.mod_lt w.st (show N > 0 by omega)
   have hsd := fun F L nx => refSend_ok (F := F) (L := L) (nx := nx) out1 inn [] 0 (-1) [] (by omega) (by omega) (by simp) (by simp) h3 (w.st % N) ((50 + w.kd % 4 : Nat) : Int) w.lo (msgText w.sz) (by omega) (by omega)
   rw [List.drop_eq_getElem_cons hlt, hm, numG] at h5
   obtain ⟨ds, hds⟩ : ∃ ds, ds = cutsM out1 (Wd.msg N w) := ⟨_, rfl⟩
   have hdl : ds.length = ((msgText w.sz).length + 999) / 1000 := by rw [hds, cutsM, sendD_len]; rfl
   have hdl1 : 1 ≤ ds.length ∧ ds.length ≤ 4 := by omega
   have hds2 : sendD ((w.st % N : Nat) : Int) ((50 + w.kd % 4 : Nat) : Int) (seqS out1 (w.st % N) w.lo) w.lo (msgText w.sz) (((msgText w.sz).length + 999) / 1000) = ds := by rw [hds]; rfl
   rw [← hds] at h5
   rw [hds2] at hsd
   obtain ⟨out2, hout2⟩ : ∃ x, x = outS out1 (w.st % N) w.lo := ⟨_, rfl⟩
   have ho2l : out2.length = out1.length := by rw [hout2]; exact outS_len _ _ _
   have ho2s : out2.all (serB 16) = true := by rw [hout2]; exact outS_ser h3 _ _
   rw [show outS out1 (Wd.msg N w).st.toNat (Wd.msg N w).lo = out2 from hout2.symm] at h5
   simp only [← hout2, strV, List.map_nil] at hsd
   simp only [f1, f2, r0, hil, Wd.row, Nat.add_assoc, n0_q, n128_q, List.length_map, go_sem]
   repeat refine sd2 ?_
   refine CallVC.same (hmsg _ _ _) ?_
   simp only [go_sem]
   repeat refine sd1 ?_
   refine CallVC.same (hsd _ _ _) ?_
   simp only [Nat.add_assoc, n128_q, q_n1, go_sem]
   refine ⟨okDyn_num (fun x => x.i) (by simp only [numF, List.map]; kernel_rfl), ?_⟩
   refine loopK.intro _ _ (I := fun z : NumY => ⟨[none, some (.ptr ⟨L + 1, 0⟩ 0 0), none, some (.sl ⟨L + 1, z.q⟩ 0 (acc.length + z.j)), some (.ptr ⟨L + 1, 128⟩ 0 0), some (.int .i64 (((f : Int) + ((acc.length + z.j : Nat) : Int)) % 4294967296)), some (.int .i64 k), none, some (.fs 8 (ds.map Dat.row)), some (.int .i64 z.j), none, none, none, none, none, none, none, none, none, none, none, none, none, none, none, none, none, none, none, none, none, none, none, none, none, none, none, none, none, none, none, none, none, none, none, none, none, none, none, none, none, none, none, none, none, none, none, none, none, none, none, none, none, none],
    [(⟨L + 1, 0⟩, .rows 30 7 true true [[.int .u8 o, .int .u8 i0, .int .u32 f, .int .u16 a, .int .u16 b, .fs 4 (ws.map Wd.row), .fs 1 (ks.map oU)]]), (⟨L + 1, 128⟩, .rows 41 6 true true [[.fs 1 (out2.map eI), .fs 1 (inn.map eI), .fs 8 [], .int .i64 0, .int .i64 (-1), .fs 1 []]]), (⟨L + 1, z.q⟩, .rows 32 8 true true ((acc ++ stampL f acc.length ds z.j).map Dat.row))], 10000 * (z.i + 1)⟩)
    (pre := fun z => z.j ≤ ds.length ∧ 192 ≤ z.q ∧ z.q < 10000 * (z.i + 1)) (μ := fun z => ds.length - z.j) ⟨0, i + 1, q⟩ ⟨by simp, by simp only []; omega, by simp only []; omega⟩ ?_ ?_
   ·have e9 : stampL f acc.length ds 0 = [] := rfl
    refine Sub.of (hfz hF2) (by simp only [Nat.add_zero, go_sem, subT, and_self, Int.natCast_zero]) ?_ (by simp [subK, keys]) (by simp only []; omega)
    simp [subH, Tx.look, e9, q_0, q_128]
   ·clear q_n1 q_n2 q_n3 q_n4 q_n5 q_0 q_128 n0_q n128_q k1 k2
    clear i q
    rintro ⟨j, i, q⟩ ⟨g1, k1, k2⟩
    simp only at g1 k1 k2 ⊢
    have q_0 : (q = 0) = False := by apply eq_false; omega
    have n0_q : (0 = q) = False := by apply eq_false; omega
    have q_128 : (q = 128) = False := by apply eq_false; omega
    have n128_q : (128 = q) = False := by apply eq_false; omega
    have q_n1 : ∀ kk, (10000 * (i + 1) + kk = q) = False := fun kk => by apply eq_false; omega
    have q_n2 : ∀ kk, (q = 10000 * (i + 1) + kk) = False := fun kk => by apply eq_false; omega
    have q_n3 : (10000 * (i + 1) = q) = False := by apply eq_false; omega
    have q_n4 : (q = 10000 * (i + 1)) = False := by apply eq_false; omega
    have q_n5 : ∀ kk, ((⟨L + 1, q⟩ : Nm) == ⟨L + 1, 10000 * (i + 1) + kk⟩) = false := fun kk => by simp; omega
    have hel : (acc ++ stampL f acc.length ds j).length = acc.length + j := by rw [List.length_append, stampL_len]
    by_cases hjt : j < ds.length
    ·have f3 : decide ((j : Int) < (ds.length : Int)) = true := dT (by omega)
     have r1 : (ds.map Dat.row).getD j [] = (ds.getD j datZ).row := by simp [hjt, List.getD_eq_getElem?_getD]
     have e12 : stampL f acc.length ds (j + 1) = stampL f acc.length ds j ++ [stamp f acc.length ds j] := by simp [stampL, List.range_succ]
     have e13 : acc ++ stampL f acc.length ds (j + 1) = (acc ++ stampL f acc.length ds j) ++ [stamp f acc.length ds j] := by rw [e12, List.append_assoc]
     obtain ⟨R, hR⟩ : ∃ R, R = acc ++ stampL f acc.length ds j := ⟨_, rfl⟩
     rw [← hR] at hel e13 ⊢
     obtain ⟨d, hd⟩ : ∃ d, d = ds.getD j datZ := ⟨_, rfl⟩
     rw [← hd] at r1
     obtain ⟨t, ht⟩ : ∃ t, t = ((f : Int) + ((acc.length + j : Nat) : Int)) % 4294967296 := ⟨_, rfl⟩
     have htb : 0 ≤ t ∧ t < 4294967296 := by omega
     have htn : ((f : Int) + ((acc.length + (j + 1) : Nat) : Int)) % 4294967296 = (t + 1) % 4294967296 := by omega
     have e14 : (stamp f acc.length ds j).row = [.int .i64 t, .int .i64 d.st, .int .i64 d.sq, .int .i64 d.pr, .bool d.fi, .bool d.la, .bool d.lo, .str d.pl] := by rw [stamp, ← hd, ht]; rfl
     rw [← ht]
     simp only [f3, r1, Dat.row, Nat.add_assoc, q_n1, List.length_map, Nat.add_zero, go_sem]
     repeat refine sd2 ?_
     refine CallVC.same (behind32R_ok t htb.1 (by omega)) ?_
     simp only [nS2, Nat.add_assoc, q_0, q_128, q_n1, q_n2, q_n5, List.length_map, go_sem]
     repeat refine sd2 ?_
     have hme : (acc ++ stampL f acc.length ds (j + 1)).map Dat.row = R.map Dat.row ++ [[.int .i64 t, .int .i64 d.st, .int .i64 d.sq, .int .i64 d.pr, .bool d.fi, .bool d.la, .bool d.lo, .str d.pl]] := by rw [e13, List.map_append, List.map_singleton, e14]
     refine ⟨⟨j + 1, i + 1, 10000 * (i + 1) + 576⟩, ⟨by simp only []; omega, by simp only []; omega, by simp only []; omega⟩, by simp only []; omega, ?_⟩
     refine Sub.of (hfz hF2) (by simp only [htn, go_sem, subT, and_self, Int.natCast_succ]) ?_ (by simp [subK, keys]) (by simp only []; omega)
     simp only [hme]
     simp [subH, Tx.look, nB, q_n1]
    ·have f3 : decide ((j : Int) < (ds.length : Int)) = false := dF (by omega)
     have e : j = ds.length := by omega
     subst e
     simp only [f3, Nat.add_assoc, List.length_map, go_sem]
     repeat refine sd2 ?_
     refine ⟨⟨k + 1, i + 1, q, out2, acc ++ stampL f acc.length ds ds.length⟩, ⟨by simp only []; omega, by simp only []; omega, ho2s, by simp [stampL_len]; omega, h5, by simp only []; omega, by simp only []; omega⟩, by simp only []; omega, ?_⟩
     refine Sub.of (hfz hF2) (by simp only [hel, go_sem, subT, and_self, Int.natCast_succ]) ?_ (by simp [subK, keys]) (by simp only []; omega)
     simp [subH, Tx.look, q_0, q_128]
  ·have e : k = l.length := by omega
   subst e
   rw [List.drop_of_length_le (Nat.le_refl _), numG] at h5
   rw [← h5]
   by_cases hw12 : l.length < ws.length
   ·have f1 : decide ((l.length : Int) < (ws.length : Int)) = true := dT (by omega)
    have f2 : decide ((l.length : Int) < 12) = false := dF (by omega)
    simp only [f1, f2, Nat.add_assoc, n0_q, List.length_map, go_sem]
    exact PostF.rs (v0 := .sl ⟨L + 1, q⟩ 0 acc.length ) (.inr rfl) (hw := by simp [Wk, Tx.look, List.take_of_length_le, q_0, q_128])
   ·have f1 : decide ((l.length : Int) < (ws.length : Int)) = false := dF (by omega)
    simp only [f1, Nat.add_assoc, n0_q, List.length_map, go_sem]
    exact PostF.rs (v0 := .sl ⟨L + 1, q⟩ 0 acc.length ) (.inr rfl) (hw := by simp [Wk, Tx.look, List.take_of_length_le, q_0, q_128])
end Go.Proofs.YtfhhbkehlfipgaaGreat
end
