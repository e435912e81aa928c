/- Lemmas for the walk: WK5, WD0, WC21, WC23, WC22, WC24, WC16, WC25, WC26, WC27, WC28, WC29, WC30, WC31, WC32, WK10, WC17, WC18, WC19, WD1, WC33, WK40, WK7. -/
import Derived.Test.YtaacfnngodhecaaGreatDoorP12
import Derived.Test.YtaacfnngodhecaaGreatDoorP11
import Derived.Test.YtaacfnngodhecaaGreatDoorP10
import Derived.Test.YtaacfnngodhecaaGreatDoorP13
import Derived.Test.YtaacfnngodhecaaGreatDoorP15
set_option linter.all false
section
namespace Go.Proofs.YtaacfnngodhecaaGreatDoor
open Go.Tx
set_option maxRecDepth 100000
set_option maxHeartbeats 16000000
def eP (x : Nat × Nat) : List PV := [.int .i64 x.1, .int .i64 x.2]
def pairsG (s : List UInt8) (p n : Nat) : List (Nat × Nat) := (List.range n).map fun i => (getB ((s.drop (p + 4 * i)).take 2), getB ((s.drop (p + 4 * i + 2)).take 2))
theorem pairsG_len (s : List UInt8) (p n : Nat) : (pairsG s p n).length = n := by simp [pairsG]
theorem pairsG_succ (s : List UInt8) (p n : Nat) : pairsG s p (n + 1) = pairsG s p n ++ [(getB ((s.drop (p + 4 * n)).take 2), getB ((s.drop (p + 4 * n + 2)).take 2))] := by
 simp [pairsG, List.range_succ]
theorem nums2 (s : List UInt8) (q : Nat) : (numsG s q 2 2).map eN = [[.int .i64 (getB ((s.drop q).take 2))], [.int .i64 (getB ((s.drop (q + 2)).take 2))]] := by
 simp [numsG, List.range_succ, eN]
theorem pairs_ok {F : SF} {L nx : Nat} (r : Nm) (hr : r.l ≤ L) (s : List UInt8) (p n : Nat) (c : Int) (hc : c = n) (hp : p + 4 * n ≤ s.length) (hl : s.length ≤ 1000000) (hF : F r = some (rdB s p)) :
  Con Tryz.prog 91 [.ptr r 0 0, .int .i64 c] F L nx nx (.fs 2 ((pairsG s p n).map eP)) [(r, rdB s (p + 4 * n))] [r] := by
 subst hc
 refine bdy Tryz.f91 (hrd := (by simp; omega)) ?_
 intro F3 hF1 hF2
 have hF3 : F3 r = some (rdB s p) := (hF1 r (by simp)).trans hF
 have n1 : ∀ k, (r = (⟨L + 1, k⟩ : Nm)) = False := nm_out hr
 have n2 : ∀ k, ((⟨L + 1, k⟩ : Nm) = r) = False := nm_out' hr
 simp only [Tryz.f91, cx, go_sem, meths]
 refine loopK.intro _ _ (I := fun x : Nat × Nat => ⟨[some (.ptr r 0 0), none, none, none, none, some (.sl ⟨L + 1, x.2⟩ 0 x.1), none, some (.int .i64 n), some (.int .i64 x.1)] ++ oz 15, [(r, rdB s (p + 4 * x.1)), (⟨L + 1, x.2⟩, .rows 118 2 true true ((pairsG s p x.1).map eP))], 10000 * (x.1 + 1)⟩)
  (pre := fun x => x.1 ≤ n ∧ x.2 < 10000 * (x.1 + 1)) (μ := fun x => n - x.1) (0, 128) ⟨by simp, by simp⟩ ?_ ?_
 ·refine Sub.trans (Sub.nilName 5 118 (wd := 2) (by omega) rfl) ?_
  refine Sub.of (hfz hF2) (by simp only [go_sem, subT, and_self, Int.natCast_zero]) ?_ ?_ ?_
  ·simp [subH, Tx.look, updH, setH, hF3, n1, pairsG]
  ·simp [subK, keys, updH, setH]
  ·simp
 ·rintro ⟨i, q⟩ ⟨hi, hq⟩
  simp only at hi hq ⊢
  obtain ⟨q_n1, q_n2, q_n3, q_n4, q_n5⟩ := nqL L (i := i) (p := q) (by omega)
  by_cases hlt : i < n
  ·have f1 : decide ((i : Int) < (n : Int)) = true := dT (by omega)
   have e5 : 4 * (i + 1) = 4 * i + 4 := by omega
   simp only [f1, Nat.add_assoc, go_sem]
   refine CallVC.same (numbers_ok r (by omega) s (p + 4 * i) 2 2 (by omega) (by omega) (by omega) hl (by simp [Tx.look])) ?_
   simp only [n1, n2, rdB, nums2, q_n1, q_n2, q_n5, kS3, Nat.add_assoc, List.length_map, pairsG_len, Nat.add_zero, go_sem]
   repeat refine sd1 ?_
   refine ⟨(i + 1, 10000 * (i + 1) + 384), ⟨by simp only []; omega, by simp only []; omega⟩, by simp only []; omega, ?_⟩
   refine Sub.o hF2 ?_
   simp only [subH, Tx.look, n1, n2, pairsG_succ, eP, e5, q_n1, kS3, Nat.add_assoc, List.map_append, go_sem]
  ·have f1 : decide ((i : Int) < (n : Int)) = false := dF (by omega)
   have hin : i = n := by omega
   subst hin
   simp only [f1, Nat.add_assoc, go_sem]
   refine PostF.of (p := True) (v0 := .sl ⟨L + 1, q⟩ 0 i) (.inr rfl) (by simp only [resVal, resVals, resVal1, one, go_sem]) trivial (by simp [Wk, Tx.look, n2, pairsG_len, List.take_of_length_le]) (by simp [wkN]) (by simp [Tx.nf]) ⟨hr, by simp [BW, Tx.look, rdB], trivial⟩ (by simp [UpdAll, keys])
theorem pairs_die {F : SF} {L : Nat} (r : Nm) (hr : r.l ≤ L) (s : List UInt8) (p n : Nat) (c : Int) (hc : c = n) (hps : p ≤ s.length) (hp : s.length < p + 4 * n) (hn : n ≤ 1000000) (hl : s.length ≤ 1000000) (hF : F r = some (rdB s p)) :
  DCon Tryz.prog chM 91 [.ptr r 0 0, .int .i64 c] F L [(r, .dead)] [r] := by
 subst hc
 refine DCon.body (cxOk (L + 1)) rfl rfl (fn := Tryz.f91) (c := Tryz.f91.body.getD .skip) (by kernel_rfl) (by rfl) (by kernel_rfl) rfl  (by simp; omega) ?_
 intro F3 hF1 hF2
 have hF3 : F3 r = some (rdB s p) := (hF1 r (by simp)).trans hF
 have n1 : ∀ k, (r = (⟨L + 1, k⟩ : Nm)) = False := nm_out hr
 have n2 : ∀ k, ((⟨L + 1, k⟩ : Nm) = r) = False := nm_out' hr
 obtain ⟨j, hj⟩ : ∃ j, j = (s.length - p) / 4 := ⟨_, rfl⟩
 simp only [Tryz.f91, cx, go_sem, meths]
 refine loopK.intro _ _ (I := fun x : Nat × Nat => ⟨[some (.ptr r 0 0), none, none, none, none, some (.sl ⟨L + 1, x.2⟩ 0 x.1), none, some (.int .i64 n), some (.int .i64 x.1)] ++ oz 15, [(r, rdB s (p + 4 * x.1)), (⟨L + 1, x.2⟩, .rows 118 2 true true ((pairsG s p x.1).map eP))], 10000 * (x.1 + 1)⟩)
  (pre := fun x => x.1 ≤ j ∧ x.2 < 10000 * (x.1 + 1)) (μ := fun x => n - x.1) (0, 128) ⟨by simp, by simp⟩ ?_ ?_
 ·refine Sub.trans (Sub.nilName 5 118 (wd := 2) (by omega) rfl) ?_
  refine Sub.of (hfz hF2) (by simp only [go_sem, subT, and_self, Int.natCast_zero]) ?_ ?_ ?_
  ·simp [subH, Tx.look, updH, setH, hF3, n1, pairsG, dying_L]
  ·simp [subK, keys, updH, setH, dying_L]
  ·simp
 ·rintro ⟨i, q⟩ ⟨hi, hq⟩
  simp only at hi hq ⊢
  obtain ⟨q_n1, q_n2, q_n3, q_n4, q_n5⟩ := nqL L (i := i) (p := q) (by omega)
  have f1 : decide ((i : Int) < (n : Int)) = true := dT (by omega)
  have e5 : 4 * (i + 1) = 4 * i + 4 := by omega
  simp only [f1, Nat.add_assoc, go_sem]
  by_cases hlt : i < j
  ·refine CallVD.live (CallVC.same (numbers_ok r (by omega) s (p + 4 * i) 2 2 (by omega) (by omega) (by omega) hl (by simp [Tx.look])) ?_)
   simp only [n1, n2, rdB, nums2, q_n1, q_n2, q_n5, kS3, Nat.add_assoc, List.length_map, pairsG_len, Nat.add_zero, go_sem]
   refine RegVD.live ?_
   repeat refine sd1 ?_
   refine ⟨(i + 1, 10000 * (i + 1) + 384), ⟨by simp only []; omega, by simp only []; omega⟩, by simp only []; omega, ?_⟩
   refine Sub.o hF2 ?_
   simp only [subH, Tx.look, n1, n2, pairsG_succ, eP, e5, q_n1, kS3, Nat.add_assoc, List.map_append, go_sem]
  ·refine CallVD.same rfl (numbers_die (L := L + 1) r (by omega) s (p + 4 * i) 2 2 (by omega) (by omega) (by omega) (by omega) (by omega) hl (by simp [Tx.look])) ?_
   exact .dead (ns := [r]) (by simpa using hr) (by simp [UpdAll, updH, setH])
structure Dat where
 tsn : Int
 st : Int
 sq : Int
 pr : Int
 fi : Bool
 la : Bool
 lo : Bool
 pl : List UInt8
 deriving DecidableEq, Inhabited
def Dat.row (d : Dat) : List PV := [.int .i64 d.tsn, .int .i64 d.st, .int .i64 d.sq, .int .i64 d.pr, .bool d.fi, .bool d.la, .bool d.lo, .str d.pl]
def Dat.ok (d : Dat) : Bool := (serB 32 d.tsn && serB 32 d.pr) && ((serB 16 d.st && serB 16 d.sq) && (decide (1 ≤ (d.pl.length : Int)) && (decide ((d.pl.length : Int) ≤ 1100) && (!d.lo || d.sq == 0))))
structure Msg where
 st : Int
 pr : Int
 lo : Bool
 tx : List UInt8
 deriving DecidableEq, Inhabited
def Msg.row (m : Msg) : List PV := [.int .i64 m.st, .int .i64 m.pr, .bool m.lo, .str m.tx]
def Msg.zero : Msg := ⟨0, 0, false, []⟩
def withoutG (ps : List Dat) (h : Dat → Bool) : List Dat := ps.filter fun d => !h d
def oldB (inn : List Int) (st : Int) (d : Dat) : Bool := d.st == st && !d.lo && decide (lead d.sq (inn.getD st.toNat 0) 16 < 0)
def nextI (inn : List Int) (st sq : Int) : List Int := inn.set st.toNat ((sq + 1) % 65536)
def nextP (inn : List Int) (ps : List Dat) (st sq : Int) : List Dat := withoutG ps (oldB (nextI inn st sq) st)
def partOk (inn : List Int) (d : Dat) : Bool := d.ok && decide (d.st < inn.length) && (d.lo || decide (0 ≤ lead d.sq (inn.getD d.st.toNat 0) 16))
structure PsOk (inn : List Int) (ps : List Dat) : Prop where
 len : ps.length ≤ 80
 all : ∀ d ∈ ps, partOk inn d = true
 nodup : (ps.map Dat.tsn).Nodup
theorem dataValid_ok {F : SF} {L nx : Nat} (d : Dat) : Con Tryz.prog 195 [.agg d.row] F L nx nx (.bool d.ok) [] [] := by
 refine bdy Tryz.f195 ?_
 intro F3 hF1 hF2
 obtain ⟨tsn, st, sq, pr, fi, la, lo, pl⟩ := d
 unfold Dat.ok
 simp only [Tryz.f195, cx, Dat.row, Nat.add_zero, go_sem, meths]
 refine CallVC.pure (args2 := [_, .fs 1 ([tsn, pr].map eI)]) ⟨rfl, by simp [Wk, eI], trivial⟩ (small_ok 32 [tsn, pr] (by omega) (by omega) (by simp)) rfl ?_
 cases h1 : (serB 32 tsn && serB 32 pr) with
 | false =>
  simp only [h1, go_sem]
  exact .bool (.inr rfl) rfl rfl (by simp [UpdAll])
 | true =>
  simp only [h1, Nat.add_zero, go_sem]
  refine CallVC.pure (args2 := [_, .fs 1 ([st, sq].map eI)]) ⟨rfl, by simp [Wk, eI], trivial⟩ (small_ok 16 [st, sq] (by omega) (by omega) (by simp)) rfl ?_
  cases h2 : (serB 16 st && serB 16 sq) with
  | false =>
   simp only [h2, go_sem]
   exact .bool (.inr rfl) rfl rfl (by simp [UpdAll])
  | true =>
   cases h3 : decide (1 ≤ (pl.length : Int)) with
   | false =>
    simp only [h2, h3, Nat.add_zero, go_sem]
    exact .bool (.inr rfl) rfl rfl (by simp [UpdAll])
   | true =>
    cases h4 : decide ((pl.length : Int) ≤ 1100) with
    | false =>
     simp only [h2, h3, h4, Nat.add_zero, go_sem]
     exact .bool (.inr rfl) rfl rfl (by simp [UpdAll])
    | true =>
     cases lo with
     | false =>
      simp only [h2, h3, h4, Nat.add_zero, go_sem]
      exact .bool (.inr rfl) rfl rfl (by simp [UpdAll])
     | true =>
      simp only [h2, h3, h4, Nat.add_zero, go_sem]
      exact .bool (.inr rfl) rfl (by simp) (by simp [UpdAll])
def flD (la fi lo : Bool) : Nat → Int
 | 0 => 0
 | 1 => if la then 1 else 0
 | 2 => (if la then 1 else 0) + (if fi then 2 else 0)
 | _ => (if la then 1 else 0) + (if fi then 2 else 0) + (if lo then 4 else 0)
theorem dataWrite_ok {F : SF} {L nx : Nat} (n : Nm) (hn : n.l < L ∨ (n.l = L ∧ n.i < nx)) (tsn st sq pr : Nat) (fi la lo : Bool) (pl : List UInt8) (h1 : tsn < 256 ^ 4) (h2 : st < 256 ^ 2) (h3 : sq < 256 ^ 2) (h4 : pr < 256 ^ 4) (hp : pl ≠ []) (hpl : pl.length ≤ 1100) (hb : bldF F n 130 none []) :
  Con Tryz.prog 196 [.agg (Dat.mk tsn st sq pr fi la lo pl).row, .ptr n 0 0] F L nx (nx + 1) (.tup [.int .i64 0, .int .i64 (flD la fi lo 3)]) (bldU n 130 ⟨L, nx⟩ (putB 4 tsn ++ (putB 2 st ++ putB 2 sq) ++ putB 4 pr ++ pl)) [n] := by
 refine bdyN Tryz.f196 (hrd := (by simp; omega)) ?_
 intro F3 hF1 hF2
 have hFb : bldF F3 n 130 none [] := ⟨rfl, hb.2.imp fun p h => (hF1 n (by simp)).trans h⟩
 have n1 : ∀ k, (n = (⟨L + 1, k⟩ : Nm)) = False := nm_out (by omega)
 have n2 : ∀ k, ((⟨L + 1, k⟩ : Nm) = n) = False := nm_out' (by omega)
 simp only [Tryz.f196, cx, Dat.row, Nat.add_zero, go_sem, meths]
 obtain ⟨t1, e1⟩ : ∃ t, t = putB 4 tsn := ⟨_, rfl⟩
 obtain ⟨t2, e2⟩ : ∃ t, t = t1 ++ (putB 2 st ++ putB 2 sq) := ⟨_, rfl⟩
 obtain ⟨t3, e3⟩ : ∃ t, t = t2 ++ putB 4 pr := ⟨_, rfl⟩
 have l1 : t1.length = 4 := by rw [e1, putB_len]
 have l2 : t2.length = 8 := by rw [e2, List.length_append, List.length_append, putB_len, putB_len, l1]
 have l3 : t3.length = 12 := by rw [e3, List.length_append, putB_len, l2]
 have z1 : t1 ≠ [] := by intro h; rw [h] at l1; simp at l1
 have z2 : t2 ≠ [] := by intro h; rw [h] at l2; simp at l2
 have z3 : t3 ≠ [] := by intro h; rw [h] at l3; simp at l3
 rw [← e1, ← e2, ← e3]
 refine bput_call n (.inl (show n.l < L + 1 by omega)) none trivial [] 4 4 rfl (by omega) (by omega) [tsn] (by simpa using h1) (by simp) (by simp) ⟨L + 1, 224⟩ 1 rfl (by simp [eN]) (by intro h; rw [n1] at h; exact h) (by simp) ⟨rfl, hFb.2.imp fun p h => by simp [h, n1]⟩ t1 (by simp [e1]) ?_
 simp only [bldD, bldU, n1, n2, Nat.add_zero, go_sem]
 refine bput_call n (.inl (show n.l < L + 1 by omega)) (some ⟨L + 1, 256⟩) (.inr ⟨rfl, by simp⟩) t1 2 2 rfl (by omega) (by omega) [st, sq] (by simp; exact ⟨h2, h3⟩) (by simp) (by simp; omega) ⟨L + 1, 481⟩ 2 rfl (by simp [eN, n2]) (by intro h; rw [n1] at h; exact h) (by simp) ⟨z1, by simp [n1], by simp [n2], by simp [n2]⟩ t2 (by simp [e2]) ?_
 simp only [bldD, bldU, n1, n2, Nat.add_zero, go_sem]
 refine bput_call n (.inl (show n.l < L + 1 by omega)) (some ⟨L + 1, 513⟩) (.inr ⟨rfl, by simp⟩) t2 4 4 rfl (by omega) (by omega) [pr] (by simpa using h4) (by simp) (by simp; omega) ⟨L + 1, 642⟩ 1 rfl (by simp [eN, n2]) (by intro h; rw [n1] at h; exact h) (by simp) ⟨z2, by simp [n1], by simp [n2], by simp [n2]⟩ t3 (by simp [e3]) ?_
 simp only [bldD, bldU, n1, n2, Nat.add_zero, go_sem]
 refine ⟨by kernel_rfl, CallVC.same (writeString_ok n 130 (.inl rfl) (.inl (show n.l < L + 1 by omega)) (some ⟨L + 1, 674⟩) (.inr ⟨rfl, by simp⟩) t3 pl hp (by omega) ⟨z3, by simp [n1], by simp [n2], by simp [n2]⟩) ?_⟩
 simp only [bldD, bldU, n1, n2, Nat.add_zero, go_sem]
 refine ⟨okDyn_num (fun x => if x = n then 1 else x.i) (by simp only [numF, List.map, bldR, n2, if_true, if_false]; kernel_rfl), ?_⟩
 refine loopK.intro _ _ (I := fun i : Nat => ⟨[none, none, some (.ptr ⟨L + 1, 0⟩ 0 0), none, some (.int .i64 0), some (.int .i64 0), some (.int .i64 (flD la fi lo i)), none, none, none, none, none, none, none, none, none, none, none, none, none, none, none, none, none, none, none, none, none, none, none, none, none, none, none, none, none, none, none, none, none, none, none, none, none, none, none, some (.agg [.bool la, .bool fi, .bool lo]), some (.int .i64 i)] ++ oz 10,
  [(n, .rows 130 2 true false [[.ptr n 0 0, .sl ⟨L + 1, 867⟩ 0 (t3 ++ pl).length]]), (⟨L + 1, 867⟩, .rows 5 1 true true (List.map rowB (t3 ++ pl)))], 10000 * (i + 1)⟩) (pre := fun i => i ≤ 3) (μ := fun i => 3 - i) 0 (by omega) ?_ ?_
 ·refine Sub.of (hfz hF2) (by simp only [flD, go_sem, subT, and_self, Int.natCast_zero]) ?_ (by simp [subK, keys]) (by simp)
  simp [subH, Tx.look, n1, n2]
 ·intro i hi
  have hc : i = 0 ∨ i = 1 ∨ i = 2 ∨ i = 3 := by omega
  rcases hc with rfl | rfl | rfl | rfl
  ·have f1 : decide (((0 : Nat) : Int) < 3) = true := rfl
   cases la
   all_goals
    simp only [f1, flD, go_sem]
    repeat refine sd1 ?_
    refine ⟨1, by omega, by omega, ?_⟩
    refine Sub.of (hfz hF2) (by simp only [go_sem, subT]; first | trivial | decide | (refine ⟨?_, ?_⟩ <;> first | trivial | decide)) ?_ (by simp [subK, keys]) (by simp)
    simp [subH, Tx.look, n2]
  ·have f1 : decide (((1 : Nat) : Int) < 3) = true := rfl
   cases la <;> cases fi
   all_goals
    simp only [f1, flD, go_sem]
    repeat refine sd1 ?_
    refine ⟨2, by omega, by omega, ?_⟩
    refine Sub.of (hfz hF2) (by simp only [go_sem, subT]; first | trivial | decide | (refine ⟨?_, ?_⟩ <;> first | trivial | decide)) ?_ (by simp [subK, keys]) (by simp)
    simp [subH, Tx.look, n2]
  ·have f1 : decide (((2 : Nat) : Int) < 3) = true := rfl
   cases la <;> cases fi <;> cases lo
   all_goals
    simp only [f1, flD, go_sem]
    repeat refine sd1 ?_
    refine ⟨3, by omega, by omega, ?_⟩
    refine Sub.of (hfz hF2) (by simp only [go_sem, subT]; first | trivial | decide | (refine ⟨?_, ?_⟩ <;> first | trivial | decide)) ?_ (by simp [subK, keys]) (by simp)
    simp [subH, Tx.look, n2]
  ·have f1 : decide (((3 : Nat) : Int) < 3) = false := rfl
   simp only [f1, go_sem]
   refine .now (PostN.val [867] (.inr rfl) (by simp) (p := True) (v0 := .tup [.int .i64 0, .int .i64 (flD la fi lo 3)]) ?_ trivial ?_ ?_ ⟨by omega, ?_, Nat.le_refl _, ?_, trivial⟩ ?_)
   ·simp only [resVal, resVals, resVal1, one, go_sem]
   ·simp [nmA, nmAL]
   ·simp [Tx.rn, Tx.rnL]
   ·rw [kp_out (hn.imp id fun h => .inl h.2)]
    exact .ren (by simp [Tx.look]; rfl) (by simp [rowsNm, nmA, nmAL, Dn]; omega) (by simp [Tx.rn, Tx.rnL, sg_out (show n.l ≤ L by omega)]; simp [sg])
   ·rw [kp_at0 (by simp)]
    exact .pure (by simp [Tx.look, n2])
   ·simp [UpdAll, keys]
theorem meths186v : Meths.get meths 150 "tannoy/chunk.valid" = some 195 := by simp [Meths.get, meths]
theorem meths186w : Meths.get meths 150 "tannoy/chunk.write" = some 196 := by simp [Meths.get, meths]
def dataB (d : Dat) : List UInt8 := putB 4 d.tsn.toNat ++ (putB 2 d.st.toNat ++ putB 2 d.sq.toNat) ++ putB 4 d.pr.toNat ++ d.pl
theorem putData_ok {F : SF} {L nx : Nat} (d : Dat) : Con Tryz.prog 21 [.agg d.row] F L nx nx
   (if d.ok then .tup [.agg [.int .i64 0, .int .i64 (flD d.la d.fi d.lo 3), .str (dataB d)], .int .i64 0] else .tup [.agg [.int .i64 0, .int .i64 0, .str []], .int .i64 320]) [] [] := by
 have hva : ∀ (F : SF) (L nx : Nat), Con Tryz.prog 195 [.agg d.row] F L nx nx (.bool d.ok) [] [] := fun F L nx => dataValid_ok d
 cases hV : d.ok with
 | false =>
  rw [hV] at hva
  simp only [if_false, Bool.false_eq_true]
  refine bdy Tryz.f21 ?_
  intro F3 hF1 hF2
  simp only [Tryz.f21, cx, Dat.row, go_sem, meths]
  refine CallVC.same (putBad_ok 150 _ 195 meths186v hva) ?_
  simp only [go_sem]
  exact PostF.same (p := True) (.inr rfl) (by simp only [resVal, resVals, resVal1, one, go_sem]) trivial (by simp [Tx.nf, nfl]) (by simp [UpdAll])
 | true =>
  rw [hV] at hva
  simp only [if_true]
  have hB := hV
  unfold Dat.ok at hB
  simp only [Bool.and_eq_true, decide_eq_true_eq] at hB
  obtain ⟨⟨b1, b2⟩, ⟨b3, b4⟩, b5, b6, b7⟩ := hB
  obtain ⟨e1, c1⟩ := serB_nat b1
  obtain ⟨e2, c2⟩ := serB_nat b2
  obtain ⟨e3, c3⟩ := serB_nat b3
  obtain ⟨e4, c4⟩ := serB_nat b4
  have hpl : d.pl ≠ [] := by intro h; rw [h] at b5; simp at b5
  have hw : ∀ (F : SF) (L nx : Nat) (n : Nm), (n.l < L ∨ (n.l = L ∧ n.i < nx)) → bldF F n 130 none [] → Con Tryz.prog 196 [.agg d.row, .ptr n 0 0] F L nx (nx + 1) (.tup [.int .i64 0, .int .i64 (flD d.la d.fi d.lo 3)]) (bldU n 130 ⟨L, nx⟩ (dataB d)) [n] := by
   intro F L nx n hn hb
   have := dataWrite_ok (F := F) (L := L) (nx := nx) n hn d.tsn.toNat d.st.toNat d.sq.toNat d.pr.toNat d.fi d.la d.lo d.pl c1 c3 c4 c2 hpl (by omega) hb
   rw [← e1, ← e2, ← e3, ← e4] at this
   exact this
  refine bdy Tryz.f21 ?_
  intro F3 hF1 hF2
  simp only [Tryz.f21, cx, Dat.row, go_sem, meths]
  refine CallVC.same (putGood_ok 150 _ 195 196 meths186v meths186w hva 0 (flD d.la d.fi d.lo 3) (dataB d) ?_ ?_ hw) ?_
  ·intro h
   have := congrArg List.length h
   unfold dataB at this
   simp [putB_len] at this
  ·unfold dataB
   simp only [List.length_append, putB_len]; omega
  simp only [go_sem]
  exact PostF.same (p := True) (.inr rfl) (by simp only [resVal, resVals, resVal1, one, go_sem]) trivial (by simp [Tx.nf, nfl]) (by simp [UpdAll])
theorem nS2 {x c : Nat} (h : 0 < c) : (x + c = x) = False := by apply eq_false; omega
theorem nS2' {x c : Nat} (h : 0 < c) : (x = x + c) = False := by apply eq_false; omega
structure Str0 (out inn : List Int) (num seen : Int) (asked : List Int) : Prop where
 o1 : 1 ≤ out.length
 o2 : out.length ≤ 16
 o3 : out.all (serB 16) = true
 i1 : 1 ≤ inn.length
 i2 : inn.length ≤ 16
 i3 : inn.all (serB 16) = true
 n : [num].all (serB 32) = true
 s : seen = -1 ∨ [seen].all (serB 32) = true
 a : listedB asked out.length = true
 a2 : asked.length ≤ 1000000
theorem Dat.ok_bounds {d : Dat} (h : d.ok = true) : 0 ≤ d.tsn ∧ d.tsn < 4294967296 ∧ 0 ≤ d.st ∧ d.st < 65536 ∧ 0 ≤ d.sq ∧ d.sq < 65536 ∧ 1 ≤ d.pl.length ∧ d.pl.length ≤ 1100 := by
 have h32 : (2 : Int) ^ (Int.toNat 32) = 4294967296 := rfl
 have h16 : (2 : Int) ^ (Int.toNat 16) = 65536 := rfl
 simp only [Dat.ok, serB, Bool.and_eq_true, decide_eq_true_eq, h32, h16] at h
 omega
theorem partOk_ok {inn : List Int} {d : Dat} (h : partOk inn d = true) : d.ok = true ∧ d.st < inn.length ∧ (d.lo = true ∨ 0 ≤ lead d.sq (inn.getD d.st.toNat 0) 16) := by
 simpa only [partOk, Bool.and_eq_true, decide_eq_true_eq, Bool.or_eq_true, and_assoc] using h
def strV (out inn : List Int) (num seen : Int) (asked : List Int) (ps : List Dat) : PV := .agg [.fs 1 (out.map eI), .fs 1 (inn.map eI), .fs 8 (ps.map Dat.row), .int .i64 num, .int .i64 seen, .fs 1 (asked.map eI)]
structure DelP (inn : List Int) (ps : List Dat) : Prop where
 len : ps.length ≤ 80
 ok : ∀ d ∈ ps, d.ok = true
 st : ∀ d ∈ ps, d.st < inn.length
 nodup : (ps.map Dat.tsn).Nodup
 i3 : inn.all (serB 16) = true
 i2 : inn.length ≤ 16
theorem DelP.without {inn : List Int} {ps : List Dat} (h : DelP inn ps) (p : Dat → Bool) : DelP inn (withoutG ps p) where
 len := Nat.le_trans (List.length_filter_le _ _) h.len
 ok := fun d hd => h.ok d (List.mem_filter.1 hd).1
 st := fun d hd => h.st d (List.mem_filter.1 hd).1
 nodup := List.Nodup.sublist (List.Sublist.map _ List.filter_sublist) h.nodup
 i3 := h.i3
 i2 := h.i2
theorem nextI_ser {inn : List Int} (h : inn.all (serB 16) = true) (st sq : Int) : (nextI inn st sq).all (serB 16) = true := by
 have h16 : (2 : Int) ^ (Int.toNat 16) = 65536 := rfl
 rw [List.all_eq_true] at h ⊢
 intro x hx
 rcases List.mem_or_eq_of_mem_set hx with hx | rfl
 ·exact h x hx
 ·simp only [serB, h16, Bool.and_eq_true, decide_eq_true_eq]; omega
theorem DelP.next {inn : List Int} {ps : List Dat} (h : DelP inn ps) (st sq : Int) : DelP (nextI inn st sq) (nextP inn ps st sq) where
 len := (h.without _).len
 ok := (h.without _).ok
 st := fun d hd => by simpa [nextI] using (h.without _).st d hd
 nodup := (h.without _).nodup
 i3 := nextI_ser h.i3 st sq
 i2 := by simpa [nextI] using h.i2
theorem nextI_len (inn : List Int) (st sq : Int) : (nextI inn st sq).length = inn.length := by simp [nextI]
def kE (k : Int × Int) : List PV := [.int .i64 k.1, .int .i64 k.2]
def okSk (sk : List (Int × Int)) (i : Nat) : Bool := (serB 16 (sk.getD i (0, 0)).1 && serB 16 (sk.getD i (0, 0)).2) && (i == 0 || decide ((sk.getD (i - 1) (0, 0)).1 < (sk.getD i (0, 0)).1))
def fwdV (cum : Int) (sk : List (Int × Int)) : Bool := (List.range sk.length).all (okSk sk) && (serB 32 cum && decide (sk.length ≤ 30))
def fwdP (cum : Int) (sk : List (Int × Int)) : PV := .agg [.int .i64 cum, .fs 2 (sk.map kE)]
theorem rowK {sk : List (Int × Int)} {i : Nat} (h : i < sk.length) : (sk.map kE).getD i [] = kE (sk.getD i (0, 0)) := by simp [h, List.getD_eq_getElem?_getD]
theorem forwardValid_ok {F : SF} {L nx : Nat} (cum : Int) (sk : List (Int × Int)) (hlen : sk.length ≤ 1000000) : Con Tryz.prog 201 [fwdP cum sk] F L nx nx (.bool (fwdV cum sk)) [] [] := by
 refine bdy Tryz.f201 ?_
 intro F3 hF1 hF2
 simp only [Tryz.f201, cx, fwdP, Nat.add_zero, go_sem, meths]
 refine loopK.intro _ _ (I := fun i : Nat => ⟨[none, some (.ptr ⟨L + 1, 0⟩ 0 0), none, none, none, none, none, some (.fs 2 (sk.map kE)), some (.int .i64 sk.length), some (.int .i64 i)] ++ oz 41,
  [(⟨L + 1, 0⟩, .rows 157 2 true true [[.int .i64 cum, .fs 2 (sk.map kE)]])], 10000 * (i + 1)⟩) (pre := fun i => i ≤ sk.length ∧ ∀ j, j < i → okSk sk j = true) (μ := fun i => sk.length - i) 0 ⟨by omega, by intro j h; omega⟩ ?_ ?_
 ·refine Sub.of (hfz hF2) (by simp only [go_sem, subT, and_self, List.length_map, Int.natCast_zero]) ?_ (by simp [subK, keys]) (by simp)
  simp [subH, Tx.look]
 ·rintro i ⟨hi, hp⟩
  have no : i < sk.length → okSk sk i = false → fwdV cum sk = false := by
   intro hl h
   unfold fwdV
   rw [Bool.and_eq_false_iff]
   left
   rw [List.all_eq_false]
   exact ⟨i, by simpa using hl, by simp [h]⟩
  have yes : okSk sk i = true → ∀ j, j < i + 1 → okSk sk j = true := by
   intro h j hj
   by_cases he : j = i
   ·subst he; exact h
   ·exact hp j (by omega)
  by_cases hlt : i < sk.length
  ·have f1 : decide ((i : Int) < (sk.length : Int)) = true := dT (by omega)
   have r0 := rowK hlt
   obtain ⟨k, hk⟩ : ∃ k, k = sk.getD i (0, 0) := ⟨_, rfl⟩
   rw [← hk] at r0
   simp only [f1, r0, kE, nS2, Nat.add_assoc, List.length_map, Nat.add_zero, go_sem]
   repeat refine sd1 ?_
   refine CallVC.pure (args2 := [_, .fs 1 ([k.1, k.2].map eI)]) ⟨rfl, by simp [Wk, eI], trivial⟩ (small_ok 16 [k.1, k.2] (by omega) (by omega) (by simp)) rfl ?_
   have h12 : [k.1, k.2].all (serB 16) = (serB 16 k.1 && serB 16 k.2) := by simp
   cases h1 : serB 16 k.1 && serB 16 k.2 with
   | false =>
    rw [no hlt (by unfold okSk; rw [← hk, h1]; rfl), h12, h1]
    simp only [wkNL, wkN, Nat.add_assoc, go_sem]
    refine ⟨okDyn_num (fun x => x.i % 10000) (by simp only [numF, List.map, Nat.mul_add_mod, Nat.reduceMod]; kernel_rfl), ?_⟩
    exact .bool (.inr rfl) rfl rfl (by simp [UpdAll])
   | true =>
    rw [h12, h1]
    by_cases h3 : i = 0
    ·have f3 : decide ((0 : Int) < (i : Int)) = false := dF (by omega)
     simp only [f3, wkNL, wkN, Nat.add_assoc, go_sem]
     refine ⟨okDyn_num (fun x => x.i % 10000) (by simp only [numF, List.map, Nat.mul_add_mod, Nat.reduceMod]; kernel_rfl), ⟨by omega, by omega⟩, i + 1, ⟨by omega, yes (by unfold okSk; rw [← hk, h1, h3]; rfl)⟩, by omega, ?_⟩
     refine Sub.o hF2 ?_
     simp [subH, Tx.look]
    ·have f3 : decide ((0 : Int) < (i : Int)) = true := dT (by omega)
     have e1 : ((i : Int) - 1).toNat = i - 1 := by omega
     have r1 := rowK (sk := sk) (i := i - 1) (by omega)
     obtain ⟨k', hk'⟩ : ∃ k', k' = sk.getD (i - 1) (0, 0) := ⟨_, rfl⟩
     rw [← hk'] at r1
     have hi0 : (i == 0) = false := by simp [h3]
     cases h4 : decide (k.1 ≤ k'.1) with
     | true =>
      have h5 : decide (k'.1 < k.1) = false := dF (by simp at h4; omega)
      rw [no hlt (by unfold okSk; rw [← hk, ← hk', h1, hi0, h5]; rfl)]
      simp only [f3, e1, r1, h4, kE, wkNL, wkN, nS2', Nat.add_assoc, List.length_map, Nat.add_zero, go_sem]
      repeat refine sd1 ?_
      exact .bool (.inr rfl) rfl rfl (by simp [UpdAll])
     | false =>
      have h5 : decide (k'.1 < k.1) = true := dT (by simp at h4; omega)
      simp only [f3, e1, r1, h4, kE, wkNL, wkN, nS2', Nat.add_assoc, List.length_map, Nat.add_zero, go_sem]
      repeat refine sd1 ?_
      refine ⟨i + 1, ⟨by omega, yes (by unfold okSk; rw [← hk, ← hk', h1, hi0, h5]; rfl)⟩, by omega, ?_⟩
      refine Sub.o hF2 ?_
      simp [subH, Tx.look]
  ·have f1 : decide ((i : Int) < (sk.length : Int)) = false := dF (by omega)
   have hall : (List.range sk.length).all (okSk sk) = true := by
    rw [List.all_eq_true]
    intro j hj
    exact hp j (by have := List.mem_range.1 hj; omega)
   simp only [f1, Nat.add_assoc, Nat.add_zero, go_sem]
   refine CallVC.pure (args2 := [_, .fs 1 ([cum].map eI)]) ⟨rfl, by simp [Wk, eI], trivial⟩ (small_ok 32 [cum] (by omega) (by omega) (by simp)) rfl ?_
   have h6 : [cum].all (serB 32) = serB 32 cum := by simp
   rw [h6]
   unfold fwdV
   rw [hall]
   cases h7 : serB 32 cum with
   | false =>
    simp only [wkNL, wkN, Nat.add_assoc, go_sem]
    exact .bool (.inr rfl) rfl rfl (by simp [UpdAll])
   | true =>
    simp only [wkNL, wkN, Nat.add_assoc, List.length_map, Nat.add_zero, go_sem]
    exact .bool (.inr rfl) rfl (by simp; omega) (by simp [UpdAll])
def kN (k : Nat × Nat) : Int × Int := (k.1, k.2)
def fwdT (cum : Nat) (sk : List (Nat × Nat)) : List UInt8 := putB 4 cum ++ sk.flatMap fun k => putB 2 k.1 ++ putB 2 k.2
theorem skT_len : ∀ sk : List (Nat × Nat), (sk.flatMap fun k => putB 2 k.1 ++ putB 2 k.2).length = 4 * sk.length
 | [] => rfl
 | k :: l => by
  simp only [List.flatMap_cons, List.length_append, putB_len, List.length_cons, skT_len l]; omega
theorem forwardWrite_ok {F : SF} {L nx : Nat} (n : Nm) (hn : n.l < L ∨ (n.l = L ∧ n.i < nx)) (cum : Nat) (sk : List (Nat × Nat)) (h1 : cum < 256 ^ 4) (h2 : ∀ k ∈ sk, k.1 < 256 ^ 2 ∧ k.2 < 256 ^ 2) (hlen : sk.length ≤ 30) (hb : bldF F n 130 none []) :
  Con Tryz.prog 202 [fwdP cum (sk.map kN), .ptr n 0 0] F L nx (nx + 1) (.tup [.int .i64 192, .int .i64 0]) (bldU n 130 ⟨L, nx⟩ (fwdT cum sk)) [n] := by
 refine bdyN Tryz.f202 (hrd := (by simp; omega)) ?_
 intro F3 hF1 hF2
 have hFb : bldF F3 n 130 none [] := ⟨rfl, hb.2.imp fun p h => (hF1 n (by simp)).trans h⟩
 have n1 : ∀ k, (n = (⟨L + 1, k⟩ : Nm)) = False := nm_out (by omega)
 have n2 : ∀ k, ((⟨L + 1, k⟩ : Nm) = n) = False := nm_out' (by omega)
 simp only [Tryz.f202, cx, fwdP, Nat.add_zero, go_sem, meths]
 have l1 : (putB 4 cum).length = 4 := putB_len _ _
 have z1 : putB 4 cum ≠ [] := by intro h; rw [h] at l1; simp at l1
 refine bput_call n (.inl (show n.l < L + 1 by omega)) none trivial [] 4 4 rfl (by omega) (by omega) [cum] (by simpa using h1) (by simp) (by simp) ⟨L + 1, 224⟩ 1 rfl (by simp [eN]) (by intro h; rw [n1] at h; exact h) (by simp) ⟨rfl, hFb.2.imp fun p h => by simp [h, n1]⟩ (putB 4 cum) (by simp) ?_
 simp only [bldD, bldU, n1, n2, List.length_map, Nat.add_zero, go_sem]
 refine loopK.intro _ _ (I := fun z : Nat × Nat => ⟨[none, some (.ptr n 0 0), none, none, some (.int .i64 0), some (.int .i64 0), none, none, none, none, none, none, none, none, none, none, some (.fs 2 ((sk.map kN).map kE)), some (.int .i64 sk.length), some (.int .i64 z.1)] ++ oz 11,
  bldU n 130 ⟨L + 1, z.2⟩ (fwdT cum (sk.take z.1)), 10000 * (z.1 + 1)⟩) (pre := fun z => z.1 ≤ sk.length ∧ z.2 < 10000 * (z.1 + 1)) (μ := fun z => sk.length - z.1) (0, 256) ⟨by simp, by simp⟩ ?_ ?_
 ·refine Sub.of (hfz hF2) (by simp only [go_sem, subT, and_self, Int.natCast_zero]) ?_ (by simp [subK, keys, bldU]) (by simp)
  simp [subH, Tx.look, bldU, fwdT, n1, n2]
 ·rintro ⟨i, q⟩ ⟨hi, hq⟩
  simp only at hi hq ⊢
  obtain ⟨t, ht⟩ : ∃ t, t = fwdT cum (sk.take i) := ⟨_, rfl⟩
  rw [← ht]
  have htl : t.length = 4 + 4 * i := by rw [ht]; unfold fwdT; rw [List.length_append, skT_len, putB_len, List.length_take]; omega
  have htz : t ≠ [] := by intro h; rw [h] at htl; simp at htl; omega
  have q1 : ∀ c, (10000 * (i + 1) + c = q) = False := fun c => by apply eq_false; omega
  have q2 : ∀ c, (q = 10000 * (i + 1) + c) = False := fun c => by apply eq_false; omega
  by_cases hlt : i < sk.length
  ·have f1 : decide ((i : Int) < (sk.length : Int)) = true := dT (by omega)
   have r0 := rowK (sk := sk.map kN) (i := i) (by simpa using hlt)
   obtain ⟨k, hk⟩ : ∃ k, k = sk[i] := ⟨_, rfl⟩
   have e0 : (sk.map kN).getD i (0, 0) = kN k := by rw [hk]; simp [hlt, List.getD_eq_getElem?_getD]
   rw [e0] at r0
   have hkb := h2 k (by rw [hk]; exact List.getElem_mem hlt)
   simp only [f1, r0, kE, kN, bldU, n2, q1, nS2, Nat.add_assoc, List.length_map, Nat.add_zero, go_sem]
   repeat refine sd1 ?_
   have ht2 : t ++ (putB 2 k.1 ++ putB 2 k.2) = fwdT cum (sk.take (i + 1)) := by
    rw [ht]; unfold fwdT
    rw [List.take_succ_eq_append_getElem hlt, List.flatMap_append, ← hk, ← List.append_assoc]; simp
   refine bput_call n (.inl (show n.l < L + 1 by omega)) (some ⟨L + 1, q⟩) (.inr ⟨rfl, by simp only []; omega⟩) t 2 2 rfl (by omega) (by omega) [k.1, k.2] (by simp; exact hkb) (by simp) (by simp; omega) ⟨L + 1, 10000 * (i + 1) + 320⟩ 2 rfl (by simp [eN, n2, q1]) (by intro h; rw [n1] at h; exact h) (by simp [q2]) ⟨htz, by simp [n1], by simp [n2], by simp [n2]⟩ (fwdT cum (sk.take (i + 1))) (by rw [← ht2]; simp) ?_
   simp only [bldD, bldU, n1, n2, q1, q2, nS2, Nat.add_assoc, go_sem]
   repeat refine sd1 ?_
   refine ⟨(i + 1, 10000 * (i + 1) + 352), ⟨by simp only []; omega, by simp only []; omega⟩, by simp only []; omega, ?_⟩
   refine Sub.o hF2 ?_
   simp [subH, Tx.look, n2, q1]
  ·have f1 : decide ((i : Int) < (sk.length : Int)) = false := dF (by omega)
   have e : i = sk.length := by omega
   subst e
   rw [List.take_of_length_le (Nat.le_refl _)] at ht
   rw [← ht]
   simp only [f1, bldU, Nat.add_assoc, go_sem]
   refine .now (PostN.val [q] (.inr rfl) (by simp) (p := True) (v0 := .tup [.int .i64 192, .int .i64 0]) ?_ trivial ?_ ?_ ⟨by omega, ?_, Nat.le_refl _, ?_, trivial⟩ ?_)
   ·simp only [resVal, resVals, resVal1, one, go_sem]
   ·simp [nmA, nmAL]
   ·simp [Tx.rn, Tx.rnL]
   ·rw [kp_out (hn.imp id fun h => .inl h.2)]
    exact .ren (by simp [Tx.look]; rfl) (by simp [rowsNm, nmA, nmAL, Dn]; omega) (by simp [Tx.rn, Tx.rnL, sg_out (show n.l ≤ L by omega)]; simp [sg])
   ·rw [kp_at0 (by simp)]
    exact .pure (by simp [Tx.look, n2])
   ·simp [UpdAll, keys]
theorem meths164v : Meths.get meths 157 "tannoy/chunk.valid" = some 201 := by simp [Meths.get, meths]
theorem meths164w : Meths.get meths 157 "tannoy/chunk.write" = some 202 := by simp [Meths.get, meths]
theorem fwdV_all {cum : Int} {sk : List (Int × Int)} (h : fwdV cum sk = true) : (∀ k ∈ sk, serB 16 k.1 = true ∧ serB 16 k.2 = true) ∧ serB 32 cum = true ∧ sk.length ≤ 30 := by
 unfold fwdV at h
 simp only [Bool.and_eq_true, decide_eq_true_eq] at h
 refine ⟨fun k hk => ?_, h.2.1, h.2.2⟩
 obtain ⟨i, hi, rfl⟩ := List.getElem_of_mem hk
 have := List.all_eq_true.1 h.1 i (by simpa using hi)
 unfold okSk at this
 simp only [Bool.and_eq_true] at this
 simpa [List.getD_eq_getElem?_getD, hi] using this.1
theorem putForward_ok {F : SF} {L nx : Nat} (cum : Int) (sk : List (Int × Int)) (hlen : sk.length ≤ 1000000) : Con Tryz.prog 34 [fwdP cum sk] F L nx nx
   (if fwdV cum sk then .tup [.agg [.int .i64 192, .int .i64 0, .str (fwdT cum.toNat (sk.map fun k => (k.1.toNat, k.2.toNat)))], .int .i64 0] else .tup [.agg [.int .i64 0, .int .i64 0, .str []], .int .i64 320]) [] [] := by
 have hva : ∀ (F : SF) (L nx : Nat), Con Tryz.prog 201 [fwdP cum sk] F L nx nx (.bool (fwdV cum sk)) [] [] := fun F L nx => forwardValid_ok cum sk hlen
 cases hV : fwdV cum sk with
 | false =>
  rw [hV] at hva
  simp only [if_false, Bool.false_eq_true]
  refine bdy Tryz.f34 ?_
  intro F3 hF1 hF2
  simp only [Tryz.f34, cx, fwdP, go_sem, meths]
  refine CallVC.same (putBad_ok 157 _ 201 meths164v hva) ?_
  simp only [go_sem]
  exact PostF.same (p := True) (.inr rfl) (by simp only [resVal, resVals, resVal1, one, go_sem]) trivial (by simp [Tx.nf, nfl]) (by simp [UpdAll])
 | true =>
  rw [hV] at hva
  simp only [if_true]
  obtain ⟨b1, b2, b3⟩ := fwdV_all hV
  obtain ⟨e1, c1⟩ := serB_nat b2
  obtain ⟨sn, hsn⟩ : ∃ sn, sn = sk.map fun k => (k.1.toNat, k.2.toNat) := ⟨_, rfl⟩
  have hsk : sn.map kN = sk := by
   rw [hsn, List.map_map]
   conv => rhs; rw [← List.map_id sk]
   apply List.map_congr_left
   intro k hk
   obtain ⟨d1, d2⟩ := b1 k hk
   simp only [Function.comp, kN, id]
   rw [← (serB_nat d1).1, ← (serB_nat d2).1]
  have hsb : ∀ k ∈ sn, k.1 < 256 ^ 2 ∧ k.2 < 256 ^ 2 := by
   intro k hk
   rw [hsn] at hk
   obtain ⟨y, hy, rfl⟩ := List.mem_map.1 hk
   obtain ⟨d1, d2⟩ := b1 y hy
   exact ⟨(serB_nat d1).2, (serB_nat d2).2⟩
  have hsl : sn.length ≤ 30 := by rw [hsn, List.length_map]; exact b3
  rw [← hsn]
  have hw : ∀ (F : SF) (L nx : Nat) (n : Nm), (n.l < L ∨ (n.l = L ∧ n.i < nx)) → bldF F n 130 none [] → Con Tryz.prog 202 [fwdP cum sk, .ptr n 0 0] F L nx (nx + 1) (.tup [.int .i64 192, .int .i64 0]) (bldU n 130 ⟨L, nx⟩ (fwdT cum.toNat sn)) [n] := by
   intro F L nx n hn hb
   have := forwardWrite_ok (F := F) (L := L) (nx := nx) n hn cum.toNat sn c1 hsb hsl hb
   rw [hsk, ← e1] at this
   exact this
  refine bdy Tryz.f34 ?_
  intro F3 hF1 hF2
  simp only [Tryz.f34, cx, fwdP, go_sem, meths]
  refine CallVC.same (putGood_ok 157 _ 201 202 meths164v meths164w hva 192 0 (fwdT cum.toNat sn) ?_ ?_ hw) ?_
  ·intro h
   have := congrArg List.length h
   unfold fwdT at this
   simp [putB_len] at this
  ·unfold fwdT
   rw [List.length_append, skT_len, putB_len]; omega
  simp only [go_sem]
  exact PostF.same (p := True) (.inr rfl) (by simp only [resVal, resVals, resVal1, one, go_sem]) trivial (by simp [Tx.nf, nfl]) (by simp [UpdAll])
def befG (gs : List (Int × Int)) (i : Nat) : Int := if i = 0 then 0 else (gs.getD (i - 1) (0, 0)).2
def okGp (gs : List (Int × Int)) (i : Nat) : Bool := decide (befG gs i + 2 ≤ (gs.getD i (0, 0)).1) && (decide ((gs.getD i (0, 0)).1 ≤ (gs.getD i (0, 0)).2) && decide ((gs.getD i (0, 0)).2 ≤ 65535))
def sackV (cum win : Int) (gs : List (Int × Int)) (ds : List Int) : Bool :=
 (List.range gs.length).all (okGp gs) && ((serB 32 cum && serB 32 win) && (decide (gs.length ≤ 30) && (decide (ds.length ≤ 20) && ds.all (serB 32))))
def sackP (cum win : Int) (gs : List (Int × Int)) (ds : List Int) : PV := .agg [.int .i64 cum, .int .i64 win, .fs 2 (gs.map kE), .fs 1 (ds.map eI)]
theorem sackValid_ok {F : SF} {L nx : Nat} (cum win : Int) (gs : List (Int × Int)) (ds : List Int) (hlen : gs.length ≤ 1000000) (hdl : ds.length ≤ 1000000) : Con Tryz.prog 197 [sackP cum win gs ds] F L nx nx (.bool (sackV cum win gs ds)) [] [] := by
 refine bdy Tryz.f197 ?_
 intro F3 hF1 hF2
 simp only [Tryz.f197, cx, sackP, Nat.add_zero, go_sem, meths]
 refine loopK.intro _ _ (I := fun i : Nat => ⟨[none, some (.ptr ⟨L + 1, 0⟩ 0 0), none, some (.int .i64 (befG gs i)), none, none, none, none, some (.fs 2 (gs.map kE)), some (.int .i64 gs.length), some (.int .i64 i)] ++ oz 51,
  [(⟨L + 1, 0⟩, .rows 153 4 true true [[.int .i64 cum, .int .i64 win, .fs 2 (gs.map kE), .fs 1 (ds.map eI)]])], 10000 * (i + 1)⟩) (pre := fun i => i ≤ gs.length ∧ ∀ j, j < i → okGp gs j = true) (μ := fun i => gs.length - i) 0 ⟨by omega, by intro j h; omega⟩ ?_ ?_
 ·refine Sub.of (hfz hF2) (by simp only [befG, if_true, go_sem, subT, and_self, List.length_map, Int.natCast_zero]) ?_ (by simp [subK, keys]) (by simp)
  simp [subH, Tx.look]
 ·rintro i ⟨hi, hp⟩
  have no : i < gs.length → okGp gs i = false → sackV cum win gs ds = false := by
   intro hl h
   unfold sackV
   rw [Bool.and_eq_false_iff]
   left
   rw [List.all_eq_false]
   exact ⟨i, by simpa using hl, by simp [h]⟩
  have yes : okGp gs i = true → ∀ j, j < i + 1 → okGp gs j = true := by
   intro h j hj
   by_cases he : j = i
   ·subst he; exact h
   ·exact hp j (by omega)
  have hbef : 0 ≤ befG gs i ∧ befG gs i ≤ 65535 := by
   have aux : ∀ j, j ≤ i → 0 ≤ befG gs j ∧ befG gs j ≤ 65535 := by
    intro j
    induction j with
    | zero => intro _; simp [befG]
    | succ j ih =>
     intro hj
     have h1 := ih (by omega)
     have h2 := hp j (by omega)
     unfold okGp at h2
     simp only [Bool.and_eq_true, decide_eq_true_eq] at h2
     simp only [befG, Nat.succ_ne_zero, if_false, Nat.add_sub_cancel] at *
     omega
   exact aux i (Nat.le_refl _)
  by_cases hlt : i < gs.length
  ·have f1 : decide ((i : Int) < (gs.length : Int)) = true := dT (by omega)
   have r0 := rowK hlt
   have hnext : befG gs (i + 1) = (gs.getD i (0, 0)).2 := by simp [befG]
   obtain ⟨k, hk⟩ : ∃ k, k = gs.getD i (0, 0) := ⟨_, rfl⟩
   rw [← hk] at r0 hnext
   cases h2 : decide (k.1 < befG gs i + 2) with
   | true =>
    rw [no hlt (by unfold okGp; rw [← hk, dF (by simp at h2; omega)]; rfl)]
    simp only [f1, r0, h2, kE, kS2, Nat.add_assoc, List.length_map, Nat.add_zero, go_sem]
    repeat refine sd1 ?_
    exact .bool (.inr rfl) rfl rfl (by simp [UpdAll])
   | false =>
    cases h3 : decide (k.2 < k.1) with
    | true =>
     rw [no hlt (by unfold okGp; rw [← hk, dT (by simp at h2; omega), dF (by simp at h3; omega)]; rfl)]
     simp only [f1, r0, h2, h3, kE, kS2, Nat.add_assoc, List.length_map, Nat.add_zero, go_sem]
     repeat refine sd1 ?_
     exact .bool (.inr rfl) rfl rfl (by simp [UpdAll])
    | false =>
     cases h4 : decide (65535 < k.2) with
     | true =>
      rw [no hlt (by unfold okGp; rw [← hk, dT (by simp at h2; omega), dT (by simp at h3; omega), dF (by simp at h4; omega)]; rfl)]
      simp only [f1, r0, h2, h3, h4, kE, kS2, Nat.add_assoc, List.length_map, Nat.add_zero, go_sem]
      repeat refine sd1 ?_
      exact .bool (.inr rfl) rfl rfl (by simp [UpdAll])
     | false =>
      simp only [f1, r0, h2, h3, h4, kE, kS2, Nat.add_assoc, List.length_map, Nat.add_zero, go_sem]
      repeat refine sd1 ?_
      refine ⟨i + 1, ⟨by omega, yes (by unfold okGp; rw [← hk, dT (by simp at h2; omega), dT (by simp at h3; omega), dT (by simp at h4; omega)]; rfl)⟩, by omega, ?_⟩
      refine Sub.of (hfz hF2) (by simp only [hnext, go_sem, subT, and_self, Int.natCast_succ]) ?_ (by simp [subK, keys]) (by simp only []; omega)
      simp [subH, Tx.look]
  ·have f1 : decide ((i : Int) < (gs.length : Int)) = false := dF (by omega)
   have hall : (List.range gs.length).all (okGp gs) = true := by
    rw [List.all_eq_true]
    intro j hj
    exact hp j (by have := List.mem_range.1 hj; omega)
   simp only [f1, kS2, Nat.add_assoc, Nat.add_zero, go_sem]
   refine CallVC.pure (args2 := [_, .fs 1 ([cum, win].map eI)]) ⟨rfl, by simp [Wk, eI], trivial⟩ (small_ok 32 [cum, win] (by omega) (by omega) (by simp)) rfl ?_
   have h6 : [cum, win].all (serB 32) = (serB 32 cum && serB 32 win) := by simp
   rw [h6]
   unfold sackV
   rw [hall]
   cases h7 : (serB 32 cum && serB 32 win) with
   | false =>
    simp only [wkNL, wkN, Nat.add_assoc, go_sem]
    exact .bool (.inr rfl) rfl rfl (by simp [UpdAll])
   | true =>
    cases h8 : decide ((gs.length : Int) ≤ 30) with
    | false =>
     have h8' : decide (gs.length ≤ 30) = false := dF (by simp at h8; omega)
     rw [h8']
     simp only [h8, wkNL, wkN, kS2', Nat.add_assoc, List.length_map, Nat.add_zero, go_sem]
     exact .bool (.inr rfl) rfl rfl (by simp [UpdAll])
    | true =>
     have h8' : decide (gs.length ≤ 30) = true := dT (by simp at h8; omega)
     rw [h8']
     cases h9 : decide ((ds.length : Int) ≤ 20) with
     | false =>
      have h9' : decide (ds.length ≤ 20) = false := dF (by simp at h9; omega)
      rw [h9']
      simp only [h8, h9, wkNL, wkN, kS2', Nat.add_assoc, List.length_map, Nat.add_zero, go_sem]
      exact .bool (.inr rfl) rfl rfl (by simp [UpdAll])
     | true =>
      have h9' : decide (ds.length ≤ 20) = true := dT (by simp at h9; omega)
      rw [h9']
      simp only [h8, h9, wkNL, wkN, kS2', Nat.add_assoc, List.length_map, Nat.add_zero, go_sem]
      refine CallVC.sameP (small_ok 32 ds (by omega) (by omega) hdl) rfl ?_
      simp only [Nat.add_assoc, go_sem]
      exact .bool (.inr rfl) rfl rfl (by simp [UpdAll])
theorem bputE_ok {F : SF} {L nx : Nat} (n : Nm) (k : Int) : Con Tryz.prog 64 [.ptr n 0 0, .int .i64 k, .fs 1 (([] : List Nat).map eN)] F L nx nx (.tup []) [] [] := by
 refine bdy Tryz.f64 ?_
 intro F3 hF1 hF2
 simp only [Tryz.f64, cx, go_sem, meths]
 refine loopK.unit ?_
 have f1 : decide ((0 : Int) < 0) = false := rfl
 simp only [f1, Int.natCast_zero, go_sem]
 exact PostF.of (p := True) (v0 := .tup []) (.inl rfl) (by simp only [resVal, resVals, one, go_sem]) trivial (by simp [Wk, WkL]) (by simp [wkN, wkNL]) (by simp [Tx.nf, nfl]) trivial (by simp [UpdAll])
def sackT (cum win : Nat) (gs : List (Nat × Nat)) (ds : List Nat) : List UInt8 :=
 (putB 4 cum ++ putB 4 win) ++ (putB 2 gs.length ++ putB 2 ds.length) ++ (gs.flatMap fun k => putB 2 k.1 ++ putB 2 k.2) ++ ds.flatMap (putB 4)
theorem sackWrite_ok {F : SF} {L nx : Nat} (n : Nm) (hn : n.l < L ∨ (n.l = L ∧ n.i < nx)) (cum win : Nat) (gs : List (Nat × Nat)) (ds : List Nat) (h1 : cum < 256 ^ 4) (h1w : win < 256 ^ 4) (h2 : ∀ k ∈ gs, k.1 < 256 ^ 2 ∧ k.2 < 256 ^ 2) (h3 : ∀ x ∈ ds, x < 256 ^ 4) (hlen : gs.length ≤ 30) (hdl : ds.length ≤ 20) (hb : bldF F n 130 none []) :
  Con Tryz.prog 198 [sackP cum win (gs.map kN) (ds.map fun x : Nat => (x : Int)), .ptr n 0 0] F L nx (nx + 1) (.tup [.int .i64 3, .int .i64 0]) (bldU n 130 ⟨L, nx⟩ (sackT cum win gs ds)) [n] := by
 refine bdyN Tryz.f198 (hrd := (by simp; omega)) ?_
 intro F3 hF1 hF2
 have hFb : bldF F3 n 130 none [] := ⟨rfl, hb.2.imp fun p h => (hF1 n (by simp)).trans h⟩
 have n1 : ∀ k, (n = (⟨L + 1, k⟩ : Nm)) = False := nm_out (by omega)
 have n2 : ∀ k, ((⟨L + 1, k⟩ : Nm) = n) = False := nm_out' (by omega)
 have hds : (ds.map fun x : Nat => (x : Int)).map eI = ds.map eN := by simp [eI, eN]
 simp only [Tryz.f198, cx, sackP, hds, Nat.add_zero, go_sem, meths]
 obtain ⟨t1, e1⟩ : ∃ t, t = putB 4 cum ++ putB 4 win := ⟨_, rfl⟩
 obtain ⟨t2, e2⟩ : ∃ t, t = t1 ++ (putB 2 gs.length ++ putB 2 ds.length) := ⟨_, rfl⟩
 have l1 : t1.length = 8 := by rw [e1, List.length_append, putB_len, putB_len]
 have l2 : t2.length = 12 := by rw [e2, List.length_append, List.length_append, putB_len, putB_len, l1]
 have z1 : t1 ≠ [] := by intro h; rw [h] at l1; simp at l1
 have z2 : t2 ≠ [] := by intro h; rw [h] at l2; simp at l2
 refine bput_call n (.inl (show n.l < L + 1 by omega)) none trivial [] 4 4 rfl (by omega) (by omega) [cum, win] (by simp; exact ⟨h1, h1w⟩) (by simp) (by simp) ⟨L + 1, 320⟩ 2 rfl (by simp [eN]) (by intro h; rw [n1] at h; exact h) (by simp) ⟨rfl, hFb.2.imp fun p h => by simp [h, n1]⟩ t1 (by simp [e1]) ?_
 simp only [bldD, bldU, n1, n2, List.length_map, Nat.add_zero, go_sem]
 refine bput_call n (.inl (show n.l < L + 1 by omega)) (some ⟨L + 1, 352⟩) (.inr ⟨rfl, by simp⟩) t1 2 2 rfl (by omega) (by omega) [gs.length, ds.length] (by simp; omega) (by simp) (by simp; omega) ⟨L + 1, 641⟩ 2 rfl (by simp [eN, n2]) (by intro h; rw [n1] at h; exact h) (by simp) ⟨z1, by simp [n1], by simp [n2], by simp [n2]⟩ t2 (by simp [e2]) ?_
 simp only [bldD, bldU, n1, n2, List.length_map, Nat.add_zero, go_sem]
 refine loopK.intro _ _ (I := fun z : Nat × Nat => ⟨[none, some (.ptr n 0 0), some (.ptr ⟨L + 1, 0⟩ 0 0), none, none, none, none, none, none, none, none, none, none, none, none, none, none, none, none, none, none, none, none, none, none, none, none, none, none, none, some (.fs 2 ((gs.map kN).map kE)), some (.int .i64 gs.length), some (.int .i64 z.1)] ++ oz 16,
  (⟨L + 1, 0⟩, .rows 153 4 true true [[.int .i64 cum, .int .i64 win, .fs 2 ((gs.map kN).map kE), .fs 1 (ds.map eN)]]) :: bldU n 130 ⟨L + 1, z.2⟩ (t2 ++ (gs.take z.1).flatMap fun k => putB 2 k.1 ++ putB 2 k.2), 10000 * (z.1 + 1)⟩) (pre := fun z => z.1 ≤ gs.length ∧ z.2 < 10000 * (z.1 + 1) ∧ 0 < z.2) (μ := fun z => gs.length - z.1) (0, 673) ⟨by simp, by simp, by simp⟩ ?_ ?_
 ·refine Sub.of (hfz hF2) (by simp only [go_sem, subT, and_self, Int.natCast_zero]) ?_ (by simp [subK, keys, bldU]) (by simp)
  simp [subH, Tx.look, bldU, n1, n2]
 ·rintro ⟨i, q⟩ ⟨hi, hq, hq0⟩
  simp only at hi hq hq0 ⊢
  obtain ⟨t, ht⟩ : ∃ t, t = t2 ++ (gs.take i).flatMap fun k => putB 2 k.1 ++ putB 2 k.2 := ⟨_, rfl⟩
  rw [← ht]
  have htl : t.length = 12 + 4 * i := by rw [ht, List.length_append, skT_len, l2, List.length_take]; omega
  have htz : t ≠ [] := by intro h; rw [h] at htl; simp at htl; omega
  have q1 : ∀ c, (10000 * (i + 1) + c = q) = False := fun c => by apply eq_false; omega
  have q2 : ∀ c, (q = 10000 * (i + 1) + c) = False := fun c => by apply eq_false; omega
  have q3 : (q = 0) = False := by apply eq_false; omega
  have q4 : (0 = q) = False := by apply eq_false; omega
  have q5 : (10000 * (i + 1) = q) = False := by apply eq_false; omega
  have q6 : (q = 10000 * (i + 1)) = False := by apply eq_false; omega
  by_cases hlt : i < gs.length
  ·have f1 : decide ((i : Int) < (gs.length : Int)) = true := dT (by omega)
   have r0 := rowK (sk := gs.map kN) (i := i) (by simpa using hlt)
   obtain ⟨k, hk⟩ : ∃ k, k = gs[i] := ⟨_, rfl⟩
   have e0 : (gs.map kN).getD i (0, 0) = kN k := by rw [hk]; simp [hlt, List.getD_eq_getElem?_getD]
   rw [e0] at r0
   have hkb := h2 k (by rw [hk]; exact List.getElem_mem hlt)
   simp only [f1, r0, kE, kN, bldU, n2, q1, kS2, kS3, Nat.add_assoc, List.length_map, Nat.add_zero, go_sem]
   repeat refine sd1 ?_
   have ht2 : t ++ (putB 2 k.1 ++ putB 2 k.2) = t2 ++ (gs.take (i + 1)).flatMap fun k => putB 2 k.1 ++ putB 2 k.2 := by
    rw [ht, List.take_succ_eq_append_getElem hlt, List.flatMap_append, ← hk, ← List.append_assoc]; simp
   refine bput_call n (.inl (show n.l < L + 1 by omega)) (some ⟨L + 1, q⟩) (.inr ⟨rfl, by simp only []; omega⟩) t 2 2 rfl (by omega) (by omega) [k.1, k.2] (by simp; exact hkb) (by simp) (by simp; omega) ⟨L + 1, 10000 * (i + 1) + 320⟩ 2 rfl (by simp [eN, n2, q1]) (by intro h; rw [n1] at h; exact h) (by simp [q2]) ⟨htz, by simp [n1], by simp [n2, q3], by simp [n2]⟩ (t2 ++ (gs.take (i + 1)).flatMap fun k => putB 2 k.1 ++ putB 2 k.2) (by rw [← ht2]; simp) ?_
   simp only [bldD, bldU, n1, n2, q1, q2, q3, kS2, kS3, Nat.add_assoc, go_sem]
   repeat refine sd1 ?_
   refine ⟨(i + 1, 10000 * (i + 1) + 352), ⟨by simp only []; omega, by simp only []; omega, by simp only []; omega⟩, by simp only []; omega, ?_⟩
   refine Sub.o hF2 ?_
   simp [subH, Tx.look, n1, n2, q1]
  ·have f1 : decide ((i : Int) < (gs.length : Int)) = false := dF (by omega)
   have e : i = gs.length := by omega
   subst e
   simp only [f1, bldU, n2, q4, Nat.add_assoc, Nat.add_zero, go_sem]
   have htT : t ++ ds.flatMap (putB 4) = sackT cum win gs ds := by
    rw [ht, List.take_of_length_le (Nat.le_refl _), e2, e1]; rfl
   by_cases hd0 : ds = []
   ·subst hd0
    simp only [List.flatMap_nil, List.append_nil] at htT
    rw [← htT]
    refine CallVC.same (bputE_ok n 4) ?_
    simp only [Nat.add_assoc, go_sem]
    refine .now (PostN.val [q] (.inr rfl) (by simp) (p := True) (v0 := .tup [.int .i64 3, .int .i64 0]) ?_ trivial ?_ ?_ ⟨by omega, ?_, Nat.le_refl _, ?_, trivial⟩ ?_)
    ·simp only [resVal, resVals, resVal1, one, go_sem]
    ·simp [nmA, nmAL]
    ·simp [Tx.rn, Tx.rnL]
    ·rw [kp_out (hn.imp id fun h => .inl h.2)]
     exact .ren (by simp [Tx.look, n1]; rfl) (by simp [rowsNm, nmA, nmAL, Dn]; omega) (by simp [Tx.rn, Tx.rnL, sg_out (show n.l ≤ L by omega)]; simp [sg])
    ·rw [kp_at0 (by simp)]
     exact .pure (by simp [Tx.look, n2, q3])
    ·simp [UpdAll, keys]
   ·refine CallVC.same (bput_ok n (.inl (show n.l < L + 1 by omega)) (some ⟨L + 1, q⟩) (.inr ⟨rfl, by simp only []; omega⟩) t 4 (by omega) (by omega) ds h3 hd0 (by omega) ⟨htz, by simp [n1], by simp [n2, q3], by simp [n2]⟩) ?_
    rw [htT]
    simp only [bldD, bldU, n1, n2, q1, q3, kS2, Nat.add_assoc, go_sem]
    refine .now (PostN.val [10000 * (gs.length + 1) + 160] (.inr rfl) (by simp) (p := True) (v0 := .tup [.int .i64 3, .int .i64 0]) ?_ trivial ?_ ?_ ⟨by omega, ?_, Nat.le_refl _, ?_, trivial⟩ ?_)
    ·simp only [resVal, resVals, resVal1, one, go_sem]
    ·simp [nmA, nmAL]
    ·simp [Tx.rn, Tx.rnL]
    ·rw [kp_out (hn.imp id fun h => .inl h.2)]
     exact .ren (by simp [Tx.look, n1]; rfl) (by simp [rowsNm, nmA, nmAL, Dn]; omega) (by simp [Tx.rn, Tx.rnL, sg_out (show n.l ≤ L by omega)]; simp [sg])
    ·rw [kp_at0 (by simp)]
     exact .pure (by simp [Tx.look, n2, q1])
    ·simp [UpdAll, keys]
theorem methsSv : Meths.get meths 153 "tannoy/chunk.valid" = some 197 := by simp [Meths.get, meths]
theorem methsSw : Meths.get meths 153 "tannoy/chunk.write" = some 198 := by simp [Meths.get, meths]
theorem sackV_all {cum win : Int} {gs : List (Int × Int)} {ds : List Int} (h : sackV cum win gs ds = true) : (∀ k ∈ gs, (0 ≤ k.1 ∧ k.1 < 65536) ∧ (0 ≤ k.2 ∧ k.2 < 65536)) ∧ serB 32 cum = true ∧ serB 32 win = true ∧ gs.length ≤ 30 ∧ ds.length ≤ 20 ∧ ∀ x ∈ ds, serB 32 x = true := by
 unfold sackV at h
 simp only [Bool.and_eq_true, decide_eq_true_eq] at h
 obtain ⟨h1, ⟨h2, h3⟩, h4, h5, h6⟩ := h
 rw [List.all_eq_true] at h1 h6
 have ok : ∀ j, j < gs.length → befG gs j + 2 ≤ (gs.getD j (0, 0)).1 ∧ (gs.getD j (0, 0)).1 ≤ (gs.getD j (0, 0)).2 ∧ (gs.getD j (0, 0)).2 ≤ 65535 := by
  intro j hj
  have := h1 j (by simpa using hj)
  unfold okGp at this
  simpa only [Bool.and_eq_true, decide_eq_true_eq] using this
 have bef : ∀ j, j ≤ gs.length → 0 ≤ befG gs j := by
  intro j
  induction j with
  | zero => intro _; simp [befG]
  | succ j ih =>
   intro hj
   have h7 := ih (by omega)
   have h8 := ok j (by omega)
   have h9 : befG gs (j + 1) = (gs.getD j (0, 0)).2 := by simp [befG]
   omega
 refine ⟨fun k hk => ?_, h2, h3, h4, h5, h6⟩
 obtain ⟨j, hj, rfl⟩ := List.getElem_of_mem hk
 have h8 := ok j hj
 have h9 := bef j (by omega)
 have e : gs.getD j (0, 0) = gs[j] := by simp [hj, List.getD_eq_getElem?_getD]
 rw [e] at h8
 omega
def sackO (cum win : Int) (gs : List (Int × Int)) (ds : List Int) : List UInt8 := sackT cum.toNat win.toNat (gs.map fun k => (k.1.toNat, k.2.toNat)) (ds.map Int.toNat)
theorem putSack_ok {F : SF} {L nx : Nat} (cum win : Int) (gs : List (Int × Int)) (ds : List Int) (hlen : gs.length ≤ 1000000) (hdl : ds.length ≤ 1000000) : Con Tryz.prog 26 [sackP cum win gs ds] F L nx nx
   (if sackV cum win gs ds then .tup [.agg [.int .i64 3, .int .i64 0, .str (sackO cum win gs ds)], .int .i64 0] else .tup [.agg [.int .i64 0, .int .i64 0, .str []], .int .i64 320]) [] [] := by
 have hva : ∀ (F : SF) (L nx : Nat), Con Tryz.prog 197 [sackP cum win gs ds] F L nx nx (.bool (sackV cum win gs ds)) [] [] := fun F L nx => sackValid_ok cum win gs ds hlen hdl
 cases hV : sackV cum win gs ds with
 | false =>
  rw [hV] at hva
  simp only [if_false, Bool.false_eq_true]
  refine bdy Tryz.f26 ?_
  intro F3 hF1 hF2
  simp only [Tryz.f26, cx, sackP, go_sem, meths]
  refine CallVC.same (putBad_ok 153 _ 197 methsSv hva) ?_
  simp only [go_sem]
  exact PostF.same (p := True) (.inr rfl) (by simp only [resVal, resVals, resVal1, one, go_sem]) trivial (by simp [Tx.nf, nfl]) (by simp [UpdAll])
 | true =>
  rw [hV] at hva
  simp only [if_true]
  obtain ⟨b1, b2, b3, b4, b5, b6⟩ := sackV_all hV
  obtain ⟨e2, c2⟩ := serB_nat b2
  obtain ⟨e3, c3⟩ := serB_nat b3
  have hgs : (gs.map fun k => (k.1.toNat, k.2.toNat)).map kN = gs := by
   rw [List.map_map]
   conv => rhs; rw [← List.map_id gs]
   apply List.map_congr_left
   intro k hk
   have := b1 k hk
   simp only [Function.comp, kN, id]
   apply Prod.ext <;> simp only [] <;> omega
  have hds : (ds.map Int.toNat).map (fun x : Nat => (x : Int)) = ds := by
   rw [List.map_map]
   conv => rhs; rw [← List.map_id ds]
   apply List.map_congr_left
   intro x hx
   have := (serB_nat (b6 x hx)).1
   simp only [Function.comp, id]
   omega
  have hw : ∀ (F : SF) (L nx : Nat) (n : Nm), (n.l < L ∨ (n.l = L ∧ n.i < nx)) → bldF F n 130 none [] → Con Tryz.prog 198 [sackP cum win gs ds, .ptr n 0 0] F L nx (nx + 1) (.tup [.int .i64 3, .int .i64 0]) (bldU n 130 ⟨L, nx⟩ (sackO cum win gs ds)) [n] := by
   intro F L nx n hn hb
   have := sackWrite_ok (F := F) (L := L) (nx := nx) n hn cum.toNat win.toNat (gs.map fun k => (k.1.toNat, k.2.toNat)) (ds.map Int.toNat) c2 c3 (fun k hk => by
    obtain ⟨k', hk', rfl⟩ := List.mem_map.1 hk
    have := b1 k' hk'
    simp only []
    omega) (fun x hx => by
    obtain ⟨x', hx', rfl⟩ := List.mem_map.1 hx
    exact (serB_nat (b6 x' hx')).2) (by simpa using b4) (by simpa using b5) hb
   rw [hgs, hds, ← e2, ← e3] at this
   exact this
  have hlenO : (sackO cum win gs ds).length = 12 + 4 * gs.length + ds.length * 4 := by
   unfold sackO sackT
   simp only [List.length_append, putB_len, skT_len, flat_len, List.length_map]
  refine bdy Tryz.f26 ?_
  intro F3 hF1 hF2
  simp only [Tryz.f26, cx, sackP, go_sem, meths]
  refine CallVC.same (putGood_ok 153 _ 197 198 methsSv methsSw hva 3 0 (sackO cum win gs ds) ?_ ?_ hw) ?_
  ·intro h
   rw [h] at hlenO
   simp at hlenO
   omega
  ·omega
  simp only [go_sem]
  exact PostF.same (p := True) (.inr rfl) (by simp only [resVal, resVals, resVal1, one, go_sem]) trivial (by simp [Tx.nf, nfl]) (by simp [UpdAll])
theorem PsOk.without {inn : List Int} {ps : List Dat} (h : PsOk inn ps) (p : Dat → Bool) : PsOk inn (withoutG ps p) where
 len := Nat.le_trans (List.length_filter_le _ _) h.len
 all := fun d hd => h.all d (List.mem_filter.1 hd).1
 nodup := List.Nodup.sublist (List.Sublist.map _ List.filter_sublist) h.nodup
theorem PsOk.next {inn : List Int} {ps : List Dat} (h : PsOk inn ps) (st sq : Int) (hst : 0 ≤ st) : PsOk (nextI inn st sq) (nextP inn ps st sq) := by
 have hw := h.without (oldB (nextI inn st sq) st)
 refine ⟨hw.len, fun d hd => ?_, hw.nodup⟩
 have hm := List.mem_filter.1 hd
 obtain ⟨a1, a2, a3⟩ := partOk_ok (h.all d hm.1)
 have hb := Dat.ok_bounds a1
 unfold partOk
 rw [a1, nextI_len]
 simp only [Bool.true_and, Bool.and_eq_true, decide_eq_true_eq, Bool.or_eq_true]
 refine ⟨a2, ?_⟩
 by_cases hs : d.st = st
 ·have := hm.2
  simp only [oldB, hs, beq_self_eq_true, Bool.true_and, Bool.not_eq_true', Bool.and_eq_false_iff, Bool.not_eq_false', decide_eq_false_iff_not] at this
  rcases this with h | h
  ·exact .inl h
  ·right; rw [hs]; omega
 ·rcases a3 with h | h
  ·exact .inl h
  ·right
   have : (nextI inn st sq).getD d.st.toNat 0 = inn.getD d.st.toNat 0 := by
    unfold nextI
    rw [List.getD_eq_getElem?_getD, List.getElem?_set_ne (by omega), ← List.getD_eq_getElem?_getD]
   rw [this]; exact h
theorem Str0.inn {out inn inn2 asked : List Int} {num seen : Int} (h : Str0 out inn num seen asked) (hl : inn2.length = inn.length) (hi : inn2.all (serB 16) = true) : Str0 out inn2 num seen asked :=
 ⟨h.o1, h.o2, h.o3, by rw [hl]; exact h.i1, by rw [hl]; exact h.i2, hi, h.n, h.s, h.a, h.a2⟩
theorem okS {a : List Oper} {b : Nat} (h : okStatic a b = true) : okStatic a b = true := h
def someX (s : List UInt8) (n : Nat) : List UInt8 := if s = [] then [120] else s.take n
theorem someX_ne (s : List UInt8) {n : Nat} (h : 1 ≤ n) : someX s n ≠ [] := by
 unfold someX
 split
 ·simp
 ·rename_i hs
  cases s with
  | nil => exact absurd rfl hs
  | cons a l => intro hc; cases n with
   | zero => omega
   | succ n => simp at hc
theorem someX_len (s : List UInt8) (n : Nat) (h : 1 ≤ n) : (someX s n).length ≤ n ∧ 1 ≤ (someX s n).length := by
 have h1 := someX_ne s h
 refine ⟨?_, List.length_pos_iff.2 h1⟩
 unfold someX
 split
 ·simpa using h
 ·rw [List.length_take]; omega
theorem rest_ok {F : SF} {L nx : Nat} (r : Nm) (hr : r.l ≤ L) (s : List UInt8) (p : Nat) (hp : p ≤ s.length) (hl : s.length ≤ 1000000) (hF : F r = some (rdB s p)) :
  Con Tryz.prog 86 [.ptr r 0 0] F L nx nx (.str (s.drop p)) [(r, rdB s s.length)] [r] := by
 refine bdy Tryz.f86 (hrd := (by simp; omega)) ?_
 intro F3 hF1 hF2
 have kr : F3 r = some (rdB s p) := (hF1 r (by simp)).trans hF
 have n1 : ∀ k, (r = (⟨L + 1, k⟩ : Nm)) = False := nm_out hr
 have n2 : ∀ k, ((⟨L + 1, k⟩ : Nm) = r) = False := nm_out' hr
 have e1 : p + (s.length - p) = s.length := by omega
 have e2 : (s.drop p).take (s.length - p) = s.drop p := List.take_of_length_le (by simp)
 simp only [Tryz.f86, cx, rdB, kr, Nat.add_zero, go_sem, meths]
 repeat refine sd1 ?_
 refine CallVC.same (rtake_ok r (by omega) s p (s.length - p) _ (by omega) (by omega) hl (by simp [rdB, kr])) ?_
 rw [e1, e2]
 simp only [rdB, go_sem]
 refine ⟨okDyn_num (fun x => if x = r then 1 else x.i % 10000 + 100) (by simp only [numF, List.map, if_true]; kernel_rfl), ?_⟩
 exact PostF.of (p := True) (v0 := .str (s.drop p)) (.inr rfl) (by simp only [resVal, resVals, resVal1, one, go_sem]) trivial (by simp [Wk]) (by simp [wkN]) (by simp [Tx.nf]) ⟨hr, by simp [BW, Tx.look], trivial⟩ (by simp [UpdAll, keys])
def datK (fl : Int) (s : List UInt8) : List PV :=
  [.int .i64 (getB (s.take 4)), .int .i64 (getB ((s.drop 4).take 2)), .int .i64 (getB ((s.drop 6).take 2)), .int .i64 (getB ((s.drop 8).take 4)),
   .bool (decide (Sx.ibits .and .i64 fl 2 > 0)), .bool (decide (Sx.ibits .and .i64 fl 1 > 0)), .bool (decide (Sx.ibits .and .i64 fl 4 > 0)), .str (s.drop 12)]
theorem data1_ok {F : SF} (nc : Nm) (k fl : Int) (s s2 : List UInt8) (oc : Bool) (hc : F nc = some (.rows 34 3 oc true [[.int .i64 k, .int .i64 fl, .str s2]])) (hs : 12 ≤ s.length) (hl : s.length ≤ 1000000) :
  OfOk 85 [] [.ptr nc 0 0] s (.agg (datK fl s)) s.length F [nc] := by
 intro F' L r nx hF' hr hrd hFr
 have hcl : nc.l ≤ L := hrd nc (by simp)
 have hne : nc ≠ r := by
  rintro rfl
  rw [hF' nc (by simp), hc] at hFr
  simp [rdB] at hFr
 simp only [List.nil_append, List.cons_append]
 refine bdy Tryz.f85 (hrd := (by simp; omega)) ?_
 intro F3 hF1 hF2
 have kr : F3 r = some (rdB s 0) := (hF1 r (by simp)).trans hFr
 have kc : F3 nc = some (.rows 34 3 oc true [[.int .i64 k, .int .i64 fl, .str s2]]) := (hF1 nc (by simp)).trans ((hF' nc (by simp)).trans hc)
 have n1 : ∀ k, (r = (⟨L + 1, k⟩ : Nm)) = False := nm_out hr
 have n2 : ∀ k, ((⟨L + 1, k⟩ : Nm) = r) = False := nm_out' hr
 have c1 : ∀ k, (nc = (⟨L + 1, k⟩ : Nm)) = False := nm_out hcl
 have c2 : ∀ k, ((⟨L + 1, k⟩ : Nm) = nc) = False := nm_out' hcl
 have e1 : (nc = r) = False := eq_false hne
 simp only [Tryz.f85, cx, rdB, go_sem, meths]
 refine CallVC.same (number_ok r (by omega) s 0 4 4 rfl (by omega) (by omega) (by omega) hl (by simp [rdB, kr, n1])) ?_
 simp only [rdB, n1, go_sem]
 refine CallVC.same (number_ok r (by omega) s 4 2 2 rfl (by omega) (by omega) (by omega) hl (by simp [rdB, n1])) ?_
 simp only [rdB, n1, go_sem]
 refine CallVC.same (number_ok r (by omega) s 6 2 2 rfl (by omega) (by omega) (by omega) hl (by simp [rdB, n1])) ?_
 simp only [rdB, n1, go_sem]
 refine CallVC.same (number_ok r (by omega) s 8 4 4 rfl (by omega) (by omega) (by omega) hl (by simp [rdB, n1])) ?_
 simp only [kc, c1, e1, rdB, n1, n2, go_sem]
 refine ⟨by kernel_rfl, okDyn_num (fun x => if x = nc then 1 else x.i % 10000 + 100) (by simp only [numF, List.map, c2, if_true, if_false]; kernel_rfl), ?_⟩
 refine CallVC.same (rest_ok r (by omega) s 12 (by omega) hl (by simp [rdB, n1])) ?_
 simp only [rdB, n1, n2, go_sem]
 repeat refine sd1 ?_
 exact PostF.of (p := True) (v0 := .agg (datK fl s)) (.inr rfl) (by simp only [datK, resVal, resVals, resVal1, one, List.drop_zero, go_sem]) trivial (wk_refl _ _).1 (by rw [(wk_refl (fun _ => none) _).2]; simp) (by rfl) ⟨hr, by simp [BW, Tx.look, n1], trivial⟩ (by simp [UpdAll, keys])
theorem data1_die {F : SF} (nc : Nm) (s : List UInt8) (hs : s.length < 12) : OfDie 85 [] [.ptr nc 0 0] s F [nc] := by
 intro F' L r hF' hr hrd hFr
 have hcl : nc.l ≤ L := hrd nc (by simp)
 simp only [List.nil_append, List.cons_append]
 refine DCon.body (cxOk (L + 1)) rfl rfl (fn := Tryz.f85) (c := Tryz.f85.body.getD .skip) (by kernel_rfl) (by rfl) (by kernel_rfl) rfl  (by simp; omega) ?_
 intro F3 hF1 hF2
 have kr : F3 r = some (rdB s 0) := (hF1 r (by simp)).trans hFr
 have n1 : ∀ k, (r = (⟨L + 1, k⟩ : Nm)) = False := nm_out hr
 have n2 : ∀ k, ((⟨L + 1, k⟩ : Nm) = r) = False := nm_out' hr
 have h32 : r.l ≤ L + 1 := by omega
 simp only [Tryz.f85, cx, go_sem, meths]
 by_cases h4 : s.length < 4
 ·refine CallVD.same rfl (number_die r h32 s 0 4 4 rfl (by omega) (by omega) (by omega) (by omega) (by omega) (by simp [rdB, kr, n1, Tx.look])) ?_
  exact .dead (ns := [r]) (by simpa using hr) (by simp [UpdAll, updH, setH, n1, n2])
 refine CallVD.live (CallVC.same (number_ok r h32 s 0 4 4 rfl (by omega) (by omega) (by omega) (by omega) (by simp [rdB, kr, n1])) ?_)
 simp only [rdB, n1, go_sem]
 by_cases h6 : s.length < 6
 ·refine CallVD.same rfl (number_die r h32 s 4 2 2 rfl (by omega) (by omega) (by omega) (by omega) (by omega) (by simp [rdB, n1, Tx.look])) ?_
  exact .dead (ns := [r]) (by simpa using hr) (by simp [UpdAll, updH, setH, n1, n2])
 refine CallVD.live (CallVC.same (number_ok r h32 s 4 2 2 rfl (by omega) (by omega) (by omega) (by omega) (by simp [rdB, n1])) ?_)
 simp only [rdB, n1, go_sem]
 by_cases h8 : s.length < 8
 ·refine CallVD.same rfl (number_die r h32 s 6 2 2 rfl (by omega) (by omega) (by omega) (by omega) (by omega) (by simp [rdB, n1, Tx.look])) ?_
  exact .dead (ns := [r]) (by simpa using hr) (by simp [UpdAll, updH, setH, n1, n2])
 refine CallVD.live (CallVC.same (number_ok r h32 s 6 2 2 rfl (by omega) (by omega) (by omega) (by omega) (by simp [rdB, n1])) ?_)
 simp only [rdB, n1, go_sem]
 refine CallVD.same rfl (number_die r h32 s 8 4 4 rfl (by omega) (by omega) (by omega) (by omega) (by omega) (by simp [rdB, n1, Tx.look])) ?_
 exact .dead (ns := [r]) (by simpa using hr) (by simp [UpdAll, updH, setH, n1, n2])
end Go.Proofs.YtaacfnngodhecaaGreatDoor
end
