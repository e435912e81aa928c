/- Lemmas for the walk: WK52, WK53, WK38, WD22, WK54, WK55. -/
import Derived.Test.YtaacfnngodhecaaGreatDoorP20
import Derived.Test.YtaacfnngodhecaaGreatDoorP18
import Derived.Test.YtaacfnngodhecaaGreatDoorP17
import Derived.Test.YtaacfnngodhecaaGreatDoorP19
set_option linter.all false
section
namespace Go.Proofs.YtaacfnngodhecaaGreatDoor
open Go.Tx
set_option maxRecDepth 100000
set_option maxHeartbeats 4000000
theorem xPutReset_ok {F : SF} {L nx : Nat} (k n la r : Int) (xs : List Int) (h : resetV k n la r xs = true) : Con Tryz.prog 40 [rstP k n la r (.fs 1 (xs.map eI))] F L nx nx (.agg [.int .i64 130, .int .i64 0, .str (resetB k n la r xs)]) [] [] := by
 obtain ⟨b1, b2, b3, b4, b5⟩ := rstB h
 rcases b5 with ⟨rfl, rfl, rfl⟩ | ⟨rfl, rfl, c1, c2⟩
 ·have h1 := xPutReset2_ok (F := F) (L := L) (nx := nx) n.toNat r.toNat 0 [] (by omega) (by omega)
  rw [show ((n.toNat : Nat) : Int) = n by omega, show ((r.toNat : Nat) : Int) = r by omega] at h1
  have e : resetB 2 n 0 r [] = putB 1 2 ++ putB 4 n.toNat ++ putB 1 r.toNat := by unfold resetB; rw [if_pos rfl]
  rw [e]
  exact h1
 ·have h1 := xPutReset1_ok (F := F) (L := L) (nx := nx) n.toNat la.toNat 0 (xs.map Int.toNat) (by omega) (by omega) (by
   intro k hk
   obtain ⟨y, hy, rfl⟩ := List.mem_map.1 hk
   have := b4 y hy
   show y.toNat < 65536; omega) (by simp; omega)
  have e2 : (xs.map Int.toNat).map eN = xs.map eI := by
   rw [List.map_map]
   apply List.map_congr_left
   intro x hx
   have := (b4 x hx).1
   show [PV.int .i64 ((x.toNat : Nat) : Int)] = [PV.int .i64 x]
   rw [show ((x.toNat : Nat) : Int) = x by omega]
  rw [e2, show ((n.toNat : Nat) : Int) = n by omega, show ((la.toNat : Nat) : Int) = la by omega] at h1
  have e : resetB 1 n la 0 xs = putB 1 1 ++ putB 4 n.toNat ++ putB 4 la.toNat ++ (xs.map Int.toNat).flatMap (putB 2) := by unfold resetB; rw [if_neg (by omega), List.append_assoc, List.append_assoc, List.append_assoc]
  rw [e]
  exact h1
def rsN (s : List UInt8) : Nat := (s.length - 9) / 2
def rsS (s : List UInt8) (i : Nat) : List Int := (List.range i).map fun j => (numX s (9 + 2 * j) 2 : Int)
theorem rsS_succ (s : List UInt8) (i : Nat) : rsS s (i + 1) = rsS s i ++ [(numX s (9 + 2 * i) 2 : Int)] := by simp [rsS, List.range_succ]
theorem rsS_len (s : List UInt8) (i : Nat) : (rsS s i).length = i := by simp [rsS]
def rsX (s : List UInt8) : Rsx := if numX s 0 1 = 2 then ⟨2, numX s 1 4, 0, numX s 5 1, []⟩ else ⟨numX s 0 1, numX s 1 4, numX s 5 4, 0, rsS s (rsN s)⟩
def getRsX (c : Ckx) : PV := if c.kd = 130 then (if (rsX c.bd).ok = true ∧ (0 : Int) = c.fl ∧ (rsX c.bd).oct = c.bd then .tup [(rsX c.bd).v, .int .i64 0] else zRsx 5) else zRsx 2
theorem xGetReset_ok {F : SF} {L nx : Nat} (c : Ckx) (hl : c.bd.length ≤ 1000000) : Con Tryz.prog 83 [.agg c.row] F L nx nx (getRsX c) [] [] := by
 unfold getRsX
 by_cases hk : c.kd = 130
 rotate_left
 ·rw [if_neg hk]
  have f1 : (c.kd != 130) = true := by simpa using hk
  simp only [Ckx.row]
  refine bdy Tryz.f83 ?_
  intro F3 hF1 hF2
  simp only [Tryz.f83, cx, f1, Nat.add_zero, go_sem, meths]
  repeat refine sd2 ?_
  exact PostF.same (p := True) (.inr rfl) (by simp only [zRsx, resVal, resVals, resVal1, one, go_sem]) trivial (by simp [zRsx, Tx.nf, nfl]) (by simp [UpdAll])
 rw [if_pos hk]
 have f1 : (c.kd != 130) = false := by rw [hk]; rfl
 simp only [Ckx.row]
 refine bdy Tryz.f83 ?_
 intro F3 hF1 hF2
 simp only [Tryz.f83, cx, f1, Nat.add_zero, go_sem, meths]
 repeat refine sd2 ?_
 refine CallVC.same (rNum_ok c.bd 0 1 0 1 rfl rfl (by omega) (by omega) hl) ?_
 simp only [go_sem]
 repeat refine sd2 ?_
 refine CallVC.same (rNum_ok c.bd 1 4 1 4 rfl rfl (by omega) (by omega) hl) ?_
 simp only [Nat.add_zero, go_sem]
 repeat refine sd2 ?_
 obtain ⟨d, hd⟩ : ∃ d, d = rsX c.bd := ⟨_, rfl⟩
 rw [← hd]
 have hR : ∀ F L nx, Con Tryz.prog 39 [d.v] F L nx nx (.bool d.ok) [] [] := fun F L nx => xRightReset_ok (F := F) (L := L) (nx := nx) d.kind d.num d.last d.res d.xs (by
  rw [hd]; unfold rsX
  split
  ·simp
  ·show (rsS c.bd (rsN c.bd)).length ≤ 1000000
   rw [rsS_len]; unfold rsN; omega)
 have hP : d.ok = true → ∀ F L nx, Con Tryz.prog 40 [d.v] F L nx nx (.agg [.int .i64 130, .int .i64 0, .str d.oct]) [] [] := fun (hok : d.ok = true) F L nx => xPutReset_ok (F := F) (L := L) (nx := nx) d.kind d.num d.last d.res d.xs hok
 unfold rsX at hd
 refine ⟨okDyn_num (fun x => x.i) (by kernel_rfl), ?_⟩
 repeat refine sd2 ?_
 by_cases h2 : numX c.bd 0 1 = 2
 ·have g0 : ((numX c.bd 0 1 : Int) == 2) = true := by rw [h2]; rfl
  rw [if_pos h2] at hd
  simp only [g0, go_sem]
  repeat refine sd2 ?_
  refine CallVC.same (rNum_ok c.bd 5 1 5 1 rfl rfl (by omega) (by omega) hl) ?_
  simp only [go_sem]
  repeat refine sd2 ?_
  simp only [h2]
  have hwk : wkN (.agg [.int .i64 ((2 : Nat) : Int), .int .i64 (numX c.bd 1 4), .int .i64 0, .int .i64 (numX c.bd 5 1), .nilS]) d.v = [] := by rw [hd]; simp only [Rsx.v, rstP]; simp [wkN, wkNL]
  refine CallVC.pure (args2 := [d.v]) (by rw [hd]; simp [Rsx.v, rstP, Wk, WkL]) (hR _ _ _) rfl ?_
  cases hok : d.ok with
  | false =>
   have g2 : (!false) = true := rfl
   rw [if_neg (by simp)]
   simp only [g2, hwk, wkNL, List.cons_append, List.nil_append, go_sem]
   refine ⟨okDyn_num (fun x => x.i) (by kernel_rfl), ?_⟩
   repeat refine sd2 ?_
   exact PostF.same (p := True) (.inr rfl) (by simp only [zRsx, resVal, resVals, resVal1, one, go_sem]) trivial (by simp [zRsx, Tx.nf, nfl]) (by simp [UpdAll])
  | true =>
   have g2 : (!true) = false := rfl
   simp only [g2, hwk, wkNL, List.cons_append, List.nil_append, go_sem]
   repeat refine sd2 ?_
   refine CallVC.pure (args2 := [d.v]) (by rw [hd]; simp [Rsx.v, rstP, Wk, WkL]) (hP hok _ _ _) rfl ?_
   simp only [hwk, wkNL, List.cons_append, List.nil_append, go_sem]
   refine ⟨okDyn_num (fun x => x.i) (by kernel_rfl), ?_⟩
   repeat refine sd2 ?_
   have g3 : ((130 : Int) == c.kd) = true := by rw [hk]; rfl
   by_cases hq9 : (0 : Int) = c.fl ∧ d.oct = c.bd
   ·have b1 : (!((130 : Int) == c.kd && ((0 : Int) == c.fl && d.oct == c.bd))) = false := by rw [g3, ← hq9.1, hq9.2]; simp
    simp only [if_pos hq9, b1, go_sem]
    repeat refine sd2 ?_
    exact PostF.of (p := True) (v0 := .tup [.agg [.int .i64 ((2 : Nat) : Int), .int .i64 (numX c.bd 1 4), .int .i64 0, .int .i64 (numX c.bd 5 1), .nilS], .int .i64 0]) (.inr rfl) (by simp only [resVal, resVals, resVal1, one, go_sem]) trivial (by rw [hd]; simp [Rsx.v, rstP, Wk, WkL]) (by rw [hd]; simp only [Rsx.v, rstP]; simp [wkN, wkNL]) (by rw [hd]; simp only [Rsx.v, rstP]; simp [Tx.nf, nfl]) trivial (by simp [UpdAll, keys])
   ·have b1 : (!((130 : Int) == c.kd && ((0 : Int) == c.fl && d.oct == c.bd))) = true := by
     rw [g3]
     simp only [Bool.true_and, Bool.not_eq_true', Bool.and_eq_false_iff]
     by_cases h1 : (0 : Int) = c.fl
     ·right
      have h2 : d.oct ≠ c.bd := fun h => hq9 ⟨h1, h⟩
      simpa using h2
     ·left; simpa using h1
    simp only [if_neg hq9, b1, go_sem]
    repeat refine sd2 ?_
    exact PostF.same (p := True) (.inr rfl) (by simp only [zRsx, resVal, resVals, resVal1, one, go_sem]) trivial (by simp [zRsx, Tx.nf, nfl]) (by simp [UpdAll])
 ·have g0 : ((numX c.bd 0 1 : Int) == 2) = false := by simp; omega
  rw [if_neg h2] at hd
  obtain ⟨N, hN⟩ : ∃ N, N = rsN c.bd := ⟨_, rfl⟩
  have hN2 := hN
  unfold rsN at hN2
  rw [← hN] at hd
  obtain ⟨k1, hk1⟩ : ∃ k1, k1 = numX c.bd 0 1 := ⟨_, rfl⟩
  obtain ⟨k2, hk2⟩ : ∃ k2, k2 = numX c.bd 1 4 := ⟨_, rfl⟩
  obtain ⟨k3, hk3⟩ : ∃ k3, k3 = numX c.bd 5 4 := ⟨_, rfl⟩
  rw [← hk1, ← hk2, ← hk3] at hd
  rw [← hk1] at g0
  simp only [← hk1, ← hk2, g0, go_sem]
  repeat refine sd2 ?_
  refine CallVC.same (rNum_ok c.bd 5 4 5 4 rfl rfl (by omega) (by omega) hl) ?_
  simp only [← hk3, go_sem]
  repeat refine sd2 ?_
  refine loopK.intro _ _ (I := fun z : Nat × Nat => ⟨[none, some (.ptr ⟨L + 1, 0⟩ 0 0), some (.ptr ⟨L + 1, 32⟩ 0 0), some (.int .i64 0), some (.ptr ⟨L + 1, 352⟩ 0 0), some (.int .i64 ((9 + 2 * z.1 : Nat) : Int)), none, none, none, none, none, none, none, none, none, none, none, none, none, none, none, none, none, none, none, none, none, none, none, none, none, none, none, none, none, none, none, none, none, none, none, none, none, none, none, none, none, none, none, none, none, none, none, none, none, none],
   [(⟨L + 1, 0⟩, .rows 34 3 true true [[.int .i64 c.kd, .int .i64 c.fl, .str c.bd]]), (⟨L + 1, 32⟩, .rows 61 5 true true [[.int .i64 0, .int .i64 0, .int .i64 0, .int .i64 0, .nilS]]), (⟨L + 1, 352⟩, .rows 61 5 true false [[.int .i64 k1, .int .i64 k2, .int .i64 k3, .int .i64 0, .sl ⟨L + 1, z.2⟩ 0 z.1]]), (⟨L + 1, z.2⟩, .rows 3 1 true true ((rsS c.bd z.1).map eI))], 10000 * (z.1 + 1)⟩)
   (pre := fun z => z.1 ≤ N ∧ 672 ≤ z.2 ∧ z.2 < 10000 * (z.1 + 1)) (μ := fun z => N - z.1) (0, 672) ⟨by simp, by simp, by simp⟩ ?_ ?_
  ·refine Sub.trans (Sub.nilCell (n := ⟨L + 1, 352⟩) (e := 61) (e2 := 3) (wd := 5) (wd2 := 1) (o := true) (p := true) (row := [.int .i64 k1, .int .i64 k2, .int .i64 k3, .int .i64 0, .nilS]) (row1 := [.int .i64 k1, .int .i64 k2, .int .i64 k3, .int .i64 0, .sl ⟨L + 1, 672⟩ 0 0]) (by omega) (by simp [Tx.look]) (by simp) rfl ?_) ?_
   ·intro k
    rcases k with _ | _ | _ | _ | _ | k
    ·exact .inl rfl
    ·exact .inl rfl
    ·exact .inl rfl
    ·exact .inl rfl
    ·exact .inr ⟨rfl, rfl⟩
    ·exact .inl rfl
   ·refine Sub.of (hfz hF2) (by simp only [Nat.mul_zero, Nat.add_zero, go_sem, subT]; try trivial) ?_ ?_ ?_
    ·simp [subH, Tx.look, updH, setH, rsS]
    ·simp [subK, keys, updH, setH]
    ·simp
  ·rintro ⟨i, q⟩ ⟨hi, hq0, hq⟩
   simp only at hi hq0 hq ⊢
   have hln := rsS_len c.bd i
   have hln' : ((rsS c.bd i).map eI).length = i := by simp [hln]
   have q_0 : (q = 0) = False := by apply eq_false; omega
   have n0_q : (0 = q) = False := by apply eq_false; omega
   have q_32 : (q = 32) = False := by apply eq_false; omega
   have n32_q : (32 = q) = False := by apply eq_false; omega
   have q_352 : (q = 352) = False := by apply eq_false; omega
   have n352_q : (352 = q) = False := by apply eq_false; omega
   obtain ⟨q_n1, q_n2, q_n3, q_n4, q_n5⟩ := nqL L (i := i) (p := q) (by omega)
   by_cases hlt : i < N
   ·have g1 : decide (((9 + 2 * i : Nat) : Int) + 2 ≤ (c.bd.length : Int)) = true := dT (by omega)
    have e3 := rsS_succ c.bd i
    have e4 : ((9 + 2 * i : Nat) : Int) + 2 = ((9 + 2 * (i + 1) : Nat) : Int) := by omega
    simp only [g1, n0_q, n352_q, Nat.add_assoc, go_sem]
    repeat refine sd2 ?_
    refine CallVC.same (rNum_ok c.bd (9 + 2 * i) 2 _ 2 rfl rfl (by omega) (by omega) hl) ?_
    simp only [q_0, q_32, q_352, n352_q, q_n1, q_n2, q_n5, kS2, kS2', kS3, Nat.add_assoc, go_sem]
    repeat refine sd2 ?_
    have o1 : (10000 * (i + 1) + 352 = 352) = False := by apply eq_false; omega
    have o2 : (10000 * (i + 1) + 384 = 352) = False := by apply eq_false; omega
    refine ⟨okDyn_num (fun x => if x.i = q then 1 else if x.i = 352 then 2 else x.i % 10000 + 100) (by simp only [numF, List.map, n0_q, q_352, n352_q, q_n1, o1, o2, Nat.reduceEqDiff, if_true, if_false, Nat.mul_add_mod, Nat.reduceMod]; kernel_rfl), ?_⟩
    repeat refine sd2 ?_
    refine ⟨(i + 1, 10000 * (i + 1) + 384), ⟨by simp only []; omega, by simp only []; omega, by simp only []; omega⟩, by simp only []; omega, ?_⟩
    refine Sub.of (hfz hF2) (by simp only [e4, go_sem, subT, and_self]) ?_ (by simp [subK, keys]) (by simp only []; omega)
    simp [subH, Tx.look, e3, eI, q_n1, nB, kS2]
   ·have g1 : decide (((9 + 2 * i : Nat) : Int) + 2 ≤ (c.bd.length : Int)) = false := dF (by omega)
    have hin : i = N := by omega
    rw [hin] at hln hln' g1 ⊢
    obtain ⟨xs, hxs⟩ : ∃ xs, xs = rsS c.bd N := ⟨_, rfl⟩
    have hxl : xs.length = N := by rw [hxs]; exact rsS_len _ _
    rw [← hxs] at hd ⊢
    simp only [g1, n0_q, n352_q, Nat.add_assoc, go_sem]
    repeat refine sd2 ?_
    have hwk : wkN (.agg [.int .i64 k1, .int .i64 k2, .int .i64 k3, .int .i64 0, .sl ⟨L + 1, q⟩ 0 N]) d.v = [⟨L + 1, q⟩] := by rw [hd]; simp only [Rsx.v, rstP]; simp [wkN, wkNL]
    refine CallVC.pure (args2 := [d.v]) (by rw [hd]; simp [Rsx.v, rstP, Wk, WkL, hxl, List.take_of_length_le, q_0, q_32, q_352]) (hR _ _ _) rfl ?_
    cases hok : d.ok with
    | false =>
     have g2 : (!false) = true := rfl
     rw [if_neg (by simp)]
     simp only [n32_q, g2, hwk, wkNL, List.cons_append, List.nil_append, Nat.add_assoc, go_sem]
     refine ⟨okDyn_num (fun x => if x.i = q then 1 else x.i % 10000 + 100) (by simp only [numF, List.map, n352_q, if_true, if_false, Nat.reduceMod]; kernel_rfl), ?_⟩
     repeat refine sd2 ?_
     exact PostF.same (p := True) (.inr rfl) (by simp only [zRsx, n32_q, resVal, resVals, resVal1, one, go_sem]) trivial (by simp [zRsx, Tx.nf, nfl]) (by simp [UpdAll])
    | true =>
     have g2 : (!true) = false := rfl
     simp only [n352_q, g2, hwk, wkNL, List.cons_append, List.nil_append, Nat.add_assoc, go_sem]
     repeat refine sd2 ?_
     refine CallVC.pure (args2 := [d.v]) (by rw [hd]; simp [Rsx.v, rstP, Wk, WkL, hxl, List.take_of_length_le, q_0, q_32, q_352]) (hP hok _ _ _) rfl ?_
     simp only [n0_q, n32_q, n352_q, hwk, wkNL, List.cons_append, List.nil_append, Nat.add_assoc, go_sem]
     refine ⟨okDyn_num (fun x => if x.i = q then 1 else x.i % 10000 + 100) (by simp only [numF, List.map, n0_q, n352_q, if_true, if_false, Nat.reduceMod]; kernel_rfl), ?_⟩
     repeat refine sd2 ?_
     have g3 : ((130 : Int) == c.kd) = true := by rw [hk]; rfl
     by_cases hq9 : (0 : Int) = c.fl ∧ d.oct = c.bd
     ·have b1 : (!((130 : Int) == c.kd && ((0 : Int) == c.fl && d.oct == c.bd))) = false := by rw [g3, ← hq9.1, hq9.2]; simp
      simp only [if_pos hq9, b1, go_sem]
      repeat refine sd2 ?_
      exact PostF.of (p := True) (v0 := .tup [.agg [.int .i64 k1, .int .i64 k2, .int .i64 k3, .int .i64 0, .sl ⟨L + 1, q⟩ 0 N], .int .i64 0]) (.inr rfl) (by simp only [n32_q, resVal, resVals, resVal1, one, go_sem]) trivial (by rw [hd]; simp [Rsx.v, rstP, Wk, WkL, Tx.look, hxl, List.take_of_length_le, q_0, q_32, q_352]) (by rw [hd]; simp only [Rsx.v, rstP]; simp [wkN, wkNL]) (by rw [hd]; simp only [Rsx.v, rstP]; simp [Tx.nf, nfl]) trivial (by simp [UpdAll, keys])
     ·have b1 : (!((130 : Int) == c.kd && ((0 : Int) == c.fl && d.oct == c.bd))) = true := by
       rw [g3]
       simp only [Bool.true_and, Bool.not_eq_true', Bool.and_eq_false_iff]
       by_cases h1 : (0 : Int) = c.fl
       ·right
        have h2 : d.oct ≠ c.bd := fun h => hq9 ⟨h1, h⟩
        simpa using h2
       ·left; simpa using h1
      simp only [if_neg hq9, b1, go_sem]
      repeat refine sd2 ?_
      exact PostF.same (p := True) (.inr rfl) (by simp only [zRsx, n32_q, resVal, resVals, resVal1, one, go_sem]) trivial (by simp [zRsx, Tx.nf, nfl]) (by simp [UpdAll])
theorem xPutSackV_ok {F : SF} {L nx : Nat} (c w : Int) (gs : List (Int × Int)) (ds : List Int) (h : sackV c w gs ds = true) : Con Tryz.prog 28 [sackP c w gs ds] F L nx nx (.agg [.int .i64 3, .int .i64 0, .str (sackO c w gs ds)]) [] [] := by
 obtain ⟨b1, b2, b3, b4, b5, b6⟩ := sackB h
 have h1 := xPutSack_ok (F := F) (L := L) (nx := nx) c.toNat w.toNat (gs.map fun k => (k.1.toNat, k.2.toNat)) (ds.map Int.toNat) (by omega) (by omega) (by
  intro k hk
  obtain ⟨y, hy, rfl⟩ := List.mem_map.1 hk
  have := b1 y hy
  constructor
  ·show y.1.toNat < 65536; omega
  ·show y.2.toNat < 65536; omega) (by
  intro k hk
  obtain ⟨y, hy, rfl⟩ := List.mem_map.1 hk
  have := b6 y hy
  show y.toNat < 4294967296; omega) (by simpa using b4) (by simpa using b5)
 rw [mapK gs (fun x hx => ⟨(b1 x hx).1, (b1 x hx).2.2.1⟩), mapN ds (fun x hx => (b6 x hx).1), show ((c.toNat : Nat) : Int) = c by omega, show ((w.toNat : Nat) : Int) = w by omega] at h1
 exact h1
def skP (s : List UInt8) (i : Nat) : List (Nat × Nat) := (List.range i).map fun j => (numX s (12 + 4 * j) 2, numX s (12 + (4 * j + 2)) 2)
theorem skP_succ (s : List UInt8) (i : Nat) : skP s (i + 1) = skP s i ++ [(numX s (12 + 4 * i) 2, numX s (12 + (4 * i + 2)) 2)] := by simp [skP, List.range_succ]
theorem skP_len (s : List UInt8) (i : Nat) : (skP s i).length = i := by simp [skP]
def skQ (s : List UInt8) (g i : Nat) : List Int := (List.range i).map fun j => (numX s (12 + (4 * g + 4 * j)) 4 : Int)
theorem skQ_succ (s : List UInt8) (g i : Nat) : skQ s g (i + 1) = skQ s g i ++ [(numX s (12 + (4 * g + 4 * i)) 4 : Int)] := by simp [skQ, List.range_succ]
theorem skQ_len (s : List UInt8) (g i : Nat) : (skQ s g i).length = i := by simp [skQ]
def skG (s : List UInt8) : Nat := min (numX s 8 2) 40
def skD (s : List UInt8) : Nat := min (numX s 10 2) 40
def skX (s : List UInt8) : Skx := ⟨numX s 0 4, numX s 4 4, (skP s (skG s)).map kN, skQ s (skG s) (skD s)⟩
def getSkX (c : Ckx) : PV := if c.kd = 3 then (if (skX c.bd).ok = true ∧ (0 : Int) = c.fl ∧ (skX c.bd).oct = c.bd then .tup [(skX c.bd).v, .int .i64 0] else zSck 5) else zSck 2
theorem xGetSack_ok {F : SF} {L nx : Nat} (c : Ckx) (hl : c.bd.length ≤ 1000000) : Con Tryz.prog 80 [.agg c.row] F L nx nx (getSkX c) [] [] := by
 unfold getSkX
 by_cases hk : c.kd = 3
 rotate_left
 ·rw [if_neg hk]
  have f1 : (c.kd != 3) = true := by simpa using hk
  simp only [Ckx.row]
  refine bdy Tryz.f80 ?_
  intro F3 hF1 hF2
  simp only [Tryz.f80, cx, f1, Nat.add_zero, go_sem, meths]
  repeat refine sd2 ?_
  exact PostF.same (p := True) (.inr rfl) (by simp only [zSck, resVal, resVals, resVal1, one, go_sem]) trivial (by simp [zSck, Tx.nf, nfl]) (by simp [UpdAll])
 rw [if_pos hk]
 have f1 : (c.kd != 3) = false := by rw [hk]; rfl
 simp only [Ckx.row]
 obtain ⟨d, hd⟩ : ∃ d, d = skX c.bd := ⟨_, rfl⟩
 rw [← hd]
 have hR : ∀ F L nx, Con Tryz.prog 27 [d.v] F L nx nx (.bool d.ok) [] [] := fun F L nx => xRightSack_ok (F := F) (L := L) (nx := nx) d.cum d.win d.gs d.ds (by
  rw [hd]; unfold skX
  simp only [List.length_map, skP_len, skG]; omega) (by
  rw [hd]; unfold skX
  simp only [skQ_len, skD]; omega)
 have hP : d.ok = true → ∀ F L nx, Con Tryz.prog 28 [d.v] F L nx nx (.agg [.int .i64 3, .int .i64 0, .str d.oct]) [] [] := fun (hok : d.ok = true) F L nx => xPutSackV_ok (F := F) (L := L) (nx := nx) d.cum d.win d.gs d.ds hok
 unfold skX at hd
 obtain ⟨g, hg⟩ : ∃ g, g = skG c.bd := ⟨_, rfl⟩
 obtain ⟨u, hu⟩ : ∃ u, u = skD c.bd := ⟨_, rfl⟩
 obtain ⟨n1, hn1⟩ : ∃ n1, n1 = numX c.bd 0 4 := ⟨_, rfl⟩
 obtain ⟨n2, hn2⟩ : ∃ n2, n2 = numX c.bd 4 4 := ⟨_, rfl⟩
 have eg : min ((numX c.bd 8 2 : Nat) : Int) 40 = ((g : Nat) : Int) := by rw [hg]; unfold skG; omega
 have eu : min ((numX c.bd 10 2 : Nat) : Int) 40 = ((u : Nat) : Int) := by rw [hu]; unfold skD; omega
 have bg : g ≤ 40 := by rw [hg]; unfold skG; omega
 have bu : u ≤ 40 := by rw [hu]; unfold skD; omega
 rw [← hg, ← hu, ← hn1, ← hn2] at hd
 clear hg hu
 refine bdy Tryz.f80 ?_
 intro F3 hF1 hF2
 simp only [Tryz.f80, cx, f1, Nat.add_zero, go_sem, meths]
 repeat refine sd2 ?_
 refine CallVC.same (rNum_ok c.bd 0 4 0 4 rfl rfl (by omega) (by omega) hl) ?_
 simp only [← hn1, go_sem]
 repeat refine sd2 ?_
 refine CallVC.same (rNum_ok c.bd 4 4 4 4 rfl rfl (by omega) (by omega) hl) ?_
 simp only [← hn2, go_sem]
 refine ⟨okDyn_num (fun x => x.i) (by kernel_rfl), ?_⟩
 repeat refine sd2 ?_
 refine CallVC.same (rNum_ok c.bd 8 2 8 2 rfl rfl (by omega) (by omega) hl) ?_
 simp only [eg, go_sem]
 repeat refine sd2 ?_
 refine CallVC.same (rNum_ok c.bd 10 2 10 2 rfl rfl (by omega) (by omega) hl) ?_
 simp only [eu, go_sem]
 refine ⟨okDyn_num (fun x => x.i) (by kernel_rfl), ?_⟩
 repeat refine sd2 ?_
 refine loopK.intro _ _ (I := fun z : Nat × Nat => ⟨[none, some (.ptr ⟨L + 1, 0⟩ 0 0), some (.ptr ⟨L + 1, 32⟩ 0 0), some (.int .i64 0), some (.ptr ⟨L + 1, 352⟩ 0 0), some (.int .i64 g), some (.int .i64 u), some (.int .i64 ((12 + 4 * z.1 : Nat) : Int)), some (.int .i64 z.1), none, none, none, none, none, none, none, none, none, none, none, none, none, none, none, none, none, none, none, none, none, none, none, none, none, none, none, none, none, none, none, none, none, none, none, none, none, none, none, none, none, none, none, none, none, none, none, none, none, none, none, none, none, none, none, none, none, none, none, none, none, none, none, none, none, none, none, none, none],
  [(⟨L + 1, 0⟩, .rows 34 3 true true [[.int .i64 c.kd, .int .i64 c.fl, .str c.bd]]), (⟨L + 1, 32⟩, .rows 55 4 true true [[.int .i64 0, .int .i64 0, .nilS, .nilS]]), (⟨L + 1, 352⟩, .rows 55 4 true false [[.int .i64 n1, .int .i64 n2, .sl ⟨L + 1, z.2⟩ 0 z.1, .nilS]]), (⟨L + 1, z.2⟩, .rows 118 2 true true (((skP c.bd z.1).map kN).map kE))], 10000 * (z.1 + 1)⟩)
  (pre := fun z => z.1 ≤ g ∧ 736 ≤ z.2 ∧ z.2 < 10000 * (z.1 + 1)) (μ := fun z => g - z.1) (0, 736) ⟨by simp, by simp, by simp⟩ ?_ ?_
 ·refine Sub.trans (Sub.nilCell (n := ⟨L + 1, 352⟩) (e := 55) (e2 := 118) (wd := 4) (wd2 := 2) (o := true) (p := true) (row := [.int .i64 n1, .int .i64 n2, .nilS, .nilS]) (row1 := [.int .i64 n1, .int .i64 n2, .sl ⟨L + 1, 736⟩ 0 0, .nilS]) (by omega) (by simp [Tx.look]) (by simp) rfl ?_) ?_
  ·intro k
   rcases k with _ | _ | _ | k
   ·exact .inl rfl
   ·exact .inl rfl
   ·exact .inr ⟨rfl, rfl⟩
   ·exact .inl rfl
  ·refine Sub.of (hfz hF2) (by simp only [Nat.mul_zero, Nat.add_zero, go_sem, subT, and_self, Int.natCast_zero]; try trivial) ?_ ?_ ?_
   ·simp [subH, Tx.look, updH, setH, skP]
   ·simp [subK, keys, updH, setH]
   ·simp
 rintro ⟨i, q⟩ ⟨hi, hq0, hq⟩
 simp only at hi hq0 hq ⊢
 have hln := skP_len c.bd i
 have hln' : (((skP c.bd i).map kN).map kE).length = i := by simp [hln]
 by_cases hlt : i < g
 ·have g1 : decide ((i : Int) < (g : Int)) = true := dT (by omega)
  have q_0 : (q = 0) = False := by apply eq_false; omega
  have n0_q : (0 = q) = False := by apply eq_false; omega
  have q_32 : (q = 32) = False := by apply eq_false; omega
  have n32_q : (32 = q) = False := by apply eq_false; omega
  have q_352 : (q = 352) = False := by apply eq_false; omega
  have n352_q : (352 = q) = False := by apply eq_false; omega
  obtain ⟨q_n1, q_n2, q_n3, q_n4, q_n5⟩ := nqL L (i := i) (p := q) (by omega)
  have e3 := skP_succ c.bd i
  have e4 : ((12 + 4 * i : Nat) : Int) + 4 = ((12 + 4 * (i + 1) : Nat) : Int) := by omega
  simp only [g1, n0_q, n352_q, Nat.add_assoc, go_sem]
  repeat refine sd2 ?_
  refine CallVC.same (rNum_ok c.bd (12 + 4 * i) 2 _ 2 rfl rfl (by omega) (by omega) hl) ?_
  simp only [n0_q, Nat.add_assoc, go_sem]
  repeat refine sd2 ?_
  refine CallVC.same (rNum_ok c.bd (12 + (4 * i + 2)) 2 _ 2 (by omega) rfl (by omega) (by omega) hl) ?_
  simp only [q_0, q_32, q_352, n352_q, q_n1, q_n2, q_n5, kS2, kS2', kS3, Nat.add_assoc, go_sem]
  repeat refine sd2 ?_
  refine ⟨okDyn_num (fun x => if x.i = q then 1 else x.i % 10000 + 100) (by simp only [numF, List.map, n0_q, n352_q, q_n1, if_true, if_false, Nat.mul_add_mod, Nat.reduceMod]; kernel_rfl), ?_⟩
  repeat refine sd2 ?_
  refine ⟨(i + 1, 10000 * (i + 1) + 448), ⟨by simp only []; omega, by simp only []; omega, by simp only []; omega⟩, by simp only []; omega, ?_⟩
  refine Sub.of (hfz hF2) (by simp only [e4, go_sem, subT, and_self, Int.natCast_succ]) ?_ (by simp [subK, keys]) (by simp only []; omega)
  simp [subH, Tx.look, e3, kN, kE, q_n1, nB, kS2]
 ·have hin : i = g := by omega
  rw [hin] at hln hln' hq ⊢
  clear hi hlt hin
  clear i
  have g1 : decide ((g : Int) < (g : Int)) = false := dF (by omega)
  obtain ⟨sk, hsk⟩ : ∃ sk, sk = skP c.bd g := ⟨_, rfl⟩
  rw [← hsk] at hln hln' hd ⊢
  simp only [g1, Nat.add_assoc, go_sem]
  repeat refine sd2 ?_
  have q9 : (q = 1000320) = False := by apply eq_false; omega
  have q8 : (1000320 = q) = False := by apply eq_false; omega
  obtain ⟨r, hr⟩ : ∃ r, r = q := ⟨_, rfl⟩
  rw [← hr] at hq0 hq q8 q9 ⊢
  clear hr
  have n0_r : (0 = r) = False := by apply eq_false; omega
  have n32_r : (32 = r) = False := by apply eq_false; omega
  have n352_r : (352 = r) = False := by apply eq_false; omega
  have r_0 : (r = 0) = False := by apply eq_false; omega
  have r_32 : (r = 32) = False := by apply eq_false; omega
  have r_352 : (r = 352) = False := by apply eq_false; omega
  refine loopK.intro _ _ (I := fun z : Nat × Nat => ⟨[none, some (.ptr ⟨L + 1, 0⟩ 0 0), some (.ptr ⟨L + 1, 32⟩ 0 0), some (.int .i64 0), some (.ptr ⟨L + 1, 352⟩ 0 0), none, some (.int .i64 u), some (.int .i64 ((12 + (4 * g + 4 * (z.1 - 1000)) : Nat) : Int)), none, some (.int .i64 ((z.1 - 1000 : Nat) : Int)), none, none, none, none, none, none, none, none, none, none, none, none, none, none, none, none, none, none, none, none, none, none, none, none, none, none, none, none, none, none, none, none, none, none, none, none, none, none, none, none, none, none, none, none, none, none, none, none, none, none, none, none, none, none, none, none, none, none, none, none, none, none, none, none, none, none, none, none],
   [(⟨L + 1, 0⟩, .rows 34 3 true true [[.int .i64 c.kd, .int .i64 c.fl, .str c.bd]]), (⟨L + 1, 32⟩, .rows 55 4 true true [[.int .i64 0, .int .i64 0, .nilS, .nilS]]), (⟨L + 1, 352⟩, .rows 55 4 true false [[.int .i64 n1, .int .i64 n2, .sl ⟨L + 1, r⟩ 0 g, .sl ⟨L + 1, z.2⟩ 0 (z.1 - 1000)]]), (⟨L + 1, r⟩, .rows 118 2 true true ((sk.map kN).map kE)), (⟨L + 1, z.2⟩, .rows 3 1 true true ((skQ c.bd g (z.1 - 1000)).map eI))], 10000 * (z.1 + 1)⟩)
   (pre := fun z => 1000 ≤ z.1 ∧ z.1 ≤ 1000 + u ∧ 1000000 ≤ z.2 ∧ z.2 < 10000 * (z.1 + 1)) (μ := fun z => 1000 + u - z.1) (1000, 1000320) ⟨by simp, by simp, by simp, by simp⟩ ?_ ?_
  ·refine Sub.trans (subNx (nx' := 1000320) (by omega)) (Sub.trans (Sub.nilCell (n := ⟨L + 1, 352⟩) (e := 55) (e2 := 3) (wd := 4) (wd2 := 1) (o := true) (p := false) (row := [.int .i64 n1, .int .i64 n2, .sl ⟨L + 1, r⟩ 0 g, .nilS]) (row1 := [.int .i64 n1, .int .i64 n2, .sl ⟨L + 1, r⟩ 0 g, .sl ⟨L + 1, 1000320⟩ 0 0]) (by omega) (by simp [Tx.look]) (by simp) rfl ?_) ?_)
   ·intro k
    rcases k with _ | _ | _ | _ | k
    ·exact .inl rfl
    ·exact .inl rfl
    ·exact .inl rfl
    ·exact .inr ⟨rfl, rfl⟩
    ·exact .inl rfl
   ·refine Sub.of (hfz hF2) (by simp only [Nat.sub_self, Nat.mul_zero, Nat.add_zero, go_sem, subT, and_self, Int.natCast_zero]; try trivial) ?_ ?_ ?_
    ·simp [subH, Tx.look, updH, setH, skQ, q8, r_0, r_32, r_352]
    ·simp [subK, keys, updH, setH, q8, q9]
    ·simp only []; omega
  clear q8 q9 n0_r n32_r n352_r r_0 r_32 r_352 g1
  rintro ⟨i, q⟩ ⟨h0, hi, hq0', hq'⟩
  simp only at h0 hi hq0' hq' ⊢
  obtain ⟨k, hk9⟩ : ∃ k, k = i - 1000 := ⟨_, rfl⟩
  have hk1 : i + 1 - 1000 = k + 1 := by omega
  have hdl := skQ_len c.bd g k
  have hdl' : ((skQ c.bd g k).map eI).length = k := by simp [hdl]
  have r_0 : (r = 0) = False := by apply eq_false; omega
  have n0_r : (0 = r) = False := by apply eq_false; omega
  have r_32 : (r = 32) = False := by apply eq_false; omega
  have n32_r : (32 = r) = False := by apply eq_false; omega
  have r_352 : (r = 352) = False := by apply eq_false; omega
  have n352_r : (352 = r) = False := by apply eq_false; omega
  obtain ⟨r_n1, r_n2, r_n3, r_n4, r_n5⟩ := nqL L (i := i) (p := r) (by omega)
  have q_0 : (q = 0) = False := by apply eq_false; omega
  have n0_q : (0 = q) = False := by apply eq_false; omega
  have q_32 : (q = 32) = False := by apply eq_false; omega
  have n32_q : (32 = q) = False := by apply eq_false; omega
  have q_352 : (q = 352) = False := by apply eq_false; omega
  have n352_q : (352 = q) = False := by apply eq_false; omega
  have q_r : (q = r) = False := by apply eq_false; omega
  have nr_q : (r = q) = False := by apply eq_false; omega
  obtain ⟨q_n1, q_n2, q_n3, q_n4, q_n5⟩ := nqL L (i := i) (p := q) (by omega)
  by_cases hlt : k < u
  ·have g1 : decide ((k : Int) < (u : Int)) = true := dT (by omega)
   have e3 := skQ_succ c.bd g k
   have e4 : ((12 + (4 * g + 4 * k) : Nat) : Int) + 4 = ((12 + (4 * g + 4 * (k + 1)) : Nat) : Int) := by omega
   simp only [← hk9, g1, n0_r, n352_r, n0_q, n352_q, Nat.add_assoc, go_sem]
   repeat refine sd2 ?_
   refine CallVC.same (rNum_ok c.bd (12 + (4 * g + 4 * k)) 4 _ 4 rfl rfl (by omega) (by omega) hl) ?_
   simp only [n352_r, r_n1, q_0, q_32, q_352, n352_q, q_r, q_n1, q_n2, q_n5, kS2, kS2', kS3, Nat.add_assoc, go_sem]
   repeat refine sd2 ?_
   refine ⟨okDyn_num (fun x => if x.i = q then 1 else x.i % 10000 + 100) (by simp only [numF, List.map, n0_q, n352_q, q_n1, if_true, if_false, Nat.mul_add_mod, Nat.reduceMod]; kernel_rfl), ?_⟩
   repeat refine sd2 ?_
   refine ⟨(i + 1, 10000 * (i + 1) + 288), ⟨by simp only []; omega, by simp only []; omega, by simp only []; omega, by simp only []; omega⟩, by simp only []; omega, ?_⟩
   refine Sub.of (hfz hF2) (by simp only [hk1, e4, go_sem, subT, and_self, Int.natCast_succ]) ?_ (by simp [subK, keys]) (by simp only []; omega)
   simp [subH, Tx.look, hk1, e3, eI, r_0, r_32, r_352, r_n1, q_n1, nB, kS2]
  ·have g1 : decide ((k : Int) < (u : Int)) = false := dF (by omega)
   have hku : k = u := by omega
   rw [hku] at hdl hdl' hk9 g1
   obtain ⟨xs, hxs⟩ : ∃ xs, xs = skQ c.bd g u := ⟨_, rfl⟩
   rw [← hxs] at hdl hdl' hd
   simp only [← hk9, ← hxs, g1, n352_r, n352_q, Nat.add_assoc, go_sem]
   repeat refine sd2 ?_
   have hwk : wkN (.agg [.int .i64 n1, .int .i64 n2, .sl ⟨L + 1, r⟩ 0 g, .sl ⟨L + 1, q⟩ 0 u]) d.v = [⟨L + 1, r⟩, ⟨L + 1, q⟩] := by rw [hd]; simp only [Skx.v, sackP]; simp [wkN, wkNL]
   refine CallVC.pure (args2 := [d.v]) (by rw [hd]; simp [Skx.v, sackP, Wk, WkL, hln, hdl, List.take_of_length_le, r_0, r_32, r_352, q_0, q_32, q_352, q_r]) (hR _ _ _) rfl ?_
   cases hok : d.ok with
   | false =>
    have g2 : (!false) = true := rfl
    rw [if_neg (by simp)]
    simp only [n32_r, n32_q, g2, hwk, wkNL, List.cons_append, List.nil_append, Nat.add_assoc, go_sem]
    refine ⟨okDyn_num (fun x => if x.i = q then 1 else if x.i = r then 2 else x.i % 10000 + 100) (by simp only [numF, List.map, n352_r, n352_q, q_r, nr_q, if_true, if_false, Nat.reduceMod]; kernel_rfl), ?_⟩
    repeat refine sd2 ?_
    exact PostF.same (p := True) (.inr rfl) (by simp only [zSck, n32_r, n32_q, resVal, resVals, resVal1, one, go_sem]) trivial (by simp [zSck, Tx.nf, nfl]) (by simp [UpdAll])
   | true =>
    have g2 : (!true) = false := rfl
    simp only [n352_r, n352_q, g2, hwk, wkNL, List.cons_append, List.nil_append, Nat.add_assoc, go_sem]
    repeat refine sd2 ?_
    refine CallVC.pure (args2 := [d.v]) (by rw [hd]; simp [Skx.v, sackP, Wk, WkL, hln, hdl, List.take_of_length_le, r_0, r_32, r_352, q_0, q_32, q_352, q_r]) (hP hok _ _ _) rfl ?_
    simp only [n0_r, n32_r, n352_r, n0_q, n32_q, n352_q, hwk, wkNL, List.cons_append, List.nil_append, Nat.add_assoc, go_sem]
    refine ⟨okDyn_num (fun x => if x.i = q then 1 else if x.i = r then 2 else x.i % 10000 + 100) (by simp only [numF, List.map, n0_r, n352_r, n0_q, n352_q, q_r, nr_q, if_true, if_false, Nat.reduceMod]; kernel_rfl), ?_⟩
    repeat refine sd2 ?_
    have g3 : ((3 : Int) == c.kd) = true := by rw [hk]; rfl
    by_cases hq9 : (0 : Int) = c.fl ∧ d.oct = c.bd
    ·have b1 : (!((3 : Int) == c.kd && ((0 : Int) == c.fl && d.oct == c.bd))) = false := by rw [g3, ← hq9.1, hq9.2]; simp
     simp only [if_pos hq9, b1, go_sem]
     repeat refine sd2 ?_
     exact PostF.of (p := True) (v0 := .tup [.agg [.int .i64 n1, .int .i64 n2, .sl ⟨L + 1, r⟩ 0 g, .sl ⟨L + 1, q⟩ 0 u], .int .i64 0]) (.inr rfl) (by simp only [n32_r, n32_q, resVal, resVals, resVal1, one, go_sem]) trivial (by rw [hd]; simp [Skx.v, sackP, Wk, WkL, Tx.look, hln, hdl, List.take_of_length_le, r_0, r_32, r_352, q_0, q_32, q_352, q_r]) (by rw [hd]; simp only [Skx.v, sackP]; simp [wkN, wkNL]) (by rw [hd]; simp only [Skx.v, sackP]; simp [Tx.nf, nfl]) trivial (by simp [UpdAll, keys])
    ·have b1 : (!((3 : Int) == c.kd && ((0 : Int) == c.fl && d.oct == c.bd))) = true := by
      rw [g3]
      simp only [Bool.true_and, Bool.not_eq_true', Bool.and_eq_false_iff]
      by_cases h1 : (0 : Int) = c.fl
      ·right
       have h2 : d.oct ≠ c.bd := fun h => hq9 ⟨h1, h⟩
       simpa using h2
      ·left; simpa using h1
     simp only [if_neg hq9, b1, go_sem]
     repeat refine sd2 ?_
     exact PostF.same (p := True) (.inr rfl) (by simp only [zSck, n32_r, n32_q, resVal, resVals, resVal1, one, go_sem]) trivial (by simp [zSck, Tx.nf, nfl]) (by simp [UpdAll])
def iniX (c : Ckx) : Ini := ⟨numX c.bd 0 4, numX c.bd 4 4, numX c.bd 8 2, numX c.bd 10 2, numX c.bd 12 4, c.bd.drop 16⟩
def getIniX (c : Ckx) : PV := if c.kd = 1 ∨ c.kd = 2 then (if (iniX c).ok = true ∧ iniK (iniX c).ck = c.kd ∧ (0 : Int) = c.fl ∧ (iniX c).oct = c.bd then .tup [.agg (iniX c).row, .int .i64 0] else .tup [.agg zIni.row, .int .i64 5]) else .tup [.agg zIni.row, .int .i64 2]
theorem xGetInit_ok {F : SF} {L nx : Nat} (c : Ckx) (hl : c.bd.length ≤ 1000000) : Con Tryz.prog 81 [.agg c.row] F L nx nx (getIniX c) [] [] := by
 unfold getIniX
 by_cases hk : c.kd = 1 ∨ c.kd = 2
 ·rw [if_pos hk]
  have f1 : (c.kd != 1) = false ∨ ((c.kd != 1) = true ∧ (c.kd != 2) = false) := by
   rcases hk with h | h
   ·exact .inl (by rw [h]; rfl)
   ·exact .inr ⟨by rw [h]; rfl, by rw [h]; rfl⟩
  obtain ⟨d, hd⟩ : ∃ d, d = iniX c := ⟨_, rfl⟩
  rw [← hd]
  have hR := fun F L nx => rRightInit_ok (F := F) (L := L) (nx := nx) d
  have hrow : [PV.int .i64 (numX c.bd 0 4), .int .i64 (numX c.bd 4 4), .int .i64 (numX c.bd 8 2), .int .i64 (numX c.bd 10 2), .int .i64 (numX c.bd 12 4), .str (c.bd.drop 16)] = d.row := by rw [hd]; rfl
  have hrl : d.row.length = 6 := rfl
  have hrn : nfl d.row = true := rfl
  simp only [Ckx.row]
  refine bdy Tryz.f81 ?_
  intro F3 hF1 hF2
  simp only [Tryz.f81, cx, Nat.add_zero, go_sem, meths]
  rcases f1 with f1 | ⟨f1, f2⟩
  all_goals
   first
    | simp only [f1, f2, go_sem]
    | simp only [f1, go_sem]
   repeat refine sd2 ?_
   refine CallVC.same (rNum_ok c.bd 0 4 0 4 rfl rfl (by omega) (by omega) hl) ?_
   simp only [go_sem]
   repeat refine sd2 ?_
   refine CallVC.same (rNum_ok c.bd 4 4 4 4 rfl rfl (by omega) (by omega) hl) ?_
   simp only [go_sem]
   repeat refine sd2 ?_
   refine CallVC.same (rNum_ok c.bd 8 2 8 2 rfl rfl (by omega) (by omega) hl) ?_
   simp only [go_sem]
   repeat refine sd2 ?_
   refine CallVC.same (rNum_ok c.bd 10 2 10 2 rfl rfl (by omega) (by omega) hl) ?_
   simp only [go_sem]
   repeat refine sd2 ?_
   refine CallVC.same (rNum_ok c.bd 12 4 12 4 rfl rfl (by omega) (by omega) hl) ?_
   simp only [go_sem]
   repeat refine sd2 ?_
   refine CallVC.same (rFrom_ok c.bd 16 16 rfl hl) ?_
   simp only [hrow, go_sem]
   repeat refine sd2 ?_
   refine CallVC.same (hR _ _ _) ?_
   cases hok : d.ok with
   | false =>
    have g1 : (!false) = true := rfl
    rw [if_neg (by simp)]
    simp only [g1, go_sem]
    refine ⟨okDyn_num (fun x => x.i) (by kernel_rfl), ?_⟩
    repeat refine sd2 ?_
    exact PostF.same (p := True) (.inr rfl) (by simp only [zIni, Ini.row, resVal, resVals, resVal1, one, go_sem]) trivial (by simp [zIni, Ini.row, Tx.nf, nfl]) (by simp [UpdAll])
   | true =>
    have g1 : (!true) = false := rfl
    simp only [g1, go_sem]
    refine CallVC.same (rPutInit_ok d hok) ?_
    simp only [go_sem]
    refine ⟨okDyn_num (fun x => x.i) (by kernel_rfl), ?_⟩
    repeat refine sd2 ?_
    by_cases hq : iniK d.ck = c.kd ∧ (0 : Int) = c.fl ∧ d.oct = c.bd
    ·have b1 : (!(iniK d.ck == c.kd && ((0 : Int) == c.fl && d.oct == c.bd))) = false := by rw [hq.1, hq.2.1, hq.2.2]; simp
     rw [if_pos hq]
     simp only [b1, hrl, hrn, go_sem]
     repeat refine sd2 ?_
     exact PostF.same (p := True) (.inr rfl) (by simp only [resVal, resVals, resVal1, one, go_sem]) trivial (by simp [Tx.nf, nfl, hrn]) (by simp [UpdAll])
    ·have b1 : (!(iniK d.ck == c.kd && ((0 : Int) == c.fl && d.oct == c.bd))) = true := by
      cases hb : (iniK d.ck == c.kd && ((0 : Int) == c.fl && d.oct == c.bd)) with
      | false => rfl
      | true =>
       simp only [Bool.and_eq_true, beq_iff_eq] at hb
       exact absurd ⟨hb.1, hb.2.1, hb.2.2⟩ hq
     rw [if_neg hq]
     simp only [b1, hrl, hrn, go_sem]
     repeat refine sd2 ?_
     exact PostF.same (p := True) (.inr rfl) (by simp only [zIni, Ini.row, resVal, resVals, resVal1, one, go_sem]) trivial (by simp [zIni, Ini.row, Tx.nf, nfl]) (by simp [UpdAll])
 ·rw [if_neg hk]
  have f1 : (c.kd != 1) = true := by simp; intro h; exact hk (.inl h)
  have f2 : (c.kd != 2) = true := by simp; intro h; exact hk (.inr h)
  simp only [Ckx.row]
  refine bdy Tryz.f81 ?_
  intro F3 hF1 hF2
  simp only [Tryz.f81, cx, f1, f2, Nat.add_zero, go_sem, meths]
  repeat refine sd2 ?_
  exact PostF.same (p := True) (.inr rfl) (by simp only [zIni, Ini.row, resVal, resVals, resVal1, one, go_sem]) trivial (by simp [zIni, Ini.row, Tx.nf, nfl]) (by simp [UpdAll])
theorem numX_in {s : List UInt8} {p n : Nat} (h : p + n ≤ s.length) : numX s p n = getB ((s.drop p).take n) := by unfold numX; rw [if_pos h]
theorem dataB_len (d : Dat) : (dataB d).length = 12 + d.pl.length := by
 unfold dataB; simp only [List.length_append, putB_len]; try omega
theorem flD_ran (la fi lo : Bool) : 0 ≤ flD la fi lo 3 ∧ flD la fi lo 3 ≤ 7 := by
 cases la <;> cases fi <;> cases lo <;> decide
theorem getDat_eq (c : Ckx) : getDatX c = getDatV c := by
 unfold getDatX getDatV
 by_cases hk : c.kd = 0
 rotate_left
 ·rw [if_neg hk, if_neg hk]
 rw [if_pos hk, if_pos hk]
 by_cases hf : 0 ≤ c.fl ∧ c.fl ≤ 7
 rotate_left
 ·rw [if_neg, if_neg]
  ·unfold datOk
   simp only [Bool.and_eq_true, decide_eq_true_eq]
   rintro ⟨_, _, h, _⟩
   exact hf (by rw [← h]; exact flD_ran _ _ _)
  ·rintro ⟨_, h, _⟩
   exact hf (by rw [← h]; exact flD_ran _ _ _)
 by_cases hl : 12 ≤ c.bd.length
 rotate_left
 ·rw [if_neg, if_neg]
  ·unfold datOk
   simp only [Bool.and_eq_true, decide_eq_true_eq]
   rintro ⟨h, _⟩
   exact hl h
  ·rintro ⟨_, _, h⟩
   have := congrArg List.length h
   rw [dataB_len] at this
   omega
 have e : datX c = datG c := by
  unfold datX datG
  rw [numX_in (by omega), numX_in (by omega), numX_in (by omega), numX_in (by omega), List.drop_zero]
  obtain ⟨f, hf9⟩ : ∃ f, f = c.fl := ⟨_, rfl⟩
  rw [← hf9] at hf ⊢
  have h8 : f = 0 ∨ f = 1 ∨ f = 2 ∨ f = 3 ∨ f = 4 ∨ f = 5 ∨ f = 6 ∨ f = 7 := by omega
  rcases h8 with rfl | rfl | rfl | rfl | rfl | rfl | rfl | rfl <;> rfl
 rw [e]
 unfold datOk
 simp only [Bool.and_eq_true, decide_eq_true_eq, hl, true_and]
theorem ini_oct_len (d : Ini) : d.oct.length = 16 + d.ck.length := by
 unfold Ini.oct iniB; simp only [List.length_append, putB_len]; try omega
theorem getIni_eq (c : Ckx) : getIniX c = getIniV c := by
 unfold getIniX getIniV
 by_cases hk : c.kd = 1 ∨ c.kd = 2
 rotate_left
 ·rw [if_neg hk, if_neg hk]
 rw [if_pos hk, if_pos hk]
 by_cases hl : 16 ≤ c.bd.length
 rotate_left
 ·rw [if_neg, if_neg]
  ·unfold iniOk
   simp only [Bool.and_eq_true, decide_eq_true_eq]
   rintro ⟨h, _⟩
   exact hl h
  ·rintro ⟨_, _, _, h⟩
   have := congrArg List.length h
   rw [ini_oct_len] at this
   omega
 have e : iniX c = iniG c := by
  unfold iniX iniG
  rw [numX_in (by omega), numX_in (by omega), numX_in (by omega), numX_in (by omega), numX_in (by omega), List.drop_zero]
 rw [e]
 unfold iniOk
 simp only [Bool.and_eq_true, decide_eq_true_eq, hl, true_and]
theorem fwdT_len (cum : Nat) (sk : List (Nat × Nat)) : (fwdT cum sk).length = 4 + 4 * sk.length := by
 unfold fwdT; rw [List.length_append, putB_len, skT_len]
theorem fwS_eq {s : List UInt8} {n : Nat} (h : 4 + 4 * n ≤ s.length) : fwS s n = pairsG s 4 n := by
 unfold fwS pairsG
 apply List.map_congr_left
 intro j hj
 have := List.mem_range.1 hj
 rw [numX_in (by omega), numX_in (by omega), Nat.add_assoc]
theorem getFw_eq (c : Ckx) : getFwX c = getFwxV c := by
 unfold getFwX getFwxV
 by_cases hk : c.kd = 192
 rotate_left
 ·rw [if_neg hk, if_neg hk]
 rw [if_pos hk, if_pos hk]
 have hN : fwN c.bd = fwdC c.bd := rfl
 by_cases hl : 4 ≤ c.bd.length ∧ 4 + 4 * fwdC c.bd = c.bd.length
 rotate_left
 ·rw [if_neg, if_neg]
  ·unfold fwxOk
   simp only [Bool.and_eq_true, decide_eq_true_eq]
   rintro ⟨h, h1, _⟩
   exact hl ⟨h, h1⟩
  ·rintro ⟨_, _, h⟩
   have := congrArg List.length h
   rw [fwdT_len, fwS_len, hN] at this
   exact hl ⟨by omega, this⟩
 have e : fwS c.bd (fwN c.bd) = pairsG c.bd 4 (fwdC c.bd) := by rw [hN]; exact fwS_eq (by omega)
 have e2 : numX c.bd 0 4 = getB (c.bd.take 4) := by rw [numX_in (by omega), List.drop_zero]
 have e3 : (fwxG c.bd).oct = fwdT (numX c.bd 0 4) (fwS c.bd (fwN c.bd)) := by
  rw [e, e2]
  unfold Fwx.oct fwxG
  simp only [Int.toNat_natCast, List.map_map]
  congr 1
  rw [List.map_congr_left (g := id) (by intro x _; rfl), List.map_id]
 have e4 : (fwxG c.bd).ok = fwdV (numX c.bd 0 4) ((fwS c.bd (fwN c.bd)).map kN) := by rw [e, e2]; rfl
 have e5 : (fwxG c.bd).v = fwdP (numX c.bd 0 4) ((fwS c.bd (fwN c.bd)).map kN) := by rw [e, e2]; rfl
 unfold fwxOk
 rw [e3, e4, e5]
 simp only [Bool.and_eq_true, decide_eq_true_eq, hl, true_and]
theorem sackO_len (c w : Int) (gs : List (Int × Int)) (ds : List Int) : (sackO c w gs ds).length = 12 + 4 * gs.length + 4 * ds.length := by
 unfold sackO sackT
 simp only [List.length_append, putB_len, skT_len, flat_len, List.length_map]
 try omega
theorem skP_eq {s : List UInt8} {n : Nat} (h : 12 + 4 * n ≤ s.length) : skP s n = pairsG s 12 n := by
 unfold skP pairsG
 apply List.map_congr_left
 intro j hj
 have := List.mem_range.1 hj
 rw [numX_in (by omega), numX_in (by omega), Nat.add_assoc]
theorem skQ_eq {s : List UInt8} {g n : Nat} (h : 12 + 4 * g + 4 * n ≤ s.length) : skQ s g n = (numsG s (12 + 4 * g) 4 n).map fun x : Nat => (x : Int) := by
 unfold skQ numsG
 rw [List.map_map]
 apply List.map_congr_left
 intro j hj
 have := List.mem_range.1 hj
 show ((numX s (12 + (4 * g + 4 * j)) 4 : Nat) : Int) = ((getB ((s.drop (12 + 4 * g + 4 * j)).take 4) : Nat) : Int)
 rw [numX_in (by omega), Nat.add_assoc]
theorem getSk_eq (c : Ckx) : getSkX c = getSckV c := by
 unfold getSkX getSckV
 by_cases hk : c.kd = 3
 rotate_left
 ·rw [if_neg hk, if_neg hk]
 rw [if_pos hk, if_pos hk]
 have len1 : (skX c.bd).oct.length = 12 + 4 * skG c.bd + 4 * skD c.bd := by
  show (sackO _ _ _ _).length = _
  rw [sackO_len]
  simp only [skX, List.length_map, skP_len, skQ_len]
 by_cases h12 : 12 ≤ c.bd.length
 rotate_left
 ·rw [if_neg, if_neg]
  ·unfold sckOk sckN
   simp only [Bool.and_eq_true, decide_eq_true_eq]
   rintro ⟨h, _⟩
   omega
  ·rintro ⟨_, _, h⟩
   have := congrArg List.length h
   omega
 have eG : numX c.bd 8 2 = sackG c.bd := numX_in (by omega)
 have eD : numX c.bd 10 2 = sackD c.bd := numX_in (by omega)
 by_cases h40 : sackG c.bd ≤ 40 ∧ sackD c.bd ≤ 40
 rotate_left
 ·rw [if_neg, if_neg]
  ·unfold sckOk
   simp only [Bool.and_eq_true, decide_eq_true_eq]
   rintro ⟨_, h, _⟩
   obtain ⟨_, _, _, b4, b5, _⟩ := sackB h
   simp only [sckG, List.length_map, pairsG_len, numsG_len] at b4 b5
   exact h40 ⟨by omega, by omega⟩
  ·rintro ⟨h, _, _⟩
   obtain ⟨_, _, _, b4, b5, _⟩ := sackB h
   simp only [skX, List.length_map, skP_len, skQ_len, skG, skD, eG, eD] at b4 b5
   exact h40 ⟨by omega, by omega⟩
 have g1 : skG c.bd = sackG c.bd := by unfold skG; rw [eG]; omega
 have g2 : skD c.bd = sackD c.bd := by unfold skD; rw [eD]; omega
 by_cases hl : sckN c.bd = c.bd.length
 rotate_left
 ·rw [if_neg, if_neg]
  ·unfold sckOk
   simp only [Bool.and_eq_true, decide_eq_true_eq]
   rintro ⟨h, _⟩
   exact hl h
  ·rintro ⟨_, _, h⟩
   have := congrArg List.length h
   unfold sckN at hl
   rw [g1, g2] at len1
   omega
 have e : skX c.bd = sckG c := by
  unfold sckN at hl
  unfold skX sckG
  rw [g1, g2, skP_eq (by omega), skQ_eq (by omega), numX_in (by omega), numX_in (by omega), List.drop_zero]
 rw [e]
 unfold sckOk
 simp only [Bool.and_eq_true, decide_eq_true_eq, hl, true_and]
theorem resetB_len (k n la r : Int) (xs : List Int) : (resetB k n la r xs).length = if k = 2 then 6 else 9 + 2 * xs.length := by
 unfold resetB
 split
 ·simp only [List.length_append, putB_len]
 ·simp only [List.length_append, putB_len, flat_len, List.length_map]
  omega
theorem rsS_eq {s : List UInt8} {n : Nat} (h : 9 + 2 * n ≤ s.length) : rsS s n = (numsG s 9 2 n).map fun x : Nat => (x : Int) := by
 unfold rsS numsG
 rw [List.map_map]
 apply List.map_congr_left
 intro j hj
 have := List.mem_range.1 hj
 show ((numX s (9 + 2 * j) 2 : Nat) : Int) = ((getB ((s.drop (9 + 2 * j)).take 2) : Nat) : Int)
 rw [numX_in (by omega)]
theorem getB_take1 {s : List UInt8} (h : s.length < 1) : getB (s.take 1) = 0 := by
 cases s with
 | nil => rfl
 | cons a l => simp at h
theorem getRs_eq (c : Ckx) : getRsX c = getRsxV c := by
 unfold getRsX getRsxV
 by_cases hk : c.kd = 130
 rotate_left
 ·rw [if_neg hk, if_neg hk]
 rw [if_pos hk, if_pos hk]
 have e1 : numX c.bd 0 1 = getB (c.bd.take 1) := by
  by_cases h : 1 ≤ c.bd.length
  ·rw [numX_in (by omega), List.drop_zero]
  ·rw [getB_take1 (by omega)]; unfold numX; rw [if_neg (by omega)]
 obtain ⟨k, hk9⟩ : ∃ k, k = getB (c.bd.take 1) := ⟨_, rfl⟩
 rw [← hk9] at e1
 by_cases k1 : k = 1
 ·have hX : rsX c.bd = ⟨1, numX c.bd 1 4, numX c.bd 5 4, 0, rsS c.bd (rsN c.bd)⟩ := by unfold rsX; rw [e1, k1]; rfl
  have hO : (rsX c.bd).oct.length = 9 + 2 * rsN c.bd := by
   rw [hX]; show (resetB _ _ _ _ _).length = _
   rw [resetB_len, if_neg (show ¬ (1 : Int) = 2 by decide), rsS_len]
  have hP : resetP c.bd = 9 + 2 * resetN c.bd := by unfold resetP; rw [← hk9, if_pos k1]
  have hM : resetMin c.bd = 9 := by unfold resetMin; rw [← hk9, if_pos k1]
  have hN : rsN c.bd = resetN c.bd := rfl
  by_cases hl : 9 ≤ c.bd.length ∧ 9 + 2 * resetN c.bd = c.bd.length
  rotate_left
  ·rw [if_neg, if_neg]
   ·unfold rsxOk
    simp only [Bool.and_eq_true, decide_eq_true_eq, hP, hM]
    rintro ⟨h, h1, _⟩
    exact hl ⟨h, h1⟩
   ·rintro ⟨_, _, h⟩
    have := congrArg List.length h
    rw [hO, hN] at this
    exact hl ⟨by omega, this⟩
  have e : rsX c.bd = rsxG c.bd := by
   rw [hX]
   unfold rsxG
   rw [← hk9, if_pos k1, hN, rsS_eq (by omega), numX_in (by omega), numX_in (by omega)]
  rw [e]
  unfold rsxOk
  rw [hM, hP]
  simp only [Bool.and_eq_true, decide_eq_true_eq, hl, true_and]
 by_cases k2 : k = 2
 ·have hX : rsX c.bd = ⟨2, numX c.bd 1 4, 0, numX c.bd 5 1, []⟩ := by unfold rsX; rw [e1, if_pos k2]
  have hO : (rsX c.bd).oct.length = 6 := by
   rw [hX]; show (resetB _ _ _ _ _).length = _
   rw [resetB_len, if_pos rfl]
  have hP : resetP c.bd = 6 := by unfold resetP; rw [← hk9, if_neg k1]
  have hM : resetMin c.bd = 6 := by unfold resetMin; rw [← hk9, if_neg k1]
  by_cases hl : 6 = c.bd.length
  rotate_left
  ·rw [if_neg, if_neg]
   ·unfold rsxOk
    simp only [Bool.and_eq_true, decide_eq_true_eq, hP, hM]
    rintro ⟨h, h1, _⟩
    exact hl h1
   ·rintro ⟨_, _, h⟩
    have := congrArg List.length h
    rw [hO] at this
    exact hl this
  have e : rsX c.bd = rsxG c.bd := by
   rw [hX]
   unfold rsxG
   rw [← hk9, if_neg k1, numX_in (by omega), numX_in (by omega)]
  rw [e]
  unfold rsxOk
  rw [hM, hP]
  have h6 : 6 ≤ c.bd.length := by omega
  simp only [Bool.and_eq_true, decide_eq_true_eq, ← hl, Nat.le_refl, true_and]
 ·rw [if_neg, if_neg]
  ·unfold rsxOk
   simp only [Bool.and_eq_true, decide_eq_true_eq]
   rintro ⟨_, _, _, _, h⟩
   have h2 : (rsxG c.bd).oct.take 1 = putB 1 2 := by
    unfold rsxG
    rw [← hk9, if_neg k1]
    show (resetB _ _ _ _ _).take 1 = _
    unfold resetB
    rw [if_pos rfl]
    rfl
   rw [h] at h2
   rw [h2] at hk9
   exact k2 (by rw [hk9]; rfl)
  ·rintro ⟨h, _⟩
   have hX : rsX c.bd = ⟨k, numX c.bd 1 4, numX c.bd 5 4, 0, rsS c.bd (rsN c.bd)⟩ := by unfold rsX; rw [e1, if_neg k2]
   rw [hX] at h
   obtain ⟨_, _, _, _, h4⟩ := rstB h
   simp only at h4
   omega
structure NilOr (x y : PV) : Prop where
 nf : Tx.nf x = true
 wk : ∀ F, Wk F x y
 wn : wkN x y = []
theorem nilOr_fs (w : Nat) (rs : List (List PV)) : NilOr (.fs w rs) (.fs w rs) := ⟨rfl, fun F => by simp [Wk], rfl⟩
theorem nilOr_nil {w : Nat} (h : 0 < w) : NilOr .nilS (.fs w []) := ⟨rfl, fun F => by simp [Wk, h], rfl⟩
theorem datV_shape (c : Ckx) : ∃ (d : Dat) (e : Int), getDatV c = .tup [.agg d.row, .int .i64 e] := by
 unfold getDatV
 split
 ·split
  ·exact ⟨_, _, rfl⟩
  ·exact ⟨_, _, rfl⟩
 ·exact ⟨_, _, rfl⟩
theorem iniV_shape (c : Ckx) : ∃ (d : Ini) (e : Int), getIniV c = .tup [.agg d.row, .int .i64 e] := by
 unfold getIniV
 split
 ·split
  ·exact ⟨_, _, rfl⟩
  ·exact ⟨_, _, rfl⟩
 ·exact ⟨_, _, rfl⟩
theorem sckV_shape (c : Ckx) : ∃ (cu w : Int) (gs : List (Int × Int)) (ds : List Int) (x y : PV) (e : Int), getSckV c = .tup [.agg [.int .i64 cu, .int .i64 w, x, y], .int .i64 e] ∧ NilOr x (.fs 2 (gs.map kE)) ∧ NilOr y (.fs 1 (ds.map eI)) ∧ gs.length ≤ 1000000 ∧ ds.length ≤ 1000000 := by
 unfold getSckV
 split
 ·split
  ·rename_i h
   unfold sckOk at h
   simp only [Bool.and_eq_true, decide_eq_true_eq] at h
   obtain ⟨_, h, _⟩ := h
   obtain ⟨_, _, _, b4, b5, _⟩ := sackB h
   exact ⟨_, _, _, _, _, _, _, rfl, nilOr_fs _ _, nilOr_fs _ _, by omega, by omega⟩
  ·exact ⟨0, 0, [], [], _, _, _, rfl, nilOr_nil (by omega), nilOr_nil (by omega), by simp, by simp⟩
 ·exact ⟨0, 0, [], [], _, _, _, rfl, nilOr_nil (by omega), nilOr_nil (by omega), by simp, by simp⟩
theorem fwxV_shape (c : Ckx) : ∃ (cu : Int) (gs : List (Int × Int)) (x : PV) (e : Int), getFwxV c = .tup [.agg [.int .i64 cu, x], .int .i64 e] ∧ NilOr x (.fs 2 (gs.map kE)) ∧ gs.length ≤ 1000000 := by
 unfold getFwxV
 split
 ·split
  ·rename_i h
   unfold fwxOk at h
   simp only [Bool.and_eq_true, decide_eq_true_eq] at h
   obtain ⟨_, _, h, _⟩ := h
   have := fwdB h
   exact ⟨_, _, _, _, rfl, nilOr_fs _ _, by omega⟩
  ·exact ⟨0, [], _, _, rfl, nilOr_nil (by omega), by simp⟩
 ·exact ⟨0, [], _, _, rfl, nilOr_nil (by omega), by simp⟩
theorem rsxV_shape (c : Ckx) (hl : c.bd.length ≤ 1000000) : ∃ (k n la r : Int) (xs : List Int) (x : PV) (e : Int), getRsxV c = .tup [.agg [.int .i64 k, .int .i64 n, .int .i64 la, .int .i64 r, x], .int .i64 e] ∧ NilOr x (.fs 1 (xs.map eI)) ∧ xs.length ≤ 1000000 := by
 unfold getRsxV
 split
 ·split
  ·have := rsxG_len c.bd
   exact ⟨_, _, _, _, _, _, _, rfl, nilOr_fs _ _, by omega⟩
  ·exact ⟨0, 0, 0, 0, [], _, _, rfl, nilOr_nil (by omega), by simp⟩
 ·exact ⟨0, 0, 0, 0, [], _, _, rfl, nilOr_nil (by omega), by simp⟩
theorem gets_ok {F : SF} {L nx : Nat} (c : Ckx) (hl : c.bd.length ≤ 1000000) (hf : -9223372036854775808 ≤ c.fl ∧ c.fl ≤ 9223372036854775807) : Con Tryz.prog 42 [.agg c.row] F L nx nx (.bool true) [] [] := by
 have a1 := fun F L nx => getDataT_ok (F := F) (L := L) (nx := nx) c hl
 have b1 := fun F L nx => xGetData_ok (F := F) (L := L) (nx := nx) c hl hf
 have a2 := fun F L nx => getSackT_ok (F := F) (L := L) (nx := nx) c hl
 have b2 := fun F L nx => xGetSack_ok (F := F) (L := L) (nx := nx) c hl
 have a3 := fun F L nx => getInitT_ok (F := F) (L := L) (nx := nx) c hl
 have b3 := fun F L nx => xGetInit_ok (F := F) (L := L) (nx := nx) c hl
 have a4 := fun F L nx => getForwardT_ok (F := F) (L := L) (nx := nx) c hl
 have b4 := fun F L nx => xGetForward_ok (F := F) (L := L) (nx := nx) c hl
 have a5 := fun F L nx => getResetT_ok (F := F) (L := L) (nx := nx) c hl
 have b5 := fun F L nx => xGetReset_ok (F := F) (L := L) (nx := nx) c hl
 rw [getDat_eq] at b1
 rw [getSk_eq] at b2
 rw [getIni_eq] at b3
 rw [getFw_eq] at b4
 rw [getRs_eq] at b5
 obtain ⟨d, e1, h1⟩ := datV_shape c
 obtain ⟨cu, w, gs, ds, x1, y1, e2, h2, hx1, hy1, lg, ld⟩ := sckV_shape c
 obtain ⟨i, e3, h3⟩ := iniV_shape c
 obtain ⟨cm, sk, x2, e4, h4, hx2, lk⟩ := fwxV_shape c
 obtain ⟨k, n, la, r, xs, x3, e5, h5, hx3, lx⟩ := rsxV_shape c hl
 rw [h1] at a1 b1
 rw [h2] at a2 b2
 rw [h3] at a3 b3
 rw [h4] at a4 b4
 rw [h5] at a5 b5
 clear h1 h2 h3 h4 h5
 have mS := fun F L nx => sameSck_ok (F := F) (L := L) (nx := nx) cu w cu w gs gs ds ds (by omega) (by omega) (by omega) (by omega)
 have mF := fun F L nx => sameFwd_ok (F := F) (L := L) (nx := nx) cm cm sk sk (by omega) (by omega)
 have mR := fun F L nx => sameRst_ok (F := F) (L := L) (nx := nx) k n la r k n la r xs xs (by omega) (by omega)
 simp only [beq_self_eq_true, Bool.and_true] at mS mF mR
 obtain ⟨fx1, wx1, nx1⟩ := hx1
 obtain ⟨fy1, wy1, ny1⟩ := hy1
 obtain ⟨fx2, wx2, nx2⟩ := hx2
 obtain ⟨fx3, wx3, nx3⟩ := hx3
 simp only [Ckx.row, Dat.row, Ini.row] at a1 b1 a2 b2 a3 b3 a4 b4 a5 b5 ⊢
 refine bdy Tryz.f42 ?_
 intro F3 hF1 hF2
 simp only [Tryz.f42, cx, go_sem, meths]
 refine CallVC.same (a1 _ _ _) ?_
 simp only [beq_self_eq_true, go_sem]
 refine CallVC.same (b1 _ _ _) ?_
 simp only [beq_self_eq_true, go_sem]
 refine CallVC.same (a2 _ _ _) ?_
 simp only [beq_self_eq_true, fx1, fy1, List.nil_append, List.append_nil, go_sem]
 refine CallVC.same (b2 _ _ _) ?_
 simp only [beq_self_eq_true, fx1, fy1, List.nil_append, List.append_nil, go_sem]
 refine CallVC.pure (args2 := [sackP cu w gs ds, sackP cu w gs ds]) (by simp [sackP, WkL, Wk, wx1, wy1]) (mS _ _ _) rfl ?_
 simp only [beq_self_eq_true, Bool.not_true, bne_self_eq_false, nx1, ny1, sackP, wkN, wkNL, List.nil_append, List.append_nil, go_sem]
 repeat refine sd2 ?_
 refine CallVC.same (a3 _ _ _) ?_
 simp only [beq_self_eq_true, List.nil_append, List.append_nil, go_sem]
 refine CallVC.same (b3 _ _ _) ?_
 simp only [beq_self_eq_true, Bool.not_true, bne_self_eq_false, List.nil_append, List.append_nil, go_sem]
 refine CallVC.same (a4 _ _ _) ?_
 simp only [beq_self_eq_true, fx2, List.nil_append, List.append_nil, go_sem]
 refine CallVC.same (b4 _ _ _) ?_
 simp only [beq_self_eq_true, fx2, List.nil_append, List.append_nil, go_sem]
 refine CallVC.pure (args2 := [fwdP cm sk, fwdP cm sk]) (by simp [fwdP, WkL, Wk, wx2]) (mF _ _ _) rfl ?_
 simp only [beq_self_eq_true, Bool.not_true, bne_self_eq_false, nx2, fwdP, wkN, wkNL, List.nil_append, List.append_nil, go_sem]
 repeat refine sd2 ?_
 refine CallVC.same (a5 _ _ _) ?_
 simp only [beq_self_eq_true, fx3, List.nil_append, List.append_nil, go_sem]
 refine CallVC.same (b5 _ _ _) ?_
 simp only [beq_self_eq_true, fx3, List.nil_append, List.append_nil, go_sem]
 refine CallVC.pure (args2 := [rstP k n la r (.fs 1 (xs.map eI)), rstP k n la r (.fs 1 (xs.map eI))]) (by simp [rstP, WkL, Wk, wx3]) (mR _ _ _) rfl ?_
 simp only [beq_self_eq_true, nx3, rstP, wkN, wkNL, List.nil_append, List.append_nil, go_sem]
 repeat refine sd2 ?_
 exact .bool (.inr rfl) rfl rfl (by simp [UpdAll])
structure Edx where
 a : Nat
 n : Nat
 t : List UInt8
def Edx.row (e : Edx) : List PV := [.int .u16 e.a, .int .u8 e.n, .str e.t]
structure Edx.Ok (e : Edx) : Prop where
 a : e.a < 65536
 n : e.n < 256
 t : e.t.length ≤ maxLen
def Edx.of (e : Edx) (s : List UInt8) : List UInt8 := s.take (e.a % (s.length + 1)) ++ e.t.take 8 ++ s.drop (e.a % (s.length + 1) + e.n % 5)
theorem editOf_ok {F : SF} {L nx : Nat} (e : Edx) (he : e.Ok) (s : List UInt8) (hs : s.length ≤ 1000000) : Con Tryz.prog 16 [.agg e.row, .str s] F L nx nx (.str (e.of s)) [] [] := by
 obtain ⟨ha, hn, ht⟩ := he
 unfold maxLen at ht
 have hm : e.a % (s.length + 1) ≤ s.length := by have := Nat.mod_lt e.a (show s.length + 1 > 0 by omega); omega
 have ka : (e.a : Int).tmod ((s.length : Int) + 1) = ((e.a % (s.length + 1) : Nat) : Int) := by
  have := tmL e.a ((s.length : Int) + 1) (by omega)
  rwa [show ((s.length : Int) + 1).toNat = s.length + 1 by omega] at this
 have kn : (e.n : Int).tmod 5 = ((e.n % 5 : Nat) : Int) := tmL e.n 5 (by omega)
 unfold Edx.of
 obtain ⟨u, hu⟩ : ∃ u, u = e.a % (s.length + 1) := ⟨_, rfl⟩
 obtain ⟨v, hv⟩ : ∃ v, v = e.n % 5 := ⟨_, rfl⟩
 have hv5 : v < 5 := by rw [hv]; exact Nat.mod_lt _ (by omega)
 rw [← hu] at hm ka ⊢
 rw [← hv] at kn ⊢
 have q2 : List.take (min (e.t.length : Int) 8).toNat e.t = e.t.take 8 := by rw [List.take_eq_take_iff]; omega
 have q3 : List.take (s.length - (min ((u : Int) + (v : Int)) s.length).toNat) (List.drop (min ((u : Int) + (v : Int)) s.length).toNat s) = s.drop (u + v) := by
  rw [List.take_of_length_le (by simp)]
  by_cases h : u + v ≤ s.length
  ·rw [show (min ((u : Int) + (v : Int)) s.length).toNat = u + v by omega]
  ·rw [show (min ((u : Int) + (v : Int)) s.length).toNat = s.length by omega, List.drop_length, List.drop_of_length_le (by omega)]
 have l1 : (s.take u).length = u := by rw [List.length_take]; omega
 have l2 : (e.t.take 8).length ≤ 8 := by rw [List.length_take]; omega
 have l3 : (s.drop (u + v)).length ≤ s.length := by rw [List.length_drop]; omega
 refine bdy Tryz.f16 ?_
 intro F3 hF1 hF2
 simp only [Tryz.f16, cx, Edx.row, ka, kn, q2, q3, l1, Nat.sub_zero, List.length_append, Nat.add_assoc, Nat.add_zero, go_sem, meths]
 repeat refine sd2 ?_
 refine ⟨by kernel_rfl, ?_⟩
 exact PostF.rs (v0 := .str (s.take u ++ e.t.take 8 ++ s.drop (u + v))) (.inr rfl)
end Go.Proofs.YtaacfnngodhecaaGreatDoor
end
