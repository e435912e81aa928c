/- Lemmas for the walk: WD23, WK59, WR35, WD24, WK60, WD25, WD26, WD27, WK61. -/
import Derived.Test.YtaacfnngodhecaaGreatDoorP19
import Derived.Test.YtaacfnngodhecaaGreatDoorP18
import Derived.Test.YtaacfnngodhecaaGreatDoorP15
import Derived.Test.YtaacfnngodhecaaGreatDoorP13
set_option linter.all false
section
namespace Go.Proofs.YtaacfnngodhecaaGreatDoor
open Go.Tx
set_option maxRecDepth 100000
set_option maxHeartbeats 4000000
theorem dat_ok_len {d : Dat} (h : d.ok = true) : d.pl.length ≤ 1100 := by
 unfold Dat.ok at h
 simp only [Bool.and_eq_true, decide_eq_true_eq] at h
 omega
theorem ini_ok_len {d : Ini} (h : d.ok = true) : d.ck.length ≤ 200 := by
 unfold Ini.ok at h
 simp only [Bool.and_eq_true, decide_eq_true_eq] at h
 omega
theorem rst_len {k n la r : Int} {xs : List Int} (h : resetV k n la r xs = true) : (resetB k n la r xs).length ≤ 100 := by
 obtain ⟨_, _, _, _, h4⟩ := rstB h
 have hx : xs.length ≤ 30 := by rcases h4 with ⟨_, _, h4⟩ | ⟨_, _, _, h4⟩ <;> simp_all
 rw [resetB_len]
 split <;> omega
theorem Pcx.chk_other (p : Pcx) : (p.pl.take 60).length ≤ 1112 ∧ ((0 : Int) ≤ ((p.a % 2 : Nat) : Int) ∧ ((p.a % 2 : Nat) : Int) ≤ 255) ∧ ((0 : Int) ≤ ((kds.getD (p.w / 8 % 8) 0 : Nat) : Int) ∧ ((kds.getD (p.w / 8 % 8) 0 : Nat) : Int) ≤ 255) := by
 refine ⟨by rw [List.length_take]; omega, by omega, ?_⟩
 have hx : p.w / 8 % 8 < 8 := Nat.mod_lt _ (by omega)
 obtain ⟨x, hx9⟩ : ∃ x, x = p.w / 8 % 8 := ⟨_, rfl⟩
 rw [← hx9] at hx ⊢
 rcases (show x = 0 ∨ x = 1 ∨ x = 2 ∨ x = 3 ∨ x = 4 ∨ x = 5 ∨ x = 6 ∨ x = 7 by omega) with rfl | rfl | rfl | rfl | rfl | rfl | rfl | rfl <;> decide
theorem Pcx.chk_small {p : Pcx} (hp : p.Ok) : p.chk.bd.length ≤ 1112 ∧ (0 ≤ p.chk.fl ∧ p.chk.fl ≤ 255) ∧ (0 ≤ p.chk.kd ∧ p.chk.kd ≤ 255) := by
 have h1 := dat_ok_len hp.dat
 have h3 := ini_ok_len (hp.ini p.m8)
 have h2 := sackB hp.sck
 have h4 := fwdB hp.fwd
 have h5 := rst_len hp.rst
 have f1 := flD_ran p.dat.la p.dat.fi p.dat.lo
 obtain ⟨m, hm⟩ : ∃ m, m = p.w % 8 := ⟨_, rfl⟩
 have hm8 : m < 8 := by rw [hm]; exact Nat.mod_lt _ (by omega)
 unfold Pcx.chk
 rw [← hm]
 have s1 : ∀ (k : Int) (b : List UInt8), b.length ≤ 1112 → 0 ≤ k ∧ k ≤ 255 → b.length ≤ 1112 ∧ ((0 : Int) ≤ 0 ∧ (0 : Int) ≤ 255) ∧ (0 ≤ k ∧ k ≤ 255) := fun k b h h' => ⟨h, by omega, h'⟩
 have s2 : (dataB p.dat).length ≤ 1112 := by rw [dataB_len]; omega
 rcases (show m = 6 ∨ m = 7 ∨ m = 0 ∨ m = 1 ∨ m = 2 ∨ m = 3 ∨ m = 4 ∨ m = 5 by omega) with rfl | rfl | rfl | rfl | rfl | rfl | rfl | rfl
 ·exact Pcx.chk_other p
 ·exact Pcx.chk_other p
 ·exact ⟨s2, ⟨f1.1, by have := f1.2; show flD _ _ _ 3 ≤ 255; omega⟩, by show (0 : Int) ≤ 0 ∧ (0 : Int) ≤ 255; omega⟩
 ·exact ⟨s2, ⟨f1.1, by have := f1.2; show flD _ _ _ 3 ≤ 255; omega⟩, by show (0 : Int) ≤ 0 ∧ (0 : Int) ≤ 255; omega⟩
 ·exact s1 3 (sackO p.a p.b ((p.gp p.n).map kN) ((p.db (p.c % 6)).map fun x : Nat => (x : Int))) (by rw [sackO_len]; omega) (by omega)
 ·exact s1 (iniK (p.ini p.m8).ck) (p.ini p.m8).oct (by rw [ini_oct_len]; omega) (by unfold iniK; split <;> omega)
 ·exact s1 192 (fwdT p.a (p.sk p.n)) (by rw [fwdT_len]; simp only [List.length_map] at h4; omega) (by omega)
 ·exact s1 130 (resetB p.rst.kind p.rst.num p.rst.last p.rst.res p.rst.xs) (by omega) (by omega)
structure Dfx where
 fr : Nat
 tt : Nat
 tg : Nat
 ps : List Pcx
def Dfx.row (d : Dfx) : List PV := [.int .u16 d.fr, .int .u16 d.tt, .int .u32 d.tg, .fs 7 (d.ps.map Pcx.row)]
structure Dfx.Ok (d : Dfx) : Prop where
 fr : d.fr < 65536
 tt : d.tt < 65536
 tg : d.tg < 4294967296
 l : d.ps.length ≤ maxLen
 p : ∀ p ∈ d.ps, p.Ok
def Dfx.pk (d : Dfx) (cs : List Ckx) : Pkx := ⟨d.fr, d.tt, d.tg, cs⟩
def Dfx.ch (d : Dfx) (i : Nat) : Ckx := ((d.ps.map Pcx.chk).getD i ⟨11, 0, []⟩)
def Dfx.cs (d : Dfx) : Nat → List Ckx
 | 0 => []
 | i + 1 => if (d.pk (d.cs i ++ [d.ch i])).ok then d.cs i ++ [d.ch i] else d.cs i
def Dfx.n (d : Dfx) : Nat := min d.ps.length 6
def Dfx.all (d : Dfx) : List Ckx := if d.cs d.n = [] then [⟨11, 0, []⟩] else d.cs d.n
theorem Dfx.cs_len (d : Dfx) : ∀ i, (d.cs i).length ≤ i
 | 0 => Nat.le_refl _
 | i + 1 => by
  have := d.cs_len i
  unfold Dfx.cs
  split
  ·rw [List.length_append]; simp only [List.length_cons, List.length_nil]; omega
  ·omega
theorem rowPcx {ps : List Pcx} {i : Nat} (h : i < ps.length) : (ps.map Pcx.row).getD i [] = (ps[i]).row := by simp [List.getD_eq_getElem?_getD, h]
theorem Dfx.ch_at {d : Dfx} {i : Nat} (h : i < d.ps.length) : d.ch i = (d.ps[i]).chk := by simp [Dfx.ch, List.getD_eq_getElem?_getD, h]
theorem Dfx.cs_small {d : Dfx} (hd : d.Ok) : ∀ i, i ≤ d.ps.length → ∀ c ∈ d.cs i, c.bd.length ≤ 1112
 | 0, _, c, hc => by simp [Dfx.cs] at hc
 | i + 1, hi, c, hc => by
  unfold Dfx.cs at hc
  have ih := Dfx.cs_small hd i (by omega)
  split at hc
  ·rcases List.mem_append.1 hc with h | h
   ·exact ih c h
   ·simp only [List.mem_cons, List.not_mem_nil, or_false] at h
    rw [h, Dfx.ch_at (by omega)]
    exact (Pcx.chk_small (hd.p _ (List.getElem_mem _))).1
  ·exact ih c hc
theorem dPacket_ok {F : SF} {L nx : Nat} (d : Dfx) (hd : d.Ok) : Con Tryz.prog 11 [.agg d.row] F L nx nx (.agg (d.pk d.all).row) [] [] := by
 have hdd := hd
 obtain ⟨hf, ht, hg, hl, hp⟩ := hd
 unfold maxLen at hl
 refine bdy Tryz.f11 ?_
 intro F3 hF1 hF2
 simp only [Tryz.f11, cx, Dfx.row, Nat.add_zero, go_sem, meths]
 repeat refine sd2 ?_
 refine loopK.intro _ _ (I := fun z : Nat × Nat => ⟨[none, some (.ptr ⟨L + 1, 0⟩ 0 0), some (.ptr ⟨L + 1, 32⟩ 0 0), some (.ptr ⟨L + 1, 384⟩ 0 0), some (.int .i64 z.1), none, none, none, none, none, none, none, none, none, none, none, none, none, none, none, none, none, none, none, none, none, none, none, none, none, none, none, none, none, none, none, none, none, none, none, none, none, none, none, none, none, none, none, none, none, none, none, none],
  [(⟨L + 1, 0⟩, .rows 29 4 true true [[.int .u16 d.fr, .int .u16 d.tt, .int .u32 d.tg, .fs 7 (d.ps.map Pcx.row)]]), (⟨L + 1, 32⟩, .rows 24 4 true true [[.int .i64 0, .int .i64 0, .int .i64 0, .nilS]]), (⟨L + 1, 384⟩, .rows 24 4 true false [[.int .i64 d.fr, .int .i64 d.tt, .int .i64 d.tg, .sl ⟨L + 1, z.2⟩ 0 (d.cs z.1).length]]), (⟨L + 1, z.2⟩, .rows 34 3 true true ((d.cs z.1).map Ckx.row))], 10000 * (z.1 + 1)⟩)
  (pre := fun z => z.1 ≤ d.n ∧ 480 ≤ z.2 ∧ z.2 < 10000 * (z.1 + 1)) (μ := fun z => d.n - z.1) (0, 480) ⟨by simp, by simp, by simp⟩ ?_ ?_
 ·refine Sub.trans (Sub.nilCell (n := ⟨L + 1, 384⟩) (e := 24) (e2 := 34) (wd := 4) (wd2 := 3) (o := true) (p := true) (row := [.int .i64 d.fr, .int .i64 d.tt, .int .i64 d.tg, .nilS]) (row1 := [.int .i64 d.fr, .int .i64 d.tt, .int .i64 d.tg, .sl ⟨L + 1, 480⟩ 0 0]) (by omega) (by simp [Tx.look]) (by simp) rfl ?_) ?_
  ·intro k
   rcases k with _ | _ | _ | _ | k
   ·exact .inl rfl
   ·exact .inl rfl
   ·exact .inl rfl
   ·exact .inr ⟨rfl, rfl⟩
   ·exact .inl rfl
  ·refine Sub.of (hfz hF2) (by simp only [go_sem, subT, and_self, Int.natCast_zero]; try trivial) ?_ ?_ ?_
   ·simp [subH, Tx.look, updH, setH, Dfx.cs]
   ·simp [subK, keys, updH, setH]
   ·simp
 rintro ⟨i, q⟩ ⟨hi, hq0, hq⟩
 simp only at hi hq0 hq ⊢
 have hcl := d.cs_len i
 have hn6 : d.n ≤ 6 := by unfold Dfx.n; omega
 have hnl : d.n ≤ d.ps.length := by unfold Dfx.n; omega
 have hsm := d.cs_small hdd i (by omega)
 obtain ⟨cs, hcs⟩ : ∃ cs, cs = d.cs i := ⟨_, rfl⟩
 have hsucc : d.cs (i + 1) = if (d.pk (d.cs i ++ [d.ch i])).ok then d.cs i ++ [d.ch i] else d.cs i := rfl
 rw [← hcs] at hcl hsm hsucc ⊢
 have hcm : (cs.map Ckx.row).length = cs.length := List.length_map _
 have q_0 : (q = 0) = False := by apply eq_false; omega
 have n0_q : (0 = q) = False := by apply eq_false; omega
 have q_32 : (q = 32) = False := by apply eq_false; omega
 have n32_q : (32 = q) = False := by apply eq_false; omega
 have q_384 : (q = 384) = False := by apply eq_false; omega
 have n384_q : (384 = q) = False := by apply eq_false; omega
 obtain ⟨q_n1, q_n2, q_n3, q_n4, q_n5⟩ := nqL L (i := i) (p := q) (by omega)
 by_cases hlt : i < d.n
 ·have f1 : decide ((i : Int) < (d.ps.length : Int)) = true := dT (by omega)
  have f2 : decide ((i : Int) < 6) = true := dT (by omega)
  have r0 := rowPcx (ps := d.ps) (i := i) (by omega)
  have hch := d.ch_at (i := i) (by omega)
  have hpi := hp (d.ps[i]'(by omega)) (List.getElem_mem _)
  obtain ⟨p, hpp⟩ : ∃ p, p = d.ps[i]'(by omega) := ⟨_, rfl⟩
  rw [← hpp] at r0 hch hpi
  have hps := Pcx.chk_small hpi
  have cC := fun F L nx => pChunk_ok (F := F) (L := L) (nx := nx) p hpi
  rw [← hch] at hps cC
  obtain ⟨c, hc⟩ : ∃ c, c = d.ch i := ⟨_, rfl⟩
  rw [← hc] at hps cC hsucc
  simp only [Ckx.row] at cC
  have prl : p.row.length = 7 := rfl
  have prn : nfl p.row = true := rfl
  have nb9 : (10000 * (i + 1) + 512 == 10000 * (i + 1) + 704) = false := by simp
  have htk : List.take cs.length (cs.map Ckx.row) = cs.map Ckx.row := List.take_of_length_le (by simp)
  have hR := fun F L nx => rRight_ok (F := F) (L := L) (nx := nx) (d.pk (cs ++ [c])) (by show (cs ++ [c]).length ≤ maxLen; rw [List.length_append]; simp only [List.length_cons, List.length_nil]; unfold maxLen; omega) (by
   intro x hx
   have : x.bd.length ≤ 1112 := by
    rcases List.mem_append.1 hx with h | h
    ·exact hsm x h
    ·simp only [List.mem_cons, List.not_mem_nil, or_false] at h
     rw [h]; exact hps.1
   unfold maxLen; omega)
  simp only [f1, f2, r0, htk, hcm, List.length_map, q_0, n0_q, q_32, q_384, n384_q, q_n1, q_n2, kS2, kS2', kS3, Nat.add_assoc, go_sem]
  repeat refine sd2 ?_
  refine CallVC.same (cC _ _ _) ?_
  simp only [htk, hcm, nb9, q_n1, knm_beq, kS2, kS3, Nat.add_assoc, go_sem]
  repeat refine sd2 ?_
  refine ⟨okDyn_num (fun x => if x.i = q then 1 else if x.i = 384 then 2 else x.i % 10000 + 100) (by simp only [numF, List.map, n0_q, q_384, n384_q, q_n1, Nat.reduceEqDiff, if_true, if_false, Nat.mul_add_mod, Nat.reduceMod]; kernel_rfl), ?_⟩
  repeat refine sd2 ?_
  have hwk : wkN (.agg [.int .i64 d.fr, .int .i64 d.tt, .int .i64 d.tg, .sl ⟨L + 1, 10000 * (i + 1) + 736⟩ 0 (cs.length + 1)]) (.agg (d.pk (cs ++ [c])).row) = [⟨L + 1, 10000 * (i + 1) + 736⟩] := by simp [Dfx.pk, Pkx.row, wkN, wkNL]
  refine CallVC.pure (args2 := [.agg (d.pk (cs ++ [c])).row]) (by simp [Dfx.pk, Pkx.row, Ckx.row, Wk, WkL, List.take_of_length_le, q_n1]) (hR _ _ _) rfl ?_
  cases hok : (d.pk (cs ++ [c])).ok with
  | true =>
   rw [hok, if_pos rfl] at hsucc
   have hl1 : (cs ++ [c]).length = cs.length + 1 := by simp
   simp only [hwk, wkNL, n384_q, q_n1, kS2, kS2', kS3, Nat.add_assoc, go_sem]
   repeat refine sd2 ?_
   refine ⟨(i + 1, 10000 * (i + 1) + 736), ⟨by simp only []; omega, by simp only []; omega, by simp only []; omega⟩, by simp only []; omega, ?_⟩
   refine Sub.o hF2 ?_
   simp [subH, Tx.look, hsucc, hl1, Ckx.row, q_n1, nB, kS2]
  | false =>
   rw [hok, if_neg (by simp)] at hsucc
   simp only [hwk, wkNL, Nat.add_assoc, go_sem]
   repeat refine sd2 ?_
   refine ⟨(i + 1, q), ⟨by simp only []; omega, by simp only []; omega, by simp only []; omega⟩, by simp only []; omega, ?_⟩
   refine Sub.o hF2 ?_
   simp [subH, Tx.look, hsucc, q_0, q_32, q_384]
 ·have hin : i = d.n := by omega
  have hcase : (decide ((i : Int) < (d.ps.length : Int)) = true ∧ decide ((i : Int) < 6) = false) ∨ decide ((i : Int) < (d.ps.length : Int)) = false := by
   by_cases h : i < d.ps.length
   ·exact .inl ⟨dT (by omega), dF (by unfold Dfx.n at hin; omega)⟩
   ·exact .inr (dF (by omega))
  have hall : d.all = if cs = [] then [⟨11, 0, []⟩] else cs := by unfold Dfx.all; rw [← hin, ← hcs]
  rcases hcase with ⟨f1, f2⟩ | f1
  ·rw [hall]
   cases cs with
   | nil =>
    have f3 : (((0 : Nat) : Int) == 0) = true := rfl
    simp only [f1, f2, f3, if_true, List.length_map, n0_q, n32_q, n384_q, q_n1, kS2, kS2', Nat.add_assoc, go_sem]
    repeat refine sd2 ?_
    exact PostF.of (p := True) (v0 := .agg [.int .i64 d.fr, .int .i64 d.tt, .int .i64 d.tg, .sl ⟨L + 1, 10000 * (i + 1) + 448⟩ 0 1]) (.inr rfl) (by simp only [resVal, resVals, resVal1, one, n32_q, go_sem]) trivial (by simp [Dfx.pk, Pkx.row, Ckx.row, Wk, WkL, Tx.look, List.take_of_length_le, q_n1]) (by simp [Dfx.pk, Pkx.row, wkN, wkNL]) (by simp [Dfx.pk, Pkx.row, Tx.nf, nfl]) trivial (by simp [UpdAll, keys])
   | cons a l =>
    have f3 : (((l.length + 1 : Nat) : Int) == 0) = false := by simp; omega
    have f4 : (a :: l).length = l.length + 1 := rfl
    simp only [f1, f2, f3, List.length_map, n0_q, n32_q, n384_q, Nat.add_assoc, go_sem]
    repeat refine sd2 ?_
    exact PostF.of (p := True) (v0 := .agg [.int .i64 d.fr, .int .i64 d.tt, .int .i64 d.tg, .sl ⟨L + 1, q⟩ 0 (l.length + 1)]) (.inr rfl) (by simp only [resVal, resVals, resVal1, one, n32_q, go_sem]) trivial (by simp [Dfx.pk, Pkx.row, Ckx.row, Wk, WkL, Tx.look, List.take_of_length_le, q_0, q_32, q_384]) (by simp [Dfx.pk, Pkx.row, wkN, wkNL]) (by simp [Dfx.pk, Pkx.row, Tx.nf, nfl]) trivial (by simp [UpdAll, keys])
  ·rw [hall]
   cases cs with
   | nil =>
    have f3 : (((0 : Nat) : Int) == 0) = true := rfl
    simp only [f1, f3, if_true, List.length_map, n0_q, n32_q, n384_q, q_n1, kS2, kS2', Nat.add_assoc, go_sem]
    repeat refine sd2 ?_
    exact PostF.of (p := True) (v0 := .agg [.int .i64 d.fr, .int .i64 d.tt, .int .i64 d.tg, .sl ⟨L + 1, 10000 * (i + 1) + 384⟩ 0 1]) (.inr rfl) (by simp only [resVal, resVals, resVal1, one, n32_q, go_sem]) trivial (by simp [Dfx.pk, Pkx.row, Ckx.row, Wk, WkL, Tx.look, List.take_of_length_le, q_n1]) (by simp [Dfx.pk, Pkx.row, wkN, wkNL]) (by simp [Dfx.pk, Pkx.row, Tx.nf, nfl]) trivial (by simp [UpdAll, keys])
   | cons a l =>
    have f3 : (((l.length + 1 : Nat) : Int) == 0) = false := by simp; omega
    have f4 : (a :: l).length = l.length + 1 := rfl
    simp only [f1, f3, List.length_map, n0_q, n32_q, n384_q, Nat.add_assoc, go_sem]
    repeat refine sd2 ?_
    exact PostF.of (p := True) (v0 := .agg [.int .i64 d.fr, .int .i64 d.tt, .int .i64 d.tg, .sl ⟨L + 1, q⟩ 0 (l.length + 1)]) (.inr rfl) (by simp only [resVal, resVals, resVal1, one, n32_q, go_sem]) trivial (by simp [Dfx.pk, Pkx.row, Ckx.row, Wk, WkL, Tx.look, List.take_of_length_le, q_0, q_32, q_384]) (by simp [Dfx.pk, Pkx.row, wkN, wkNL]) (by simp [Dfx.pk, Pkx.row, Tx.nf, nfl]) trivial (by simp [UpdAll, keys])
end Go.Proofs.YtaacfnngodhecaaGreatDoor
end
section
namespace Go.Proofs.YtaacfnngodhecaaGreatDoor
open Go.ChangeShapes Go.WideShapes Go.ChangeAt Go.RowKit Go.Tx
set_option maxRecDepth 100000
theorem trodAll_three32 {P : Program} {H : Type} {enc : TypeId × Value → H} {w : World} {base : Nat} {spare : TypeId → Bool} {held : Bool} {t0 t1 t2 : TypeId} {args : Array Value} {ds : List (DataW H)} {ps : List MemPlace} (h : DataW.TrodAll enc P w base spare held [t0, t1, t2] args.toList ds ps) :
  ∃ v0 v1 v2 d0 d1 d2 p0 p1 p2, args = #[v0, v1, v2] ∧ ds = [d0, d1, d2] ∧ ps = p0 ++ p1 ++ p2 ∧ DataW.Trod enc P w base spare held t0 v0 d0 p0 ∧ DataW.Trod enc P w base spare held t1 v1 d1 p1 ∧ DataW.Trod enc P w base spare held t2 v2 d2 p2 := by
 obtain ⟨v0, vs0, d0, ds0, p0, q0, hargs, rfl, rfl, hd0, h⟩ := trodAll_cons h
 obtain ⟨v1, vs1, d1, ds1, p1, q1, rfl, rfl, rfl, hd1, h⟩ := trodAll_cons h
 obtain ⟨v2, vs2, d2, ds2, p2, q2, rfl, rfl, rfl, hd2, h⟩ := trodAll_cons h
 obtain ⟨rfl, rfl, rfl⟩ := trodAll_nil h
 exact ⟨v0, v1, v2, d0, d1, d2, p0, p1, p2, by cases args; simp_all, rfl, by simp, hd0, hd1, hd2⟩
theorem undU16_32 : Tryz.prog.underlying 25 = some (.int .u16) := by kernel_rfl
theorem undU32_32 : Tryz.prog.underlying 26 = some (.int .u32) := by kernel_rfl
theorem undDraft32 : ∃ fs, Tryz.prog.underlying 29 = some (.struct fs) := undS (by kernel_rfl)
theorem shpDraft32 {n : Nat} {xs : List PV} (h : Shp tys (n + 6) 29 xs) : ∃ d : Dfx, xs = d.row ∧ d.Ok := by
 have h := Shp.struct g29 h
 simp only [List.foldr] at h
 obtain ⟨_, _, rfl, h1, _, _, rfl, h2, _, _, rfl, h3, _, _, rfl, h4, rfl⟩ := h
 obtain ⟨_, rfl, w1⟩ := Shp.int g25 h1
 obtain ⟨_, rfl, w2⟩ := Shp.int g25 h2
 obtain ⟨_, rfl, w3⟩ := Shp.int g26 h3
 obtain ⟨a1, rfl, b1⟩ := wf16 w1
 obtain ⟨a2, rfl, b2⟩ := wf16 w2
 obtain ⟨a3, rfl, b3⟩ := wf32 w3
 obtain ⟨wd, rs, rfl, l4, e4, s4⟩ := Shp.slice g27 h4
 rw [g65] at e4
 simp only [Option.map_some, Option.some.injEq] at e4
 subst e4
 obtain ⟨l, rfl, hl⟩ := rowsOf (f := Pcx.row) (ok := Pcx.Ok) (fun xs hx => shpPiece hx) rs s4
 exact ⟨⟨a1, a2, a3, l⟩, rfl, b1, b2, b3, by simpa using l4, hl⟩
end Go.Proofs.YtaacfnngodhecaaGreatDoor
end
section
namespace Go.Proofs.YtaacfnngodhecaaGreatDoor
open Go.Tx
set_option maxRecDepth 100000
set_option maxHeartbeats 16000000
theorem le4_len (v : Nat) : (le4 v).length = 4 := rfl
theorem sumT_sum {t : List UInt8} (h : 12 ≤ t.length) : sumT (sumS t) = sumT t := by
 have h8 : (t.take 8).length = 8 := by rw [List.length_take]; omega
 obtain ⟨c4, hc, l4⟩ : ∃ c4, c4 = le4 (crcN (sumT t)) ∧ c4.length = 4 := ⟨_, rfl, rfl⟩
 unfold sumS
 rw [← hc]
 unfold sumT
 rw [List.append_assoc (t.take 8) c4, take_at h8.symm, drop_at2 (A := t.take 8) (q := 4) (by omega), drop_at l4.symm]
theorem sumS_sum {t : List UInt8} (h : 12 ≤ t.length) : sumS (sumS t) = sumS t := by
 have h8 : (t.take 8).length = 8 := by rw [List.length_take]; omega
 have hT := sumT_sum h
 unfold sumS at hT ⊢
 rw [hT]
 rw [List.append_assoc (t.take 8), take_at h8.symm, drop_at2 (A := t.take 8) (q := 4) (by omega), drop_at (by rw [le4_len]), List.append_assoc]
theorem szs_mem : ∀ {cs : List Ckx}, 4 * cs.length ≤ szs cs
 | [] => by simp [szs]
 | c :: l => by
  have := szs_mem (cs := l)
  simp only [szs, List.map_cons, List.sum_cons, List.length_cons, Ckx.sz] at this ⊢
  omega
theorem enc_len {p : Pkx} (h : p.ok = true) : (encS p).length = 12 + szs p.cs ∧ 16 ≤ (encS p).length ∧ (encS p).length ≤ 1200 := by
 unfold Pkx.ok Pkx.hd at h
 simp only [Bool.and_eq_true, decide_eq_true_eq] at h
 obtain ⟨⟨⟨⟨_, h4⟩, h5⟩, h6⟩, h7⟩ := h
 have := szs_mem (cs := p.cs)
 have hl : 12 ≤ (pkB p).length := by rw [pkB_len]; omega
 have h8 : ((pkB p).take 8).length = 8 := by rw [List.length_take]; omega
 have : (encS p).length = 12 + szs p.cs := by
  unfold encS sumS
  rw [List.length_append, List.length_append, h8, le4_len, List.length_drop, pkB_len]; omega
 omega
structure GetPut (c : Ckx) (g p : FuncId) (x : PV) : Prop where
 g : ∀ (F : SF) (L nx : Nat), Con Tryz.prog g [.agg c.row] F L nx nx (.tup [x, .int .i64 0]) [] []
 p : ∀ (F : SF) (L nx : Nat), Con Tryz.prog p [x] F L nx nx (.tup [.agg c.row, .int .i64 0]) [] []
theorem gpD (d : Dat) (h : d.ok = true) : GetPut ⟨0, flD d.la d.fi d.lo 3, dataB d⟩ 43 21 (.agg d.row) := by
 refine ⟨fun F L nx => ?_, fun F L nx => ?_⟩
 ·have h2 := getDataT_ok (F := F) (L := L) (nx := nx) ⟨0, flD d.la d.fi d.lo 3, dataB d⟩ (by
   have := dat_ok_len h
   show (dataB d).length ≤ _
   rw [dataB_len]; omega)
  rw [dataBack h] at h2
  exact h2
 ·have h1 := putData_ok (F := F) (L := L) (nx := nx) d
  rw [h, if_pos rfl] at h1
  exact h1
theorem gpI (d : Ini) (h : d.ok = true) : GetPut ⟨iniK d.ck, 0, d.oct⟩ 44 30 (.agg d.row) := by
 refine ⟨fun F L nx => ?_, fun F L nx => ?_⟩
 ·have h2 := getInitT_ok (F := F) (L := L) (nx := nx) ⟨iniK d.ck, 0, d.oct⟩ (by
   have := ini_ok_len h
   show d.oct.length ≤ _
   rw [ini_oct_len]; omega)
  rw [iniBack h] at h2
  exact h2
 ·have h1 := putInit_ok (F := F) (L := L) (nx := nx) d
  rw [h, if_pos rfl] at h1
  exact h1
theorem gpS (c w : Int) (gs : List (Int × Int)) (ds : List Int) (h : sackV c w gs ds = true) : GetPut ⟨3, 0, sackO c w gs ds⟩ 45 26 (sackP c w gs ds) := by
 obtain ⟨_, _, _, h4, h5, _⟩ := sackB h
 refine ⟨fun F L nx => ?_, fun F L nx => ?_⟩
 ·have h2 := getSackT_ok (F := F) (L := L) (nx := nx) ⟨3, 0, sackO c w gs ds⟩ (by
   show (sackO c w gs ds).length ≤ _
   rw [sackO_len]; omega)
  rw [sackBack h] at h2
  exact h2
 ·have h1 := putSack_ok (F := F) (L := L) (nx := nx) c w gs ds (by omega) (by omega)
  rw [h, if_pos rfl] at h1
  exact h1
theorem gpF (c : Int) (sk : List (Int × Int)) (h : fwdV c sk = true) : GetPut ⟨192, 0, fwdT c.toNat (sk.map fun k => (k.1.toNat, k.2.toNat))⟩ 46 34 (fwdP c sk) := by
 obtain ⟨_, _, _, h4⟩ := fwdB h
 refine ⟨fun F L nx => ?_, fun F L nx => ?_⟩
 ·have h2 := getForwardT_ok (F := F) (L := L) (nx := nx) ⟨192, 0, fwdT c.toNat (sk.map fun k => (k.1.toNat, k.2.toNat))⟩ (by
   show (fwdT _ _).length ≤ _
   rw [fwdT_len, List.length_map]; omega)
  rw [fwdBack h] at h2
  exact h2
 ·have h1 := putForward_ok (F := F) (L := L) (nx := nx) c sk (by omega)
  rw [h, if_pos rfl] at h1
  exact h1
theorem gpR (k n la r : Int) (xs : List Int) (h : resetV k n la r xs = true) : GetPut ⟨130, 0, resetB k n la r xs⟩ 47 38 (rstP k n la r (.fs 1 (xs.map eI))) := by
 have hb := rst_len h
 obtain ⟨_, _, _, _, h4⟩ := rstB h
 have hx : xs.length ≤ 30 := by rcases h4 with ⟨_, _, h4⟩ | ⟨_, _, _, h4⟩ <;> simp_all
 refine ⟨fun F L nx => ?_, fun F L nx => ?_⟩
 ·have h2 := getResetT_ok (F := F) (L := L) (nx := nx) ⟨130, 0, resetB k n la r xs⟩ (by
   show (resetB k n la r xs).length ≤ _
   omega)
  rw [rstBack h] at h2
  exact h2
 ·have h1 := putReset_ok (F := F) (L := L) (nx := nx) k n la r xs (by omega)
  rw [h, if_pos rfl] at h1
  exact h1
inductive CkBack (c : Ckx) : Prop
 | dat (d : Dat) (hk : c.kd = 0) (h : GetPut c 43 21 (.agg d.row))
 | ini (d : Ini) (hk : c.kd = 1 ∨ c.kd = 2) (h : GetPut c 44 30 (.agg d.row))
 | sck (a w : Int) (gs : List (Int × Int)) (ds : List Int) (hk : c.kd = 3) (h : GetPut c 45 26 (sackP a w gs ds))
 | fwd (a : Int) (sk : List (Int × Int)) (hk : c.kd = 192) (h : GetPut c 46 34 (fwdP a sk))
 | rst (k n la r : Int) (xs : List Int) (hk : c.kd = 130) (h : GetPut c 47 38 (rstP k n la r (.fs 1 (xs.map eI))))
 | oth (h0 : c.kd ≠ 0) (h1 : c.kd ≠ 1) (h2 : c.kd ≠ 2) (h3 : c.kd ≠ 3) (h4 : c.kd ≠ 192) (h5 : c.kd ≠ 130)
theorem kds_oth {x : Nat} (h : x < 8) : 4 ≤ kds.getD x 0 ∧ kds.getD x 0 ≤ 14 := by
 rcases (show x = 0 ∨ x = 1 ∨ x = 2 ∨ x = 3 ∨ x = 4 ∨ x = 5 ∨ x = 6 ∨ x = 7 by omega) with rfl | rfl | rfl | rfl | rfl | rfl | rfl | rfl <;> decide
theorem Pcx.chk_back {p : Pcx} (hp : p.Ok) : CkBack p.chk := by
 obtain ⟨m, hm⟩ : ∃ m, m = p.w % 8 := ⟨_, rfl⟩
 have hm8 : m < 8 := by rw [hm]; exact Nat.mod_lt _ (by omega)
 have hx := kds_oth (x := p.w / 8 % 8) (Nat.mod_lt _ (by omega))
 unfold Pcx.chk
 rw [← hm]
 have ot : CkBack ⟨((kds.getD (p.w / 8 % 8) 0 : Nat) : Int), ((p.a % 2 : Nat) : Int), p.pl.take 60⟩ := by
  refine .oth ?_ ?_ ?_ ?_ ?_ ?_ <;> (show ((kds.getD (p.w / 8 % 8) 0 : Nat) : Int) ≠ _; omega)
 rcases (show m = 6 ∨ m = 7 ∨ m = 0 ∨ m = 1 ∨ m = 2 ∨ m = 3 ∨ m = 4 ∨ m = 5 by omega) with rfl | rfl | rfl | rfl | rfl | rfl | rfl | rfl
 ·exact ot
 ·exact ot
 ·exact .dat p.dat rfl (gpD p.dat hp.dat)
 ·exact .dat p.dat rfl (gpD p.dat hp.dat)
 ·exact .sck _ _ _ _ rfl (gpS _ _ _ _ hp.sck)
 ·exact .ini (p.ini p.m8) (by show iniK _ = 1 ∨ iniK _ = 2; unfold iniK; split <;> simp) (gpI _ (hp.ini p.m8))
 ·have := gpF _ _ hp.fwd
  rw [fwK, Int.toNat_natCast] at this
  exact .fwd _ _ rfl this
 ·exact .rst _ _ _ _ _ rfl (gpR _ _ _ _ _ hp.rst)
theorem Dfx.cs_back {d : Dfx} (hd : d.Ok) : ∀ i, i ≤ d.ps.length → (∀ c ∈ d.cs i, CkBack c) ∧ (d.cs i = [] ∨ (d.pk (d.cs i)).ok = true)
 | 0, _ => ⟨by simp [Dfx.cs], .inl rfl⟩
 | i + 1, hi => by
  have ih := Dfx.cs_back hd i (by omega)
  unfold Dfx.cs
  split
  ·rename_i hok
   refine ⟨fun c hc => ?_, .inr hok⟩
   rcases List.mem_append.1 hc with h | h
   ·exact ih.1 c h
   ·simp only [List.mem_cons, List.not_mem_nil, or_false] at h
    rw [h, Dfx.ch_at (by omega)]
    exact Pcx.chk_back (hd.p _ (List.getElem_mem _))
  ·exact ih
theorem serB16n {n : Nat} (h : n < 65536) : serB 16 (n : Int) = true := by unfold serB; simp; omega
theorem serB32n {n : Nat} (h : n < 4294967296) : serB 32 (n : Int) = true := by unfold serB; simp; omega
theorem Dfx.all_back {d : Dfx} (hd : d.Ok) : (∀ c ∈ d.all, CkBack c) ∧ (d.pk d.all).ok = true := by
 have h := Dfx.cs_back hd d.n (by unfold Dfx.n; omega)
 unfold Dfx.all
 split
 ·refine ⟨fun c hc => ?_, ?_⟩
  ·simp only [List.mem_cons, List.not_mem_nil, or_false] at hc
   subst hc
   exact .oth (by decide) (by decide) (by decide) (by decide) (by decide) (by decide)
  ·have h1 := serB16n hd.fr
   have h2 := serB16n hd.tt
   have h3 := serB32n hd.tg
   simp only [Pkx.ok, Pkx.hd, Dfx.pk, h1, h2, h3]
   rfl
 ·rename_i hne
  exact ⟨h.1, h.2.resolve_left hne⟩
theorem stpN_xor (x y : Nat) : stpN (x ^^^ y) = stpN x ^^^ stpN y := by
 have hd : (x ^^^ y) / 2 = x / 2 ^^^ y / 2 := Nat.xor_div_two
 have hm := @Nat.xor_mod_two_eq_one x y
 unfold stpN
 rw [hd]
 by_cases h1 : x % 2 = 1
 ·by_cases h2 : y % 2 = 1
  ·rw [if_pos h1, if_pos h2, if_neg (by rw [hm]; simp [h1, h2])]
   rw [Nat.xor_assoc, Nat.xor_comm cstN, Nat.xor_assoc, Nat.xor_self, Nat.xor_zero]
  ·rw [if_pos h1, if_neg h2, if_pos (by rw [hm]; simp [h1, h2])]
   rw [Nat.xor_assoc, Nat.xor_assoc, Nat.xor_comm cstN]
 ·by_cases h2 : y % 2 = 1
  ·rw [if_neg h1, if_pos h2, if_pos (by rw [hm]; simp [h1, h2])]
   rw [Nat.xor_assoc]
  ·rw [if_neg h1, if_neg h2, if_neg (by rw [hm]; simp [h1, h2])]
theorem itN_xor (x y : Nat) : ∀ j, itN (x ^^^ y) j = itN x j ^^^ itN y j
 | 0 => rfl
 | j + 1 => by rw [itN, itN_xor x y j, stpN_xor]; rfl
theorem itN_add (x : Nat) (i : Nat) : ∀ j, itN (itN x i) j = itN x (i + j)
 | 0 => rfl
 | j + 1 => by rw [itN, itN_add x i j]; rfl
theorem stpN_even (k : Nat) : stpN (2 * k) = k := by
 unfold stpN
 rw [if_neg (by omega)]; omega
theorem itN_even (k : Nat) : itN (256 * k) 8 = k := by
 have e : 256 * k = 2 * (2 * (2 * (2 * (2 * (2 * (2 * (2 * k))))))) := by omega
 rw [e]
 simp only [itN, stpN_even]
theorem split256 (x : Nat) : x = (256 * (x / 256)) ^^^ (x % 256) := by
 apply Nat.eq_of_testBit_eq
 intro i
 rw [show (256 : Nat) = 2 ^ 8 from rfl, Nat.testBit_xor, Nat.testBit_two_pow_mul, Nat.testBit_mod_two_pow, Nat.testBit_div_two_pow]
 by_cases h : i < 8
 ·have h9 : ¬ 8 ≤ i := by omega
  simp [h, h9]
 ·have h8 : 8 ≤ i := by omega
  simp [h, h8, Nat.sub_add_cancel h8]
theorem crcS_it (x c : Nat) : crcS x c = itN (x ^^^ c) 8 := by
 have h : x ^^^ c = (256 * (x / 256)) ^^^ ((x % 256) ^^^ c) := by
  rw [← Nat.xor_assoc, ← split256]
 rw [h, itN_xor, itN_even]
 rfl
theorem xor4 (a b c d : Nat) : (a ^^^ b) ^^^ (c ^^^ d) = (a ^^^ c) ^^^ (b ^^^ d) := by
 rw [Nat.xor_assoc, Nat.xor_assoc, ← Nat.xor_assoc b, Nat.xor_comm b c, Nat.xor_assoc c]
theorem crcS_dif (x y a b : Nat) : crcS x a ^^^ crcS y b = itN ((x ^^^ y) ^^^ (a ^^^ b)) 8 := by
 rw [crcS_it, crcS_it, ← itN_xor, xor4]
theorem crcF_same (s : List UInt8) : ∀ x y, crcF x s ^^^ crcF y s = itN (x ^^^ y) (8 * s.length) := by
 induction s with
 | nil => intro x y; rfl
 | cons c l ih =>
  intro x y
  show crcF (crcS x c.toNat) l ^^^ crcF (crcS y c.toNat) l = _
  rw [ih, crcS_dif, Nat.xor_self, Nat.xor_zero, itN_add, List.length_cons, Nat.mul_add, Nat.add_comm]
theorem stpN_zero {x : Nat} (hx : x < 2 ^ 32) (h : stpN x = 0) : x = 0 := by
 unfold stpN at h
 split at h
 ·have h1 : x / 2 = cstN := by
   have e : x / 2 = (x / 2 ^^^ cstN) ^^^ cstN := by rw [Nat.xor_assoc, Nat.xor_self, Nat.xor_zero]
   rw [h, Nat.zero_xor] at e
   exact e
  unfold cstN at h1
  omega
 ·omega
theorem itN_zero {x : Nat} (hx : x < 2 ^ 32) : ∀ j, itN x j = 0 → x = 0
 | 0, h => h
 | j + 1, h => itN_zero hx j (stpN_zero (itN_lt hx j) h)
theorem dif4' (c0 c1 c2 c3 : Nat) : itN (itN (itN (itN c0 8 ^^^ c1) 8 ^^^ c2) 8 ^^^ c3) 8 = itN (c0 ^^^ 256 * (c1 ^^^ 256 * (c2 ^^^ 256 * c3))) 32 := by
 have st : ∀ (a R j : Nat), itN (a ^^^ 256 * R) (8 + j) = itN (itN a 8 ^^^ R) j := fun a R j => by rw [← itN_add, itN_xor, itN_even]
 rw [show (32 : Nat) = 8 + (8 + (8 + 8)) from rfl, st, ← Nat.xor_assoc, st, ← Nat.xor_assoc, st]
theorem xz {c R : Nat} (hc : c < 256) (h : c ^^^ 256 * R = 0) : c = 0 ∧ R = 0 := by
 have e : c = (c ^^^ 256 * R) ^^^ 256 * R := by rw [Nat.xor_assoc, Nat.xor_self, Nat.xor_zero]
 rw [h, Nat.zero_xor] at e
 omega
theorem x4z {c0 c1 c2 c3 : Nat} (h0 : c0 < 256) (h1 : c1 < 256) (h2 : c2 < 256) (h : c0 ^^^ 256 * (c1 ^^^ 256 * (c2 ^^^ 256 * c3)) = 0) : c0 = 0 ∧ c1 = 0 ∧ c2 = 0 ∧ c3 = 0 := by
 obtain ⟨a0, h⟩ := xz h0 h
 obtain ⟨a1, h⟩ := xz h1 h
 obtain ⟨a2, h⟩ := xz h2 h
 exact ⟨a0, a1, a2, h⟩
theorem xlt {a b k : Nat} (ha : a < 2 ^ k) (hb : b < 2 ^ k) : a ^^^ b < 2 ^ k := Nat.xor_lt_two_pow ha hb
theorem x4lt {c0 c1 c2 c3 : Nat} (h0 : c0 < 256) (h1 : c1 < 256) (h2 : c2 < 256) (h3 : c3 < 256) : c0 ^^^ 256 * (c1 ^^^ 256 * (c2 ^^^ 256 * c3)) < 2 ^ 32 := by
 have a2 : c2 ^^^ 256 * c3 < 2 ^ 16 := xlt (by omega) (by omega)
 have a1 : c1 ^^^ 256 * (c2 ^^^ 256 * c3) < 2 ^ 24 := xlt (by omega) (by omega)
 exact xlt (by omega) (by omega)
theorem xeq {a b : Nat} (h : a ^^^ b = 0) : a = b := by
 have e : a = (a ^^^ b) ^^^ b := by rw [Nat.xor_assoc, Nat.xor_self, Nat.xor_zero]
 rw [h, Nat.zero_xor] at e
 exact e
theorem crcF_app (x : Nat) (s t : List UInt8) : crcF x (s ++ t) = crcF (crcF x s) t := List.foldl_append
theorem crc_window {x : Nat} {A B : List UInt8} {a0 a1 a2 a3 b0 b1 b2 b3 : UInt8} (h : crcF x (A ++ ([a0, a1, a2, a3] ++ B)) = crcF x (A ++ ([b0, b1, b2, b3] ++ B))) : a0 = b0 ∧ a1 = b1 ∧ a2 = b2 ∧ a3 = b3 := by
 rw [crcF_app, crcF_app, crcF_app, crcF_app] at h
 obtain ⟨r, hr⟩ : ∃ r, r = crcF x A := ⟨_, rfl⟩
 rw [← hr] at h
 have hx : crcF (crcF r [a0, a1, a2, a3]) B ^^^ crcF (crcF r [b0, b1, b2, b3]) B = 0 := by rw [h, Nat.xor_self]
 rw [crcF_same] at hx
 have hw : crcF r [a0, a1, a2, a3] ^^^ crcF r [b0, b1, b2, b3] = itN ((a0.toNat ^^^ b0.toNat) ^^^ 256 * ((a1.toNat ^^^ b1.toNat) ^^^ 256 * ((a2.toNat ^^^ b2.toNat) ^^^ 256 * (a3.toNat ^^^ b3.toNat)))) 32 := by
  rw [← dif4']
  show crcS (crcS (crcS (crcS r a0.toNat) a1.toNat) a2.toNat) a3.toNat ^^^ crcS (crcS (crcS (crcS r b0.toNat) b1.toNat) b2.toNat) b3.toNat = _
  rw [crcS_dif, crcS_dif, crcS_dif, crcS_dif, Nat.xor_self, Nat.zero_xor]
 rw [hw, itN_add] at hx
 have l : ∀ a b : UInt8, a.toNat ^^^ b.toNat < 256 := fun a b => xlt (k := 8) a.toNat_lt b.toNat_lt
 have hz := itN_zero (x4lt (l a0 b0) (l a1 b1) (l a2 b2) (l a3 b3)) _ hx
 obtain ⟨z0, z1, z2, z3⟩ := x4z (l a0 b0) (l a1 b1) (l a2 b2) hz
 exact ⟨UInt8.toNat_inj.1 (xeq z0), UInt8.toNat_inj.1 (xeq z1), UInt8.toNat_inj.1 (xeq z2), UInt8.toNat_inj.1 (xeq z3)⟩
theorem crcN_inj {s t : List UInt8} (h : crcN s = crcN t) : crcF 4294967295 s = crcF 4294967295 t := by
 unfold crcN at h
 apply xeq
 have : (4294967295 ^^^ crcF 4294967295 s) ^^^ (4294967295 ^^^ crcF 4294967295 t) = 0 := by rw [h, Nat.xor_self]
 rwa [xor4, Nat.xor_self, Nat.zero_xor] at this
theorem le4_inj {v w : Nat} (hv : v < 2 ^ 32) (hw : w < 2 ^ 32) (h : le4 v = le4 w) : v = w := by
 unfold le4 at h
 simp only [List.cons.injEq, and_true] at h
 obtain ⟨h0, h1, h2, h3⟩ := h
 have e : ∀ a b : Nat, byN a = byN b → a % 256 = b % 256 := fun a b h => by
  have := congrArg UInt8.toNat h
  rwa [byN_nat, byN_nat] at this
 have := e _ _ h0
 have := e _ _ h1
 have := e _ _ h2
 have := e _ _ h3
 omega
theorem sum_fix {s : List UInt8} (h : 12 ≤ s.length) (hs : sumS s = s) : (s.drop 8).take 4 = le4 (crcN (sumT s)) := by
 have h8 : (s.take 8).length = 8 := by rw [List.length_take]; omega
 have e : (sumS s).drop 8 = le4 (crcN (sumT s)) ++ s.drop 12 := by
  unfold sumS
  rw [List.append_assoc, drop_at h8.symm]
 rw [hs] at e
 rw [e, take_at (le4_len _).symm]
theorem crcN_window {A B : List UInt8} {a0 a1 a2 a3 b0 b1 b2 b3 : UInt8} (h : crcN (A ++ ([a0, a1, a2, a3] ++ B)) = crcN (A ++ ([b0, b1, b2, b3] ++ B))) : [a0, a1, a2, a3] = [b0, b1, b2, b3] := by
 obtain ⟨h0, h1, h2, h3⟩ := crc_window (crcN_inj h)
 rw [h0, h1, h2, h3]
theorem flip_sum {A B : List UInt8} {a0 a1 a2 a3 b0 b1 b2 b3 : UInt8} (hl : 12 ≤ (A ++ ([a0, a1, a2, a3] ++ B)).length) (hA : A.length = 8 ∨ A.length + 4 ≤ 8 ∨ 12 ≤ A.length)
  (hs : sumS (A ++ ([a0, a1, a2, a3] ++ B)) = A ++ ([a0, a1, a2, a3] ++ B)) (ht : sumS (A ++ ([b0, b1, b2, b3] ++ B)) = A ++ ([b0, b1, b2, b3] ++ B)) : [a0, a1, a2, a3] = [b0, b1, b2, b3] := by
 have hl' : 12 ≤ (A ++ ([b0, b1, b2, b3] ++ B)).length := by simp only [List.length_append, List.length_cons, List.length_nil] at hl ⊢; exact hl
 have f1 := sum_fix hl hs
 have f2 := sum_fix hl' ht
 have hi : ((A ++ ([a0, a1, a2, a3] ++ B)).drop 8).take 4 = ((A ++ ([b0, b1, b2, b3] ++ B)).drop 8).take 4 → crcN (sumT (A ++ ([a0, a1, a2, a3] ++ B))) = crcN (sumT (A ++ ([b0, b1, b2, b3] ++ B))) := fun e => by
  rw [f1, f2] at e
  exact le4_inj (crcN_lt _) (crcN_lt _) e
 rcases hA with hA | hA | hA
 ·have e : sumT (A ++ ([a0, a1, a2, a3] ++ B)) = sumT (A ++ ([b0, b1, b2, b3] ++ B)) := by
   unfold sumT
   rw [take_at hA.symm, take_at hA.symm, drop_at2 (A := A) (q := 4) (by omega), drop_at2 (A := A) (q := 4) (by omega)]
   rfl
  rw [e, ← f2, drop_at hA.symm, drop_at hA.symm] at f1
  exact f1
 ·have tk : ∀ w : List UInt8, w.length = 4 → sumT (A ++ (w ++ B)) = A ++ (w ++ (B.take (4 - A.length) ++ ([0, 0, 0, 0] ++ B.drop (8 - A.length)))) := fun w hw => by
   unfold sumT
   rw [List.take_append, List.take_of_length_le (by omega), List.take_append, List.take_of_length_le (by omega)]
   rw [drop_at2 (A := A) (q := 12 - A.length) (by omega), drop_at2 (A := w) (q := 8 - A.length) (by omega)]
   rw [show 8 - A.length - w.length = 4 - A.length by omega]
   simp only [List.append_assoc]
  have hc := hi (by
   rw [drop_at2 (A := A) (q := 8 - A.length) (by omega), drop_at2 (A := A) (q := 8 - A.length) (by omega), drop_at2 (A := [a0, a1, a2, a3]) (q := 4 - A.length) (by simp; omega), drop_at2 (A := [b0, b1, b2, b3]) (q := 4 - A.length) (by simp; omega)])
  rw [tk _ rfl, tk _ rfl] at hc
  exact crcN_window hc
 ·have tk : ∀ w : List UInt8, sumT (A ++ (w ++ B)) = (A.take 8 ++ ([0, 0, 0, 0] ++ A.drop 12)) ++ (w ++ B) := fun w => by
   unfold sumT
   rw [List.take_append_of_le_length (by omega), List.drop_append_of_le_length (by omega)]
   simp only [List.append_assoc]
  have hc := hi (by
   rw [List.drop_append_of_le_length (by omega), List.drop_append_of_le_length (by omega), List.take_append_of_le_length (by rw [List.length_drop]; omega), List.take_append_of_le_length (by rw [List.length_drop]; omega)])
  rw [tk, tk] at hc
  exact crcN_window hc
def flB (ch i : Nat) : UInt8 := UInt8.ofNat (ch / 2 ^ (8 * i) % 256)
def flS (s : List UInt8) (f ch : Nat) : Nat → List UInt8
 | 0 => s
 | i + 1 => (flS s f ch i).set (f + i) ((flS s f ch i).getD (f + i) 0 ^^^ flB ch i)
theorem flS_len (s : List UInt8) (f ch : Nat) : ∀ i, (flS s f ch i).length = s.length
 | 0 => rfl
 | i + 1 => by rw [flS, List.length_set, flS_len s f ch i]
theorem decG_none {t : List UInt8} (h : sumS t ≠ t) : decG t = none := by
 unfold decG
 cases cksF t 2000 12 with
 | none => rfl
 | some cs =>
  rw [Option.bind_some, if_neg]
  simp [h]
theorem set_at {A R : List UInt8} {i : Nat} {v : UInt8} : (A ++ R).set (A.length + i) v = A ++ R.set i v := by
 rw [List.set_append_right _ _ (by omega)]; simp
theorem get_at {A R : List UInt8} {i : Nat} : (A ++ R).getD (A.length + i) 0 = R.getD i 0 := by
 simp [List.getD_eq_getElem?_getD, List.getElem?_append_right]
theorem flS_win (A B : List UInt8) (a0 a1 a2 a3 : UInt8) (ch : Nat) : flS (A ++ ([a0, a1, a2, a3] ++ B)) A.length ch 4 = A ++ ([a0 ^^^ flB ch 0, a1 ^^^ flB ch 1, a2 ^^^ flB ch 2, a3 ^^^ flB ch 3] ++ B) := by
 simp only [flS, set_at, get_at]
 rfl
theorem xz8 {a b : UInt8} (h : a = a ^^^ b) : b = 0 := by
 have := congrArg UInt8.toNat h
 rw [UInt8.toNat_xor] at this
 have e : a.toNat ^^^ (a.toNat ^^^ b.toNat) = b.toNat := by rw [← Nat.xor_assoc, Nat.xor_self, Nat.zero_xor]
 rw [← this, Nat.xor_self] at e
 exact UInt8.toNat_inj.1 e.symm
theorem flB_zero {ch i : Nat} (h : flB ch i = 0) : ch / 2 ^ (8 * i) % 256 = 0 := by
 have := congrArg UInt8.toNat h
 unfold flB at this
 rw [UInt8.toNat_ofNat'] at this
 simpa using this
theorem flS_refused {s : List UInt8} {f ch : Nat} (hl : 12 ≤ s.length) (hf : f + 4 ≤ s.length) (hw : f = 8 ∨ f + 4 ≤ 8 ∨ 12 ≤ f) (hs : sumS s = s) (h0 : ch ≠ 0) (h32 : ch < 4294967296) : decG (flS s f ch 4) = none := by
 apply decG_none
 intro ht
 obtain ⟨A, hA, hAl⟩ : ∃ A, A = s.take f ∧ A.length = f := ⟨_, rfl, by rw [List.length_take]; omega⟩
 have hR : (s.drop f).length = s.length - f := List.length_drop
 obtain ⟨R, hRe⟩ : ∃ R, R = s.drop f := ⟨_, rfl⟩
 have hsp : s = A ++ R := by rw [hA, hRe, List.take_append_drop]
 rw [← hRe] at hR
 clear hA hRe
 match R, hR, hsp with
 | a0 :: a1 :: a2 :: a3 :: B, _, hsp =>
  have hsp : s = A ++ ([a0, a1, a2, a3] ++ B) := hsp
  subst hsp
  subst hAl
  rw [flS_win] at ht
  have e := flip_sum hl hw hs ht
  simp only [List.cons.injEq, and_true] at e
  obtain ⟨e0, e1, e2, e3⟩ := e
  have z0 := flB_zero (xz8 e0)
  have z1 := flB_zero (xz8 e1)
  have z2 := flB_zero (xz8 e2)
  have z3 := flB_zero (xz8 e3)
  simp only [Nat.mul_zero, Nat.pow_zero, Nat.div_one, Nat.mul_one, Nat.reduceMul, Nat.reducePow] at z0 z1 z2 z3
  omega
 | [], hR, _ => simp at hR; omega
 | [_], hR, _ => simp at hR; omega
 | [_, _], hR, _ => simp at hR; omega
 | [_, _, _], hR, _ => simp at hR; omega
theorem rowB_get {l : List UInt8} {k : Nat} (h : k < l.length) : (l.map rowB).getD k [] = [.int .u8 (l.getD k 0).toNat] := by
 simp [List.getD_eq_getElem?_getD, h, rowB]
theorem rowB_set (l : List UInt8) (k : Nat) (x : UInt8) : (l.map rowB).set k [.int .u8 x.toNat] = (l.set k x).map rowB := by
 rw [List.map_set]; rfl
theorem flB_val {ch i : Nat} (hi : i < 4) : IntKind.u8.wrap ((ch : Int).fdiv (2 ^ min (8 * (i : Int)).toNat 32)) = (((flB ch i).toNat : Nat) : Int) := by
 have e : (8 * (i : Int)).toNat = 8 * i := by omega
 rw [e, shr32 ch (8 * i) (by omega)]
 unfold flB
 rw [UInt8.toNat_ofNat']
 simp [IntKind.wrap, IntKind.signed, IntKind.bits]
theorem flipsLaw_ok {F : SF} {L nx : Nat} (d : Dfx) (a ch : Nat) (hd : d.Ok) (ha : a < 65536) (hch : ch < 4294967296) : Con Tryz.prog 5 [.agg d.row, .int .u16 a, .int .u32 ch] F L nx nx (.bool true) [] [] := by
 have pD := fun F L nx => dPacket_ok (F := F) (L := L) (nx := nx) d hd
 obtain ⟨_, hok⟩ := Dfx.all_back hd
 obtain ⟨p, hp⟩ : ∃ p, p = d.pk d.all := ⟨_, rfl⟩
 rw [← hp] at pD hok
 clear hp
 have eP := fun F L nx => encode_ok (F := F) (L := L) (nx := nx) p hok
 obtain ⟨hle, h16, h12⟩ := enc_len hok
 have hsum : sumS (encS p) = encS p := by
  unfold encS
  exact sumS_sum (by rw [pkB_len]; omega)
 obtain ⟨s, hs⟩ : ∃ s, s = encS p := ⟨_, rfl⟩
 rw [← hs] at eP hle h16 h12 hsum
 clear hs
 have e0 : ((0 : Int) != 0) = false := rfl
 have l16 : decide ((s.length : Int) < 16) = false := dF (by omega)
 have drl : d.row.length = 4 := rfl
 have drn : nfl d.row = true := rfl
 refine bdy Tryz.f5 ?_
 intro F3 hF1 hF2
 simp only [Tryz.f5, cx, drl, drn, go_sem, meths]
 refine CallVC.same works32_ok ?_
 simp only [go_sem]
 repeat refine sd2 ?_
 refine CallVC.same (pD _ _ _) ?_
 simp only [go_sem]
 repeat refine sd2 ?_
 refine CallVC.same (eP _ _ _) ?_
 simp only [e0, l16, go_sem]
 repeat refine sd2 ?_
 by_cases hc : ch = 0
 ·have g0 : ((ch : Int) == 0) = true := by simpa using hc
  simp only [g0, go_sem]
  exact .bool (.inr rfl) rfl rfl (by simp [UpdAll])
 have g0 : ((ch : Int) == 0) = false := by simpa using hc
 have tm : (a : Int).tmod ((s.length : Int) - 3) = ((a % (s.length - 3) : Nat) : Int) := by
  have := tmL a ((s.length : Int) - 3) (by omega)
  rwa [show ((s.length : Int) - 3).toNat = s.length - 3 by omega] at this
 have hu : a % (s.length - 3) < s.length - 3 := Nat.mod_lt _ (by omega)
 obtain ⟨u, hu9⟩ : ∃ u, u = a % (s.length - 3) := ⟨_, rfl⟩
 rw [← hu9] at tm hu
 clear hu9
 have key : ∃ f : Nat, f + 4 ≤ s.length ∧ (f = 8 ∨ f + 4 ≤ 8 ∨ 12 ≤ f) ∧ ((4 < u ∧ u < 12 ∧ f = 8) ∨ (4 < u ∧ ¬ u < 12 ∧ f = u) ∨ (¬ 4 < u ∧ f = u)) := by
  by_cases c1 : 4 < u
  ·by_cases c2 : u < 12
   ·exact ⟨8, by omega, by omega, .inl ⟨c1, c2, rfl⟩⟩
   ·exact ⟨u, by omega, by omega, .inr (.inl ⟨c1, c2, rfl⟩)⟩
  ·exact ⟨u, by omega, by omega, .inr (.inr ⟨c1, rfl⟩)⟩
 obtain ⟨f, hf4, hfw, hf⟩ := key
 simp only [g0, tm, go_sem]
 repeat refine sd2 ?_
 rcases hf with ⟨c1, c2, hfe⟩ | ⟨c1, c2, hfe⟩ | ⟨c1, hfe⟩
 ·have d1 : decide ((4 : Int) < (u : Int)) = true := dT (by omega)
  have d2 : decide ((u : Int) < 12) = true := dT (by omega)
  have hf9 : (8 : Int) = ((f : Nat) : Int) := by omega
  simp only [d1, d2, go_sem]
  refine loopK.intro _ _ (I := fun i : Nat => ⟨[none, none, some (.int .u32 ch), none, none, none, none, none, none, some (.sl ⟨L + 1, 608⟩ 0 s.length), some (.int .i64 f), none, none, none, none, none, none, none, none, none, none, none, none, none, none, none, none, none, none, none, none, none, none, none, none, none, none, none, none, none, none, none, none, none, none, some (.int .i64 i), none, none, none, none, none, none, none, none, none, none, none, none, none, none, none, none, none, none, none, none, none, none, none, none, none, none, none, none, none], [(⟨L + 1, 608⟩, .rows 5 1 true true ((flS s f ch i).map rowB))], 10000 * (i + 1)⟩) (pre := fun i => i ≤ 4) (μ := fun i => 4 - i) 0 (by omega) ?_ ?_
  ·refine Sub.of (hfz hF2) (by simp only [hf9, go_sem, subT, and_self, Int.natCast_zero]) ?_ (by simp [subK, keys]) (by simp)
   simp [subH, Tx.look, flS]
  intro i hi
  have hfl := flS_len s f ch i
  obtain ⟨l, hl⟩ : ∃ l, l = flS s f ch i := ⟨_, rfl⟩
  have hsc : flS s f ch (i + 1) = (flS s f ch i).set (f + i) ((flS s f ch i).getD (f + i) 0 ^^^ flB ch i) := rfl
  rw [← hl] at hfl hsc ⊢
  by_cases hlt : i < 4
  ·have g1 : decide ((i : Int) < 4) = true := dT (by omega)
   have kf : ((f : Int) + (i : Int)).toNat = f + i := by omega
   obtain ⟨xv, hxv⟩ : ∃ xv, xv = l.getD (f + i) 0 := ⟨_, rfl⟩
   obtain ⟨yv, hyv⟩ : ∃ yv, yv = flB ch i := ⟨_, rfl⟩
   rw [← hxv, ← hyv] at hsc
   have rdv : (l.map rowB).getD (f + i) [] = [.int .u8 xv.toNat] := by rw [hxv]; exact rowB_get (by omega)
   have shv : IntKind.u8.wrap ((ch : Int).fdiv (2 ^ min (8 * (i : Int)).toNat 32)) = ((yv.toNat : Nat) : Int) := by rw [hyv]; exact flB_val hlt
   have x8 : Sx.ibits .xor .u8 ((xv.toNat : Nat) : Int) ((yv.toNat : Nat) : Int) = (((xv ^^^ yv).toNat : Nat) : Int) := by
    rw [xor8 xv.toNat_lt yv.toNat_lt, UInt8.toNat_xor]
   have hml : (l.map rowB).length = s.length := by rw [List.length_map, hfl]
   simp only [g1, kf, rdv, shv, x8, hml, Nat.add_assoc, go_sem]
   repeat refine sd2 ?_
   refine ⟨okDyn_num (fun x => x.i) (by kernel_rfl), ?_⟩
   repeat refine sd2 ?_
   refine ⟨i + 1, by omega, by omega, ?_⟩
   refine Sub.o hF2 ?_
   simp only [subH, Tx.look, if_true, rowB_set, hsc, and_true]
  ·have g1 : decide ((i : Int) < 4) = false := dF (by omega)
   obtain rfl : i = 4 := by omega
   have hdn : decG l = none := by rw [hl]; exact flS_refused (by omega) hf4 hfw hsum hc hch
   have dN := fun F L nx => decodeNo_ok (F := F) (L := L) (nx := nx) l (by omega) (by omega) hdn
   have htk : List.take s.length (l.map rowB) = l.map rowB := List.take_of_length_le (by rw [List.length_map]; omega)
   have f1 : ((5 : Int) == 5) = true := rfl
   simp only [g1, htk, rowB_bytes, go_sem]
   refine ⟨⟨by rw [List.length_map]; omega, fun row hrow => ?_⟩, ?_⟩
   ·obtain ⟨b, _, rfl⟩ := List.mem_map.1 hrow
    first | exact ⟨_, rfl⟩ | exact ⟨_, by have := b.toNat_lt; omega, rfl⟩ | simp [isByteP, rowB]
   refine CallVC.same (dN _ _ _) ?_
   simp only [f1, go_sem]
   repeat refine sd2 ?_
   refine CallVC.gen (args2 := [.agg pkZ.row, .agg pkZ.row]) (by simp [Pkx.row, pkZ, WkL, Wk]) (rSameP_ok pkZ pkZ (by simp [pkZ]) (by simp [pkZ]) true (by simp)) ?_
   simp only [Pkx.row, pkZ, List.map_nil, wkNL, wkN, unown, go_sem]
   exact .bool (.inr rfl) rfl rfl (by simp [UpdAll])
 ·have d1 : decide ((4 : Int) < (u : Int)) = true := dT (by omega)
  have d2 : decide ((u : Int) < 12) = false := dF (by omega)
  have hf9 : ((u : Nat) : Int) = ((f : Nat) : Int) := by omega
  simp only [d1, d2, go_sem]
  refine loopK.intro _ _ (I := fun i : Nat => ⟨[none, none, some (.int .u32 ch), none, none, none, none, none, none, some (.sl ⟨L + 1, 608⟩ 0 s.length), some (.int .i64 f), none, none, none, none, none, none, none, none, none, none, none, none, none, none, none, none, none, none, none, none, none, none, none, none, none, none, none, none, none, none, none, none, none, none, some (.int .i64 i), none, none, none, none, none, none, none, none, none, none, none, none, none, none, none, none, none, none, none, none, none, none, none, none, none, none, none, none, none], [(⟨L + 1, 608⟩, .rows 5 1 true true ((flS s f ch i).map rowB))], 10000 * (i + 1)⟩) (pre := fun i => i ≤ 4) (μ := fun i => 4 - i) 0 (by omega) ?_ ?_
  ·refine Sub.of (hfz hF2) (by simp only [hf9, go_sem, subT, and_self, Int.natCast_zero]) ?_ (by simp [subK, keys]) (by simp)
   simp [subH, Tx.look, flS]
  intro i hi
  have hfl := flS_len s f ch i
  obtain ⟨l, hl⟩ : ∃ l, l = flS s f ch i := ⟨_, rfl⟩
  have hsc : flS s f ch (i + 1) = (flS s f ch i).set (f + i) ((flS s f ch i).getD (f + i) 0 ^^^ flB ch i) := rfl
  rw [← hl] at hfl hsc ⊢
  by_cases hlt : i < 4
  ·have g1 : decide ((i : Int) < 4) = true := dT (by omega)
   have kf : ((f : Int) + (i : Int)).toNat = f + i := by omega
   obtain ⟨xv, hxv⟩ : ∃ xv, xv = l.getD (f + i) 0 := ⟨_, rfl⟩
   obtain ⟨yv, hyv⟩ : ∃ yv, yv = flB ch i := ⟨_, rfl⟩
   rw [← hxv, ← hyv] at hsc
   have rdv : (l.map rowB).getD (f + i) [] = [.int .u8 xv.toNat] := by rw [hxv]; exact rowB_get (by omega)
   have shv : IntKind.u8.wrap ((ch : Int).fdiv (2 ^ min (8 * (i : Int)).toNat 32)) = ((yv.toNat : Nat) : Int) := by rw [hyv]; exact flB_val hlt
   have x8 : Sx.ibits .xor .u8 ((xv.toNat : Nat) : Int) ((yv.toNat : Nat) : Int) = (((xv ^^^ yv).toNat : Nat) : Int) := by
    rw [xor8 xv.toNat_lt yv.toNat_lt, UInt8.toNat_xor]
   have hml : (l.map rowB).length = s.length := by rw [List.length_map, hfl]
   simp only [g1, kf, rdv, shv, x8, hml, Nat.add_assoc, go_sem]
   repeat refine sd2 ?_
   refine ⟨okDyn_num (fun x => x.i) (by kernel_rfl), ?_⟩
   repeat refine sd2 ?_
   refine ⟨i + 1, by omega, by omega, ?_⟩
   refine Sub.o hF2 ?_
   simp only [subH, Tx.look, if_true, rowB_set, hsc, and_true]
  ·have g1 : decide ((i : Int) < 4) = false := dF (by omega)
   obtain rfl : i = 4 := by omega
   have hdn : decG l = none := by rw [hl]; exact flS_refused (by omega) hf4 hfw hsum hc hch
   have dN := fun F L nx => decodeNo_ok (F := F) (L := L) (nx := nx) l (by omega) (by omega) hdn
   have htk : List.take s.length (l.map rowB) = l.map rowB := List.take_of_length_le (by rw [List.length_map]; omega)
   have f1 : ((5 : Int) == 5) = true := rfl
   simp only [g1, htk, rowB_bytes, go_sem]
   refine ⟨⟨by rw [List.length_map]; omega, fun row hrow => ?_⟩, ?_⟩
   ·obtain ⟨b, _, rfl⟩ := List.mem_map.1 hrow
    first | exact ⟨_, rfl⟩ | exact ⟨_, by have := b.toNat_lt; omega, rfl⟩ | simp [isByteP, rowB]
   refine CallVC.same (dN _ _ _) ?_
   simp only [f1, go_sem]
   repeat refine sd2 ?_
   refine CallVC.gen (args2 := [.agg pkZ.row, .agg pkZ.row]) (by simp [Pkx.row, pkZ, WkL, Wk]) (rSameP_ok pkZ pkZ (by simp [pkZ]) (by simp [pkZ]) true (by simp)) ?_
   simp only [Pkx.row, pkZ, List.map_nil, wkNL, wkN, unown, go_sem]
   exact .bool (.inr rfl) rfl rfl (by simp [UpdAll])
 ·have d1 : decide ((4 : Int) < (u : Int)) = false := dF (by omega)
  have hf9 : ((u : Nat) : Int) = ((f : Nat) : Int) := by omega
  simp only [d1, go_sem]
  refine loopK.intro _ _ (I := fun i : Nat => ⟨[none, none, some (.int .u32 ch), none, none, none, none, none, none, some (.sl ⟨L + 1, 608⟩ 0 s.length), some (.int .i64 f), none, none, none, none, none, none, none, none, none, none, none, none, none, none, none, none, none, none, none, none, none, none, none, none, none, none, none, none, none, none, none, none, none, none, some (.int .i64 i), none, none, none, none, none, none, none, none, none, none, none, none, none, none, none, none, none, none, none, none, none, none, none, none, none, none, none, none, none], [(⟨L + 1, 608⟩, .rows 5 1 true true ((flS s f ch i).map rowB))], 10000 * (i + 1)⟩) (pre := fun i => i ≤ 4) (μ := fun i => 4 - i) 0 (by omega) ?_ ?_
  ·refine Sub.of (hfz hF2) (by simp only [hf9, go_sem, subT, and_self, Int.natCast_zero]) ?_ (by simp [subK, keys]) (by simp)
   simp [subH, Tx.look, flS]
  intro i hi
  have hfl := flS_len s f ch i
  obtain ⟨l, hl⟩ : ∃ l, l = flS s f ch i := ⟨_, rfl⟩
  have hsc : flS s f ch (i + 1) = (flS s f ch i).set (f + i) ((flS s f ch i).getD (f + i) 0 ^^^ flB ch i) := rfl
  rw [← hl] at hfl hsc ⊢
  by_cases hlt : i < 4
  ·have g1 : decide ((i : Int) < 4) = true := dT (by omega)
   have kf : ((f : Int) + (i : Int)).toNat = f + i := by omega
   obtain ⟨xv, hxv⟩ : ∃ xv, xv = l.getD (f + i) 0 := ⟨_, rfl⟩
   obtain ⟨yv, hyv⟩ : ∃ yv, yv = flB ch i := ⟨_, rfl⟩
   rw [← hxv, ← hyv] at hsc
   have rdv : (l.map rowB).getD (f + i) [] = [.int .u8 xv.toNat] := by rw [hxv]; exact rowB_get (by omega)
   have shv : IntKind.u8.wrap ((ch : Int).fdiv (2 ^ min (8 * (i : Int)).toNat 32)) = ((yv.toNat : Nat) : Int) := by rw [hyv]; exact flB_val hlt
   have x8 : Sx.ibits .xor .u8 ((xv.toNat : Nat) : Int) ((yv.toNat : Nat) : Int) = (((xv ^^^ yv).toNat : Nat) : Int) := by
    rw [xor8 xv.toNat_lt yv.toNat_lt, UInt8.toNat_xor]
   have hml : (l.map rowB).length = s.length := by rw [List.length_map, hfl]
   simp only [g1, kf, rdv, shv, x8, hml, Nat.add_assoc, go_sem]
   repeat refine sd2 ?_
   refine ⟨okDyn_num (fun x => x.i) (by kernel_rfl), ?_⟩
   repeat refine sd2 ?_
   refine ⟨i + 1, by omega, by omega, ?_⟩
   refine Sub.o hF2 ?_
   simp only [subH, Tx.look, if_true, rowB_set, hsc, and_true]
  ·have g1 : decide ((i : Int) < 4) = false := dF (by omega)
   obtain rfl : i = 4 := by omega
   have hdn : decG l = none := by rw [hl]; exact flS_refused (by omega) hf4 hfw hsum hc hch
   have dN := fun F L nx => decodeNo_ok (F := F) (L := L) (nx := nx) l (by omega) (by omega) hdn
   have htk : List.take s.length (l.map rowB) = l.map rowB := List.take_of_length_le (by rw [List.length_map]; omega)
   have f1 : ((5 : Int) == 5) = true := rfl
   simp only [g1, htk, rowB_bytes, go_sem]
   refine ⟨⟨by rw [List.length_map]; omega, fun row hrow => ?_⟩, ?_⟩
   ·obtain ⟨b, _, rfl⟩ := List.mem_map.1 hrow
    first | exact ⟨_, rfl⟩ | exact ⟨_, by have := b.toNat_lt; omega, rfl⟩ | simp [isByteP, rowB]
   refine CallVC.same (dN _ _ _) ?_
   simp only [f1, go_sem]
   repeat refine sd2 ?_
   refine CallVC.gen (args2 := [.agg pkZ.row, .agg pkZ.row]) (by simp [Pkx.row, pkZ, WkL, Wk]) (rSameP_ok pkZ pkZ (by simp [pkZ]) (by simp [pkZ]) true (by simp)) ?_
   simp only [Pkx.row, pkZ, List.map_nil, wkNL, wkN, unown, go_sem]
   exact .bool (.inr rfl) rfl rfl (by simp [UpdAll])
end Go.Proofs.YtaacfnngodhecaaGreatDoor
end
