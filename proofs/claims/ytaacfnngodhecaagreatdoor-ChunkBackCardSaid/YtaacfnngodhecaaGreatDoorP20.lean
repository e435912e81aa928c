/- Lemmas for the walk: WD23, WK59, WR35, WD24, WK60. -/
import Derived.Test.YtaacfnngodhecaaGreatDoorP19
import Derived.Test.YtaacfnngodhecaaGreatDoorP18
import Derived.Test.YtaacfnngodhecaaGreatDoorP15
set_option linter.all false
section
namespace Go.Proofs.YtaacfnngodhecaaGreatDoor
open Go.Tx
set_option maxRecDepth 100000
set_option maxHeartbeats 4000000
theorem dat_ok_len {d : Dat} (h : d.ok = true) : d.pl.length ≤ 1100 := by
 unfold Dat.ok at h
 simp only [Bool.and_eq_true, decide_eq_true_eq] at h
 omega
theorem ini_ok_len {d : Ini} (h : d.ok = true) : d.ck.length ≤ 200 := by
 unfold Ini.ok at h
 simp only [Bool.and_eq_true, decide_eq_true_eq] at h
 omega
theorem rst_len {k n la r : Int} {xs : List Int} (h : resetV k n la r xs = true) : (resetB k n la r xs).length ≤ 100 := by
 obtain ⟨_, _, _, _, h4⟩ := rstB h
 have hx : xs.length ≤ 30 := by rcases h4 with ⟨_, _, h4⟩ | ⟨_, _, _, h4⟩ <;> simp_all
 rw [resetB_len]
 split <;> omega
theorem Pcx.chk_other (p : Pcx) : (p.pl.take 60).length ≤ 1112 ∧ ((0 : Int) ≤ ((p.a % 2 : Nat) : Int) ∧ ((p.a % 2 : Nat) : Int) ≤ 255) ∧ ((0 : Int) ≤ ((kds.getD (p.w / 8 % 8) 0 : Nat) : Int) ∧ ((kds.getD (p.w / 8 % 8) 0 : Nat) : Int) ≤ 255) := by
 refine ⟨by rw [List.length_take]; omega, by omega, ?_⟩
 have hx : p.w / 8 % 8 < 8 := Nat.mod_lt _ (by omega)
 obtain ⟨x, hx9⟩ : ∃ x, x = p.w / 8 % 8 := ⟨_, rfl⟩
 rw [← hx9] at hx ⊢
 rcases (show x = 0 ∨ x = 1 ∨ x = 2 ∨ x = 3 ∨ x = 4 ∨ x = 5 ∨ x = 6 ∨ x = 7 by omega) with rfl | rfl | rfl | rfl | rfl | rfl | rfl | rfl <;> decide
theorem Pcx.chk_small {p : Pcx} (hp : p.Ok) : p.chk.bd.length ≤ 1112 ∧ (0 ≤ p.chk.fl ∧ p.chk.fl ≤ 255) ∧ (0 ≤ p.chk.kd ∧ p.chk.kd ≤ 255) := by
 have h1 := dat_ok_len hp.dat
 have h3 := ini_ok_len (hp.ini p.m8)
 have h2 := sackB hp.sck
 have h4 := fwdB hp.fwd
 have h5 := rst_len hp.rst
 have f1 := flD_ran p.dat.la p.dat.fi p.dat.lo
 obtain ⟨m, hm⟩ : ∃ m, m = p.w % 8 := ⟨_, rfl⟩
 have hm8 : m < 8 := by rw [hm]; exact Nat.mod_lt _ (by omega)
 unfold Pcx.chk
 rw [← hm]
 have s1 : ∀ (k : Int) (b : List UInt8), b.length ≤ 1112 → 0 ≤ k ∧ k ≤ 255 → b.length ≤ 1112 ∧ ((0 : Int) ≤ 0 ∧ (0 : Int) ≤ 255) ∧ (0 ≤ k ∧ k ≤ 255) := fun k b h h' => ⟨h, by omega, h'⟩
 have s2 : (dataB p.dat).length ≤ 1112 := by rw [dataB_len]; omega
 rcases (show m = 6 ∨ m = 7 ∨ m = 0 ∨ m = 1 ∨ m = 2 ∨ m = 3 ∨ m = 4 ∨ m = 5 by omega) with rfl | rfl | rfl | rfl | rfl | rfl | rfl | rfl
 ·exact Pcx.chk_other p
 ·exact Pcx.chk_other p
 ·exact ⟨s2, ⟨f1.1, by have := f1.2; show flD _ _ _ 3 ≤ 255; omega⟩, by show (0 : Int) ≤ 0 ∧ (0 : Int) ≤ 255; omega⟩
 ·exact ⟨s2, ⟨f1.1, by have := f1.2; show flD _ _ _ 3 ≤ 255; omega⟩, by show (0 : Int) ≤ 0 ∧ (0 : Int) ≤ 255; omega⟩
 ·exact s1 3 (sackO p.a p.b ((p.gp p.n).map kN) ((p.db (p.c % 6)).map fun x : Nat => (x : Int))) (by rw [sackO_len]; omega) (by omega)
 ·exact s1 (iniK (p.ini p.m8).ck) (p.ini p.m8).oct (by rw [ini_oct_len]; omega) (by unfold iniK; split <;> omega)
 ·exact s1 192 (fwdT p.a (p.sk p.n)) (by rw [fwdT_len]; simp only [List.length_map] at h4; omega) (by omega)
 ·exact s1 130 (resetB p.rst.kind p.rst.num p.rst.last p.rst.res p.rst.xs) (by omega) (by omega)
structure Dfx where
 fr : Nat
 tt : Nat
 tg : Nat
 ps : List Pcx
def Dfx.row (d : Dfx) : List PV := [.int .u16 d.fr, .int .u16 d.tt, .int .u32 d.tg, .fs 7 (d.ps.map Pcx.row)]
structure Dfx.Ok (d : Dfx) : Prop where
 fr : d.fr < 65536
 tt : d.tt < 65536
 tg : d.tg < 4294967296
 l : d.ps.length ≤ maxLen
 p : ∀ p ∈ d.ps, p.Ok
def Dfx.pk (d : Dfx) (cs : List Ckx) : Pkx := ⟨d.fr, d.tt, d.tg, cs⟩
def Dfx.ch (d : Dfx) (i : Nat) : Ckx := ((d.ps.map Pcx.chk).getD i ⟨11, 0, []⟩)
def Dfx.cs (d : Dfx) : Nat → List Ckx
 | 0 => []
 | i + 1 => if (d.pk (d.cs i ++ [d.ch i])).ok then d.cs i ++ [d.ch i] else d.cs i
def Dfx.n (d : Dfx) : Nat := min d.ps.length 6
def Dfx.all (d : Dfx) : List Ckx := if d.cs d.n = [] then [⟨11, 0, []⟩] else d.cs d.n
theorem Dfx.cs_len (d : Dfx) : ∀ i, (d.cs i).length ≤ i
 | 0 => Nat.le_refl _
 | i + 1 => by
  have := d.cs_len i
  unfold Dfx.cs
  split
  ·rw [List.length_append]; simp only [List.length_cons, List.length_nil]; omega
  ·omega
theorem rowPcx {ps : List Pcx} {i : Nat} (h : i < ps.length) : (ps.map Pcx.row).getD i [] = (ps[i]).row := by simp [List.getD_eq_getElem?_getD, h]
theorem Dfx.ch_at {d : Dfx} {i : Nat} (h : i < d.ps.length) : d.ch i = (d.ps[i]).chk := by simp [Dfx.ch, List.getD_eq_getElem?_getD, h]
theorem Dfx.cs_small {d : Dfx} (hd : d.Ok) : ∀ i, i ≤ d.ps.length → ∀ c ∈ d.cs i, c.bd.length ≤ 1112
 | 0, _, c, hc => by simp [Dfx.cs] at hc
 | i + 1, hi, c, hc => by
  unfold Dfx.cs at hc
  have ih := Dfx.cs_small hd i (by omega)
  split at hc
  ·rcases List.mem_append.1 hc with h | h
   ·exact ih c h
   ·simp only [List.mem_cons, List.not_mem_nil, or_false] at h
    rw [h, Dfx.ch_at (by omega)]
    exact (Pcx.chk_small (hd.p _ (List.getElem_mem _))).1
  ·exact ih c hc
theorem dPacket_ok {F : SF} {L nx : Nat} (d : Dfx) (hd : d.Ok) : Con Tryz.prog 11 [.agg d.row] F L nx nx (.agg (d.pk d.all).row) [] [] := by
 have hdd := hd
 obtain ⟨hf, ht, hg, hl, hp⟩ := hd
 unfold maxLen at hl
 refine bdy Tryz.f11 ?_
 intro F3 hF1 hF2
 simp only [Tryz.f11, cx, Dfx.row, Nat.add_zero, go_sem, meths]
 repeat refine sd2 ?_
 refine loopK.intro _ _ (I := fun z : Nat × Nat => ⟨[none, some (.ptr ⟨L + 1, 0⟩ 0 0), some (.ptr ⟨L + 1, 32⟩ 0 0), some (.ptr ⟨L + 1, 384⟩ 0 0), some (.int .i64 z.1), none, none, none, none, none, none, none, none, none, none, none, none, none, none, none, none, none, none, none, none, none, none, none, none, none, none, none, none, none, none, none, none, none, none, none, none, none, none, none, none, none, none, none, none, none, none, none, none],
  [(⟨L + 1, 0⟩, .rows 29 4 true true [[.int .u16 d.fr, .int .u16 d.tt, .int .u32 d.tg, .fs 7 (d.ps.map Pcx.row)]]), (⟨L + 1, 32⟩, .rows 24 4 true true [[.int .i64 0, .int .i64 0, .int .i64 0, .nilS]]), (⟨L + 1, 384⟩, .rows 24 4 true false [[.int .i64 d.fr, .int .i64 d.tt, .int .i64 d.tg, .sl ⟨L + 1, z.2⟩ 0 (d.cs z.1).length]]), (⟨L + 1, z.2⟩, .rows 34 3 true true ((d.cs z.1).map Ckx.row))], 10000 * (z.1 + 1)⟩)
  (pre := fun z => z.1 ≤ d.n ∧ 480 ≤ z.2 ∧ z.2 < 10000 * (z.1 + 1)) (μ := fun z => d.n - z.1) (0, 480) ⟨by simp, by simp, by simp⟩ ?_ ?_
 ·refine Sub.trans (Sub.nilCell (n := ⟨L + 1, 384⟩) (e := 24) (e2 := 34) (wd := 4) (wd2 := 3) (o := true) (p := true) (row := [.int .i64 d.fr, .int .i64 d.tt, .int .i64 d.tg, .nilS]) (row1 := [.int .i64 d.fr, .int .i64 d.tt, .int .i64 d.tg, .sl ⟨L + 1, 480⟩ 0 0]) (by omega) (by simp [Tx.look]) (by simp) rfl ?_) ?_
  ·intro k
   rcases k with _ | _ | _ | _ | k
   ·exact .inl rfl
   ·exact .inl rfl
   ·exact .inl rfl
   ·exact .inr ⟨rfl, rfl⟩
   ·exact .inl rfl
  ·refine Sub.of (hfz hF2) (by simp only [go_sem, subT, and_self, Int.natCast_zero]; try trivial) ?_ ?_ ?_
   ·simp [subH, Tx.look, updH, setH, Dfx.cs]
   ·simp [subK, keys, updH, setH]
   ·simp
 rintro ⟨i, q⟩ ⟨hi, hq0, hq⟩
 simp only at hi hq0 hq ⊢
 have hcl := d.cs_len i
 have hn6 : d.n ≤ 6 := by unfold Dfx.n; omega
 have hnl : d.n ≤ d.ps.length := by unfold Dfx.n; omega
 have hsm := d.cs_small hdd i (by omega)
 obtain ⟨cs, hcs⟩ : ∃ cs, cs = d.cs i := ⟨_, rfl⟩
 have hsucc : d.cs (i + 1) = if (d.pk (d.cs i ++ [d.ch i])).ok then d.cs i ++ [d.ch i] else d.cs i := rfl
 rw [← hcs] at hcl hsm hsucc ⊢
 have hcm : (cs.map Ckx.row).length = cs.length := List.length_map _
 have q_0 : (q = 0) = False := by apply eq_false; omega
 have n0_q : (0 = q) = False := by apply eq_false; omega
 have q_32 : (q = 32) = False := by apply eq_false; omega
 have n32_q : (32 = q) = False := by apply eq_false; omega
 have q_384 : (q = 384) = False := by apply eq_false; omega
 have n384_q : (384 = q) = False := by apply eq_false; omega
 obtain ⟨q_n1, q_n2, q_n3, q_n4, q_n5⟩ := nqL L (i := i) (p := q) (by omega)
 by_cases hlt : i < d.n
 ·have f1 : decide ((i : Int) < (d.ps.length : Int)) = true := dT (by omega)
  have f2 : decide ((i : Int) < 6) = true := dT (by omega)
  have r0 := rowPcx (ps := d.ps) (i := i) (by omega)
  have hch := d.ch_at (i := i) (by omega)
  have hpi := hp (d.ps[i]'(by omega)) (List.getElem_mem _)
  obtain ⟨p, hpp⟩ : ∃ p, p = d.ps[i]'(by omega) := ⟨_, rfl⟩
  rw [← hpp] at r0 hch hpi
  have hps := Pcx.chk_small hpi
  have cC := fun F L nx => pChunk_ok (F := F) (L := L) (nx := nx) p hpi
  rw [← hch] at hps cC
  obtain ⟨c, hc⟩ : ∃ c, c = d.ch i := ⟨_, rfl⟩
  rw [← hc] at hps cC hsucc
  simp only [Ckx.row] at cC
  have prl : p.row.length = 7 := rfl
  have prn : nfl p.row = true := rfl
  have nb9 : (10000 * (i + 1) + 512 == 10000 * (i + 1) + 704) = false := by simp
  have htk : List.take cs.length (cs.map Ckx.row) = cs.map Ckx.row := List.take_of_length_le (by simp)
  have hR := fun F L nx => rRight_ok (F := F) (L := L) (nx := nx) (d.pk (cs ++ [c])) (by show (cs ++ [c]).length ≤ maxLen; rw [List.length_append]; simp only [List.length_cons, List.length_nil]; unfold maxLen; omega) (by
   intro x hx
   have : x.bd.length ≤ 1112 := by
    rcases List.mem_append.1 hx with h | h
    ·exact hsm x h
    ·simp only [List.mem_cons, List.not_mem_nil, or_false] at h
     rw [h]; exact hps.1
   unfold maxLen; omega)
  simp only [f1, f2, r0, htk, hcm, List.length_map, q_0, n0_q, q_32, q_384, n384_q, q_n1, q_n2, kS2, kS2', kS3, Nat.add_assoc, go_sem]
  repeat refine sd2 ?_
  refine CallVC.same (cC _ _ _) ?_
  simp only [htk, hcm, nb9, q_n1, knm_beq, kS2, kS3, Nat.add_assoc, go_sem]
  repeat refine sd2 ?_
  refine ⟨okDyn_num (fun x => if x.i = q then 1 else if x.i = 384 then 2 else x.i % 10000 + 100) (by simp only [numF, List.map, n0_q, q_384, n384_q, q_n1, Nat.reduceEqDiff, if_true, if_false, Nat.mul_add_mod, Nat.reduceMod]; kernel_rfl), ?_⟩
  repeat refine sd2 ?_
  have hwk : wkN (.agg [.int .i64 d.fr, .int .i64 d.tt, .int .i64 d.tg, .sl ⟨L + 1, 10000 * (i + 1) + 736⟩ 0 (cs.length + 1)]) (.agg (d.pk (cs ++ [c])).row) = [⟨L + 1, 10000 * (i + 1) + 736⟩] := by simp [Dfx.pk, Pkx.row, wkN, wkNL]
  refine CallVC.pure (args2 := [.agg (d.pk (cs ++ [c])).row]) (by simp [Dfx.pk, Pkx.row, Ckx.row, Wk, WkL, List.take_of_length_le, q_n1]) (hR _ _ _) rfl ?_
  cases hok : (d.pk (cs ++ [c])).ok with
  | true =>
   rw [hok, if_pos rfl] at hsucc
   have hl1 : (cs ++ [c]).length = cs.length + 1 := by simp
   simp only [hwk, wkNL, n384_q, q_n1, kS2, kS2', kS3, Nat.add_assoc, go_sem]
   repeat refine sd2 ?_
   refine ⟨(i + 1, 10000 * (i + 1) + 736), ⟨by simp only []; omega, by simp only []; omega, by simp only []; omega⟩, by simp only []; omega, ?_⟩
   refine Sub.o hF2 ?_
   simp [subH, Tx.look, hsucc, hl1, Ckx.row, q_n1, nB, kS2]
  | false =>
   rw [hok, if_neg (by simp)] at hsucc
   simp only [hwk, wkNL, Nat.add_assoc, go_sem]
   repeat refine sd2 ?_
   refine ⟨(i + 1, q), ⟨by simp only []; omega, by simp only []; omega, by simp only []; omega⟩, by simp only []; omega, ?_⟩
   refine Sub.o hF2 ?_
   simp [subH, Tx.look, hsucc, q_0, q_32, q_384]
 ·have hin : i = d.n := by omega
  have hcase : (decide ((i : Int) < (d.ps.length : Int)) = true ∧ decide ((i : Int) < 6) = false) ∨ decide ((i : Int) < (d.ps.length : Int)) = false := by
   by_cases h : i < d.ps.length
   ·exact .inl ⟨dT (by omega), dF (by unfold Dfx.n at hin; omega)⟩
   ·exact .inr (dF (by omega))
  have hall : d.all = if cs = [] then [⟨11, 0, []⟩] else cs := by unfold Dfx.all; rw [← hin, ← hcs]
  rcases hcase with ⟨f1, f2⟩ | f1
  ·rw [hall]
   cases cs with
   | nil =>
    have f3 : (((0 : Nat) : Int) == 0) = true := rfl
    simp only [f1, f2, f3, if_true, List.length_map, n0_q, n32_q, n384_q, q_n1, kS2, kS2', Nat.add_assoc, go_sem]
    repeat refine sd2 ?_
    exact PostF.of (p := True) (v0 := .agg [.int .i64 d.fr, .int .i64 d.tt, .int .i64 d.tg, .sl ⟨L + 1, 10000 * (i + 1) + 448⟩ 0 1]) (.inr rfl) (by simp only [resVal, resVals, resVal1, one, n32_q, go_sem]) trivial (by simp [Dfx.pk, Pkx.row, Ckx.row, Wk, WkL, Tx.look, List.take_of_length_le, q_n1]) (by simp [Dfx.pk, Pkx.row, wkN, wkNL]) (by simp [Dfx.pk, Pkx.row, Tx.nf, nfl]) trivial (by simp [UpdAll, keys])
   | cons a l =>
    have f3 : (((l.length + 1 : Nat) : Int) == 0) = false := by simp; omega
    have f4 : (a :: l).length = l.length + 1 := rfl
    simp only [f1, f2, f3, List.length_map, n0_q, n32_q, n384_q, Nat.add_assoc, go_sem]
    repeat refine sd2 ?_
    exact PostF.of (p := True) (v0 := .agg [.int .i64 d.fr, .int .i64 d.tt, .int .i64 d.tg, .sl ⟨L + 1, q⟩ 0 (l.length + 1)]) (.inr rfl) (by simp only [resVal, resVals, resVal1, one, n32_q, go_sem]) trivial (by simp [Dfx.pk, Pkx.row, Ckx.row, Wk, WkL, Tx.look, List.take_of_length_le, q_0, q_32, q_384]) (by simp [Dfx.pk, Pkx.row, wkN, wkNL]) (by simp [Dfx.pk, Pkx.row, Tx.nf, nfl]) trivial (by simp [UpdAll, keys])
  ·rw [hall]
   cases cs with
   | nil =>
    have f3 : (((0 : Nat) : Int) == 0) = true := rfl
    simp only [f1, f3, if_true, List.length_map, n0_q, n32_q, n384_q, q_n1, kS2, kS2', Nat.add_assoc, go_sem]
    repeat refine sd2 ?_
    exact PostF.of (p := True) (v0 := .agg [.int .i64 d.fr, .int .i64 d.tt, .int .i64 d.tg, .sl ⟨L + 1, 10000 * (i + 1) + 384⟩ 0 1]) (.inr rfl) (by simp only [resVal, resVals, resVal1, one, n32_q, go_sem]) trivial (by simp [Dfx.pk, Pkx.row, Ckx.row, Wk, WkL, Tx.look, List.take_of_length_le, q_n1]) (by simp [Dfx.pk, Pkx.row, wkN, wkNL]) (by simp [Dfx.pk, Pkx.row, Tx.nf, nfl]) trivial (by simp [UpdAll, keys])
   | cons a l =>
    have f3 : (((l.length + 1 : Nat) : Int) == 0) = false := by simp; omega
    have f4 : (a :: l).length = l.length + 1 := rfl
    simp only [f1, f3, List.length_map, n0_q, n32_q, n384_q, Nat.add_assoc, go_sem]
    repeat refine sd2 ?_
    exact PostF.of (p := True) (v0 := .agg [.int .i64 d.fr, .int .i64 d.tt, .int .i64 d.tg, .sl ⟨L + 1, q⟩ 0 (l.length + 1)]) (.inr rfl) (by simp only [resVal, resVals, resVal1, one, n32_q, go_sem]) trivial (by simp [Dfx.pk, Pkx.row, Ckx.row, Wk, WkL, Tx.look, List.take_of_length_le, q_0, q_32, q_384]) (by simp [Dfx.pk, Pkx.row, wkN, wkNL]) (by simp [Dfx.pk, Pkx.row, Tx.nf, nfl]) trivial (by simp [UpdAll, keys])
end Go.Proofs.YtaacfnngodhecaaGreatDoor
end
section
namespace Go.Proofs.YtaacfnngodhecaaGreatDoor
open Go.ChangeShapes Go.WideShapes Go.ChangeAt Go.RowKit Go.Tx
set_option maxRecDepth 100000
theorem trodAll_two32 {P : Program} {H : Type} {enc : TypeId × Value → H} {w : World} {base : Nat} {spare : TypeId → Bool} {held : Bool} {t0 t1 : TypeId} {args : Array Value} {ds : List (DataW H)} {ps : List MemPlace} (h : DataW.TrodAll enc P w base spare held [t0, t1] args.toList ds ps) :
  ∃ v0 v1 d0 d1 p0 p1, args = #[v0, v1] ∧ ds = [d0, d1] ∧ ps = p0 ++ p1 ∧ DataW.Trod enc P w base spare held t0 v0 d0 p0 ∧ DataW.Trod enc P w base spare held t1 v1 d1 p1 := by
 obtain ⟨v0, vs0, d0, ds0, p0, q0, hargs, rfl, rfl, hd0, h⟩ := trodAll_cons h
 obtain ⟨v1, vs1, d1, ds1, p1, q1, rfl, rfl, rfl, hd1, h⟩ := trodAll_cons h
 obtain ⟨rfl, rfl, rfl⟩ := trodAll_nil h
 exact ⟨v0, v1, d0, d1, p0, p1, by cases args; simp_all, rfl, by simp, hd0, hd1⟩
theorem undDraft32 : ∃ fs, Tryz.prog.underlying 29 = some (.struct fs) := undS (by kernel_rfl)
theorem shpDraft32 {n : Nat} {xs : List PV} (h : Shp tys (n + 6) 29 xs) : ∃ d : Dfx, xs = d.row ∧ d.Ok := by
 have h := Shp.struct g29 h
 simp only [List.foldr] at h
 obtain ⟨_, _, rfl, h1, _, _, rfl, h2, _, _, rfl, h3, _, _, rfl, h4, rfl⟩ := h
 obtain ⟨_, rfl, w1⟩ := Shp.int g25 h1
 obtain ⟨_, rfl, w2⟩ := Shp.int g25 h2
 obtain ⟨_, rfl, w3⟩ := Shp.int g26 h3
 obtain ⟨a1, rfl, b1⟩ := wf16 w1
 obtain ⟨a2, rfl, b2⟩ := wf16 w2
 obtain ⟨a3, rfl, b3⟩ := wf32 w3
 obtain ⟨wd, rs, rfl, l4, e4, s4⟩ := Shp.slice g27 h4
 rw [g65] at e4
 simp only [Option.map_some, Option.some.injEq] at e4
 subst e4
 obtain ⟨l, rfl, hl⟩ := rowsOf (f := Pcx.row) (ok := Pcx.Ok) (fun xs hx => shpPiece hx) rs s4
 exact ⟨⟨a1, a2, a3, l⟩, rfl, b1, b2, b3, by simpa using l4, hl⟩
end Go.Proofs.YtaacfnngodhecaaGreatDoor
end
section
namespace Go.Proofs.YtaacfnngodhecaaGreatDoor
open Go.Tx
set_option maxRecDepth 100000
set_option maxHeartbeats 16000000
theorem le4_len (v : Nat) : (le4 v).length = 4 := rfl
theorem sumT_sum {t : List UInt8} (h : 12 ≤ t.length) : sumT (sumS t) = sumT t := by
 have h8 : (t.take 8).length = 8 := by rw [List.length_take]; omega
 obtain ⟨c4, hc, l4⟩ : ∃ c4, c4 = le4 (crcN (sumT t)) ∧ c4.length = 4 := ⟨_, rfl, rfl⟩
 unfold sumS
 rw [← hc]
 unfold sumT
 rw [List.append_assoc (t.take 8) c4, take_at h8.symm, drop_at2 (A := t.take 8) (q := 4) (by omega), drop_at l4.symm]
theorem sumS_sum {t : List UInt8} (h : 12 ≤ t.length) : sumS (sumS t) = sumS t := by
 have h8 : (t.take 8).length = 8 := by rw [List.length_take]; omega
 have hT := sumT_sum h
 unfold sumS at hT ⊢
 rw [hT]
 rw [List.append_assoc (t.take 8), take_at h8.symm, drop_at2 (A := t.take 8) (q := 4) (by omega), drop_at (by rw [le4_len]), List.append_assoc]
theorem serB8n {n : Int} (h : serB 8 n = true) : n = ((n.toNat : Nat) : Int) ∧ n.toNat < 256 := by
 have := serB8 h; omega
theorem ck_read {X R : List UInt8} {c : Ckx} (hc : c.ok = true) :
  lnAt (X ++ (ckB c ++ R)) X.length = 4 + c.bd.length ∧ ckGood (X ++ (ckB c ++ R)) X.length = true ∧ ckNx X.length (4 + c.bd.length) = X.length + (ckB c).length ∧ ckOf (X ++ (ckB c ++ R)) X.length (4 + c.bd.length) = c := by
 unfold Ckx.ok at hc
 simp only [Bool.and_eq_true, decide_eq_true_eq] at hc
 obtain ⟨⟨h1, h2⟩, h3⟩ := hc
 obtain ⟨k1, k2⟩ := serB8n h1
 obtain ⟨f1, f2⟩ := serB8n h2
 have lz : ∀ n, (zer n).length = n := fun n => by simp [zer]
 have e : ∀ R : List UInt8, X ++ (ckB c ++ R) = X ++ (putB 1 c.kd.toNat ++ (putB 1 c.fl.toNat ++ (putB 2 (4 + c.bd.length) ++ (c.bd ++ (zer ((4 - c.bd.length % 4) % 4) ++ R))))) := fun R => by
  simp only [ckB, padS, List.append_assoc]
 have hl : lnAt (X ++ (ckB c ++ R)) X.length = 4 + c.bd.length := by
  rw [e]
  unfold lnAt
  rw [← List.append_assoc, ← List.append_assoc]
  exact num_at (by simp only [List.length_append, putB_len]) (by omega)
 have hlen : (ckB c).length = 4 + c.bd.length + (4 - c.bd.length % 4) % 4 := by
  simp only [ckB, padS, List.length_append, putB_len, lz]; omega
 have hm : (4 - (4 + c.bd.length) % 4) % 4 = (4 - c.bd.length % 4) % 4 := by omega
 refine ⟨hl, ?_, ?_, ?_⟩
 ·unfold ckGood
  rw [hl, hm]
  simp only [Bool.and_eq_true, decide_eq_true_eq, List.length_append, hlen]
  refine ⟨by omega, by omega, by omega, ?_⟩
  rw [e]
  rw [show X ++ (putB 1 c.kd.toNat ++ (putB 1 c.fl.toNat ++ (putB 2 (4 + c.bd.length) ++ (c.bd ++ (zer ((4 - c.bd.length % 4) % 4) ++ R))))) = (X ++ (putB 1 c.kd.toNat ++ (putB 1 c.fl.toNat ++ (putB 2 (4 + c.bd.length) ++ c.bd)))) ++ (zer ((4 - c.bd.length % 4) % 4) ++ R) by simp only [List.append_assoc]]
  rw [drop_at (by simp only [List.length_append, putB_len]; omega), take_at (by rw [lz])]
  simp [zer, List.all_replicate]
 ·unfold ckNx
  rw [hlen, hm]; omega
 ·unfold ckOf
  have a1 : getB (((X ++ (ckB c ++ R)).drop X.length).take 1) = c.kd.toNat := by
   rw [e]; exact num_at rfl (by omega)
  have a2 : getB (((X ++ (ckB c ++ R)).drop (X.length + 1)).take 1) = c.fl.toNat := by
   rw [e, ← List.append_assoc]; exact num_at (by simp only [List.length_append, putB_len]) (by omega)
  have a3 : ((X ++ (ckB c ++ R)).drop (X.length + 4)).take (4 + c.bd.length - 4) = c.bd := by
   rw [e]
   rw [show X ++ (putB 1 c.kd.toNat ++ (putB 1 c.fl.toNat ++ (putB 2 (4 + c.bd.length) ++ (c.bd ++ (zer ((4 - c.bd.length % 4) % 4) ++ R))))) = (X ++ (putB 1 c.kd.toNat ++ (putB 1 c.fl.toNat ++ putB 2 (4 + c.bd.length)))) ++ (c.bd ++ (zer ((4 - c.bd.length % 4) % 4) ++ R)) by simp only [List.append_assoc]]
   rw [drop_at (by simp only [List.length_append, putB_len]), take_at (by omega)]
  rw [a1, a2, a3, ← k1, ← f1]
theorem cks_enc : ∀ (cs : List Ckx) (X : List UInt8) (f : Nat), cs.all Ckx.ok = true → cs.length < f → cksF (X ++ cs.flatMap ckB) f X.length = some cs
 | [], X, f + 1, _, _ => by simp [cksF]
 | c :: l, X, f + 1, h, hf => by
  simp only [List.all_cons, Bool.and_eq_true] at h
  rw [List.flatMap_cons]
  obtain ⟨r1, r2, r3, r4⟩ := ck_read (X := X) (R := l.flatMap ckB) h.1
  have ih := cks_enc l (X ++ ckB c) f h.2 (by simp at hf; omega)
  rw [List.append_assoc, List.length_append] at ih
  unfold cksF
  rw [if_neg (by simp only [List.length_append, ckB_len, Ckx.sz]; omega), if_pos r2, r1, r3, ih, r4]
  rfl
theorem szs_mem : ∀ {cs : List Ckx}, 4 * cs.length ≤ szs cs
 | [] => by simp [szs]
 | c :: l => by
  have := szs_mem (cs := l)
  simp only [szs, List.map_cons, List.sum_cons, List.length_cons, Ckx.sz] at this ⊢
  omega
theorem decG_of {s : List UInt8} {cs : List Ckx} (h : cksF s 2000 12 = some cs) (h2 : ((pkG s cs).ok && sumS s == s) = true) : decG s = some (pkG s cs) := by
 unfold decG
 rw [h, Option.bind_some, if_pos h2]
theorem cks_enc12 {X : List UInt8} {cs : List Ckx} (h : cs.all Ckx.ok = true) (hl : cs.length < 2000) (hX : X.length = 12) : cksF (X ++ cs.flatMap ckB) 2000 12 = some cs := by
 have := cks_enc cs X 2000 h hl
 rwa [hX] at this
theorem dec_enc {p : Pkx} (h : p.ok = true) : decG (encS p) = some p := by
 have hok := h
 unfold Pkx.ok Pkx.hd at h
 simp only [Bool.and_eq_true, decide_eq_true_eq] at h
 obtain ⟨⟨⟨⟨⟨⟨h1, h2⟩, h3⟩, h4⟩, h5⟩, h6⟩, h7⟩ := h
 obtain ⟨a, ea, ba⟩ := serB_ex h1
 obtain ⟨b, eb, bb⟩ := serB_ex h2
 obtain ⟨g, eg, bg⟩ := serB_ex h3
 have ba' : a < 256 ^ 2 := ba
 have bb' : b < 256 ^ 2 := bb
 have bg' : g < 256 ^ 4 := bg
 have hlen : 12 ≤ (pkB p).length := by rw [pkB_len]; omega
 have hpk : pkB p = (putB 2 a ++ (putB 2 b ++ putB 4 g)) ++ (putB 4 0 ++ p.cs.flatMap ckB) := by
  unfold pkB
  rw [ea, eb, eg]
  simp only [Int.toNat_natCast, List.append_assoc]
 have hA : (putB 2 a ++ (putB 2 b ++ putB 4 g)).length = 8 := by simp only [List.length_append, putB_len]
 obtain ⟨c4, hc4, l4⟩ : ∃ c4, c4 = le4 (crcN (sumT (pkB p))) ∧ c4.length = 4 := ⟨_, rfl, rfl⟩
 have hs : encS p = ((putB 2 a ++ (putB 2 b ++ putB 4 g)) ++ c4) ++ p.cs.flatMap ckB := by
  unfold encS sumS
  rw [← hc4]
  rw [hpk, take_at hA.symm, drop_at2 (A := putB 2 a ++ (putB 2 b ++ putB 4 g)) (q := 4) (by omega), drop_at (by rw [putB_len])]
 have hX : ((putB 2 a ++ (putB 2 b ++ putB 4 g)) ++ c4).length = 12 := by rw [List.length_append, hA, l4]
 have hcs : cksF (encS p) 2000 12 = some p.cs := by
  rw [hs]
  exact cks_enc12 h6 (by omega) hX
 have hsum : sumS (encS p) = encS p := sumS_sum hlen
 have hG : pkG (encS p) p.cs = p := by
  unfold pkG
  have s0 : encS p = [] ++ (putB 2 a ++ (putB 2 b ++ (putB 4 g ++ (c4 ++ p.cs.flatMap ckB)))) := by rw [hs]; simp only [List.append_assoc, List.nil_append]
  have n1 : getB ((encS p).take 2) = a := by
   have := num_at (A := []) (R := putB 2 b ++ (putB 4 g ++ (c4 ++ p.cs.flatMap ckB))) (p := 0) (n := 2) rfl ba'
   rw [← s0] at this
   simpa using this
  have n2 : getB (((encS p).drop 2).take 2) = b := by
   have := num_at (A := putB 2 a) (R := putB 4 g ++ (c4 ++ p.cs.flatMap ckB)) (p := 2) (n := 2) (putB_len 2 a).symm bb'
   rw [List.nil_append] at s0
   rw [← s0] at this
   exact this
  have n3 : getB (((encS p).drop 4).take 4) = g := by
   have := num_at (A := putB 2 a ++ putB 2 b) (R := c4 ++ p.cs.flatMap ckB) (p := 4) (n := 4) (by simp only [List.length_append, putB_len]) bg'
   rw [List.nil_append, ← List.append_assoc] at s0
   rw [← s0] at this
   exact this
  rw [n1, n2, n3, ← ea, ← eb, ← eg]
 rw [decG_of hcs (by rw [hG, hok, hsum]; simp), hG]
theorem enc_len {p : Pkx} (h : p.ok = true) : (encS p).length = 12 + szs p.cs ∧ 16 ≤ (encS p).length ∧ (encS p).length ≤ 1200 := by
 unfold Pkx.ok Pkx.hd at h
 simp only [Bool.and_eq_true, decide_eq_true_eq] at h
 obtain ⟨⟨⟨⟨_, h4⟩, h5⟩, h6⟩, h7⟩ := h
 have := szs_mem (cs := p.cs)
 have hl : 12 ≤ (pkB p).length := by rw [pkB_len]; omega
 have h8 : ((pkB p).take 8).length = 8 := by rw [List.length_take]; omega
 have : (encS p).length = 12 + szs p.cs := by
  unfold encS sumS
  rw [List.length_append, List.length_append, h8, le4_len, List.length_drop, pkB_len]; omega
 omega
theorem enc_inj {p q : Pkx} (h : p.ok = true) (h' : q.ok = true) (e : encS p = encS q) : p = q := by
 have h1 := dec_enc h
 rw [e, dec_enc h'] at h1
 exact (Option.some.inj h1).symm
structure GetPut (c : Ckx) (g p : FuncId) (x : PV) : Prop where
 g : ∀ (F : SF) (L nx : Nat), Con Tryz.prog g [.agg c.row] F L nx nx (.tup [x, .int .i64 0]) [] []
 p : ∀ (F : SF) (L nx : Nat), Con Tryz.prog p [x] F L nx nx (.tup [.agg c.row, .int .i64 0]) [] []
theorem gpD (d : Dat) (h : d.ok = true) : GetPut ⟨0, flD d.la d.fi d.lo 3, dataB d⟩ 43 21 (.agg d.row) := by
 refine ⟨fun F L nx => ?_, fun F L nx => ?_⟩
 ·have h2 := getDataT_ok (F := F) (L := L) (nx := nx) ⟨0, flD d.la d.fi d.lo 3, dataB d⟩ (by
   have := dat_ok_len h
   show (dataB d).length ≤ _
   rw [dataB_len]; omega)
  rw [dataBack h] at h2
  exact h2
 ·have h1 := putData_ok (F := F) (L := L) (nx := nx) d
  rw [h, if_pos rfl] at h1
  exact h1
theorem gpI (d : Ini) (h : d.ok = true) : GetPut ⟨iniK d.ck, 0, d.oct⟩ 44 30 (.agg d.row) := by
 refine ⟨fun F L nx => ?_, fun F L nx => ?_⟩
 ·have h2 := getInitT_ok (F := F) (L := L) (nx := nx) ⟨iniK d.ck, 0, d.oct⟩ (by
   have := ini_ok_len h
   show d.oct.length ≤ _
   rw [ini_oct_len]; omega)
  rw [iniBack h] at h2
  exact h2
 ·have h1 := putInit_ok (F := F) (L := L) (nx := nx) d
  rw [h, if_pos rfl] at h1
  exact h1
theorem gpS (c w : Int) (gs : List (Int × Int)) (ds : List Int) (h : sackV c w gs ds = true) : GetPut ⟨3, 0, sackO c w gs ds⟩ 45 26 (sackP c w gs ds) := by
 obtain ⟨_, _, _, h4, h5, _⟩ := sackB h
 refine ⟨fun F L nx => ?_, fun F L nx => ?_⟩
 ·have h2 := getSackT_ok (F := F) (L := L) (nx := nx) ⟨3, 0, sackO c w gs ds⟩ (by
   show (sackO c w gs ds).length ≤ _
   rw [sackO_len]; omega)
  rw [sackBack h] at h2
  exact h2
 ·have h1 := putSack_ok (F := F) (L := L) (nx := nx) c w gs ds (by omega) (by omega)
  rw [h, if_pos rfl] at h1
  exact h1
theorem gpF (c : Int) (sk : List (Int × Int)) (h : fwdV c sk = true) : GetPut ⟨192, 0, fwdT c.toNat (sk.map fun k => (k.1.toNat, k.2.toNat))⟩ 46 34 (fwdP c sk) := by
 obtain ⟨_, _, _, h4⟩ := fwdB h
 refine ⟨fun F L nx => ?_, fun F L nx => ?_⟩
 ·have h2 := getForwardT_ok (F := F) (L := L) (nx := nx) ⟨192, 0, fwdT c.toNat (sk.map fun k => (k.1.toNat, k.2.toNat))⟩ (by
   show (fwdT _ _).length ≤ _
   rw [fwdT_len, List.length_map]; omega)
  rw [fwdBack h] at h2
  exact h2
 ·have h1 := putForward_ok (F := F) (L := L) (nx := nx) c sk (by omega)
  rw [h, if_pos rfl] at h1
  exact h1
theorem gpR (k n la r : Int) (xs : List Int) (h : resetV k n la r xs = true) : GetPut ⟨130, 0, resetB k n la r xs⟩ 47 38 (rstP k n la r (.fs 1 (xs.map eI))) := by
 have hb := rst_len h
 obtain ⟨_, _, _, _, h4⟩ := rstB h
 have hx : xs.length ≤ 30 := by rcases h4 with ⟨_, _, h4⟩ | ⟨_, _, _, h4⟩ <;> simp_all
 refine ⟨fun F L nx => ?_, fun F L nx => ?_⟩
 ·have h2 := getResetT_ok (F := F) (L := L) (nx := nx) ⟨130, 0, resetB k n la r xs⟩ (by
   show (resetB k n la r xs).length ≤ _
   omega)
  rw [rstBack h] at h2
  exact h2
 ·have h1 := putReset_ok (F := F) (L := L) (nx := nx) k n la r xs (by omega)
  rw [h, if_pos rfl] at h1
  exact h1
inductive CkBack (c : Ckx) : Prop
 | dat (d : Dat) (hk : c.kd = 0) (h : GetPut c 43 21 (.agg d.row))
 | ini (d : Ini) (hk : c.kd = 1 ∨ c.kd = 2) (h : GetPut c 44 30 (.agg d.row))
 | sck (a w : Int) (gs : List (Int × Int)) (ds : List Int) (hk : c.kd = 3) (h : GetPut c 45 26 (sackP a w gs ds))
 | fwd (a : Int) (sk : List (Int × Int)) (hk : c.kd = 192) (h : GetPut c 46 34 (fwdP a sk))
 | rst (k n la r : Int) (xs : List Int) (hk : c.kd = 130) (h : GetPut c 47 38 (rstP k n la r (.fs 1 (xs.map eI))))
 | oth (h0 : c.kd ≠ 0) (h1 : c.kd ≠ 1) (h2 : c.kd ≠ 2) (h3 : c.kd ≠ 3) (h4 : c.kd ≠ 192) (h5 : c.kd ≠ 130)
theorem kds_oth {x : Nat} (h : x < 8) : 4 ≤ kds.getD x 0 ∧ kds.getD x 0 ≤ 14 := by
 rcases (show x = 0 ∨ x = 1 ∨ x = 2 ∨ x = 3 ∨ x = 4 ∨ x = 5 ∨ x = 6 ∨ x = 7 by omega) with rfl | rfl | rfl | rfl | rfl | rfl | rfl | rfl <;> decide
theorem Pcx.chk_back {p : Pcx} (hp : p.Ok) : CkBack p.chk := by
 obtain ⟨m, hm⟩ : ∃ m, m = p.w % 8 := ⟨_, rfl⟩
 have hm8 : m < 8 := by rw [hm]; exact Nat.mod_lt _ (by omega)
 have hx := kds_oth (x := p.w / 8 % 8) (Nat.mod_lt _ (by omega))
 unfold Pcx.chk
 rw [← hm]
 have ot : CkBack ⟨((kds.getD (p.w / 8 % 8) 0 : Nat) : Int), ((p.a % 2 : Nat) : Int), p.pl.take 60⟩ := by
  refine .oth ?_ ?_ ?_ ?_ ?_ ?_ <;> (show ((kds.getD (p.w / 8 % 8) 0 : Nat) : Int) ≠ _; omega)
 rcases (show m = 6 ∨ m = 7 ∨ m = 0 ∨ m = 1 ∨ m = 2 ∨ m = 3 ∨ m = 4 ∨ m = 5 by omega) with rfl | rfl | rfl | rfl | rfl | rfl | rfl | rfl
 ·exact ot
 ·exact ot
 ·exact .dat p.dat rfl (gpD p.dat hp.dat)
 ·exact .dat p.dat rfl (gpD p.dat hp.dat)
 ·exact .sck _ _ _ _ rfl (gpS _ _ _ _ hp.sck)
 ·exact .ini (p.ini p.m8) (by show iniK _ = 1 ∨ iniK _ = 2; unfold iniK; split <;> simp) (gpI _ (hp.ini p.m8))
 ·have := gpF _ _ hp.fwd
  rw [fwK, Int.toNat_natCast] at this
  exact .fwd _ _ rfl this
 ·exact .rst _ _ _ _ _ rfl (gpR _ _ _ _ _ hp.rst)
theorem Dfx.cs_back {d : Dfx} (hd : d.Ok) : ∀ i, i ≤ d.ps.length → (∀ c ∈ d.cs i, CkBack c) ∧ (d.cs i = [] ∨ (d.pk (d.cs i)).ok = true)
 | 0, _ => ⟨by simp [Dfx.cs], .inl rfl⟩
 | i + 1, hi => by
  have ih := Dfx.cs_back hd i (by omega)
  unfold Dfx.cs
  split
  ·rename_i hok
   refine ⟨fun c hc => ?_, .inr hok⟩
   rcases List.mem_append.1 hc with h | h
   ·exact ih.1 c h
   ·simp only [List.mem_cons, List.not_mem_nil, or_false] at h
    rw [h, Dfx.ch_at (by omega)]
    exact Pcx.chk_back (hd.p _ (List.getElem_mem _))
  ·exact ih
theorem serB16n {n : Nat} (h : n < 65536) : serB 16 (n : Int) = true := by unfold serB; simp; omega
theorem serB32n {n : Nat} (h : n < 4294967296) : serB 32 (n : Int) = true := by unfold serB; simp; omega
theorem Dfx.all_back {d : Dfx} (hd : d.Ok) : (∀ c ∈ d.all, CkBack c) ∧ (d.pk d.all).ok = true := by
 have h := Dfx.cs_back hd d.n (by unfold Dfx.n; omega)
 unfold Dfx.all
 split
 ·refine ⟨fun c hc => ?_, ?_⟩
  ·simp only [List.mem_cons, List.not_mem_nil, or_false] at hc
   subst hc
   exact .oth (by decide) (by decide) (by decide) (by decide) (by decide) (by decide)
  ·have h1 := serB16n hd.fr
   have h2 := serB16n hd.tt
   have h3 := serB32n hd.tg
   simp only [Pkx.ok, Pkx.hd, Dfx.pk, h1, h2, h3]
   rfl
 ·rename_i hne
  exact ⟨h.1, h.2.resolve_left hne⟩
theorem szs_four : ∀ cs : List Ckx, szs cs % 4 = 0
 | [] => rfl
 | c :: l => by
  have := szs_four l
  simp only [szs, List.map_cons, List.sum_cons, Ckx.sz] at this ⊢
  omega
theorem backLaw_ok {F : SF} {L nx : Nat} (d o : Dfx) (hd : d.Ok) (ho : o.Ok) : Con Tryz.prog 7 [.agg d.row, .agg o.row] F L nx nx (.bool true) [] [] := by
 have pD := fun F L nx => dPacket_ok (F := F) (L := L) (nx := nx) d hd
 have pO := fun F L nx => dPacket_ok (F := F) (L := L) (nx := nx) o ho
 obtain ⟨hb, hok⟩ := Dfx.all_back hd
 obtain ⟨_, hok2⟩ := Dfx.all_back ho
 obtain ⟨p, hp⟩ : ∃ p, p = d.pk d.all := ⟨_, rfl⟩
 obtain ⟨q, hq⟩ : ∃ q, q = o.pk o.all := ⟨_, rfl⟩
 have hbp : ∀ c ∈ p.cs, CkBack c := by rw [hp]; exact hb
 rw [← hp] at pD hok
 rw [← hq] at pO hok2
 clear hb hp hq
 have eP := fun F L nx => encode_ok (F := F) (L := L) (nx := nx) p hok
 have eQ := fun F L nx => encode_ok (F := F) (L := L) (nx := nx) q hok2
 obtain ⟨hle, h16, h12⟩ := enc_len hok
 have dP := fun F L nx => decode_ok (F := F) (L := L) (nx := nx) (encS p) p h12 h16 (dec_enc hok)
 have hinj : encS p = encS q ↔ p = q := ⟨enc_inj hok hok2, fun h => by rw [h]⟩
 have h4 := szs_four p.cs
 have cl : ∀ {p : Pkx}, p.ok = true → p.cs.length ≤ 40 := fun {p} h => by
  unfold Pkx.ok Pkx.hd at h
  simp only [Bool.and_eq_true, decide_eq_true_eq] at h
  exact h.1.1.2
 have clp := cl hok
 have clq := cl hok2
 have sPP := fun F L nx => rSameP_ok (F := F) (L := L) (nx := nx) p p (by omega) (by omega) true (by simp)
 obtain ⟨bq, hbq, hbi⟩ : ∃ b : Bool, (b = true ↔ p = q) ∧ (encS p == encS q) = b := ⟨encS p == encS q, by rw [beq_iff_eq]; exact hinj, rfl⟩
 have sPQ := fun F L nx => rSameP_ok (F := F) (L := L) (nx := nx) p q (by omega) (by omega) bq hbq
 obtain ⟨s, hs⟩ : ∃ s, s = encS p := ⟨_, rfl⟩
 obtain ⟨t, ht⟩ : ∃ t, t = encS q := ⟨_, rfl⟩
 rw [← hs] at eP dP hbi hle h16 h12
 rw [← ht] at eQ hbi
 clear hinj hs ht
 have tm : ((s.length : Nat) : Int).tmod 4 = 0 := by
  rw [Int.tmod_eq_emod_of_nonneg (by omega)]; omega
 have e0 : ((0 : Int) != 0) = false := rfl
 have drl : d.row.length = 4 := rfl
 have drn : nfl d.row = true := rfl
 have orl : o.row.length = 4 := rfl
 have orn : nfl o.row = true := rfl
 have prl : p.row.length = 4 := rfl
 have prn : nfl p.row = true := Pkx.nf p
 have qrl : q.row.length = 4 := rfl
 have qrn : nfl q.row = true := Pkx.nf q
 refine bdy Tryz.f7 ?_
 intro F3 hF1 hF2
 simp only [Tryz.f7, cx, drl, drn, orl, orn, go_sem, meths]
 refine CallVC.same works32_ok ?_
 simp only [go_sem]
 repeat refine sd2 ?_
 refine CallVC.same (pD _ _ _) ?_
 simp only [go_sem]
 repeat refine sd2 ?_
 refine CallVC.same (pO _ _ _) ?_
 simp only [prl, prn, qrl, qrn, go_sem]
 repeat refine sd2 ?_
 refine ⟨okDyn_num (fun x => x.i) (by kernel_rfl), ?_⟩
 repeat refine sd2 ?_
 refine CallVC.same (eP _ _ _) ?_
 simp only [beq_self_eq_true, go_sem]
 repeat refine sd2 ?_
 refine CallVC.same (eQ _ _ _) ?_
 simp only [go_sem]
 repeat refine sd2 ?_
 refine CallVC.same (dP _ _ _) ?_
 simp only [prl, prn, tm, e0, beq_self_eq_true, go_sem]
 repeat refine sd2 ?_
 refine CallVC.same (sPP _ _ _) ?_
 simp only [hbi, beq_self_eq_true, go_sem]
 repeat refine sd2 ?_
 refine CallVC.same (sPQ _ _ _) ?_
 simp only [Pkx.row, List.length_map, beq_self_eq_true, go_sem]
 repeat refine sd2 ?_
 refine loopK.intro _ _ (I := fun i : Nat => ⟨[none, none, none, none, none, none, none, none, none, none, none, none, none, none, none, none, none, none, none, none, none, none, none, none, none, none, none, none, none, none, none, none, none, none, none, none, none, none, none, none, none, none, none, none, none, none, none, none, none, none, none, none, none, none, none, none, none, none, none, none, none, none, none, none, none, none, none, none, none, none, none, none, none, none, none, none, none, none, none, none, some (.fs 3 (p.cs.map Ckx.row)), some (.int .i64 p.cs.length), some (.int .i64 i), none, none, none, none, none, none, none, none, none, none, none, none, none, none, none, none, none, none, none, none, none, none, none, none, none, none, none, none, none, none, none, none, none, none, none, none, none, none, none, none, none, none, none, none, none, none, none, none, none, none, none, none, none, none, none, none, none, none, none, none, none, none, none, none, none, none, none, none, none, none, none, none, none, none, none, none, none, none, none, none], [], 10000 * (i + 1)⟩) (pre := fun i => i ≤ p.cs.length) (μ := fun i => p.cs.length - i) 0 (by omega) ?_ ?_
 ·refine Sub.of (hfz hF2) (by simp only [go_sem, subT, and_self, Int.natCast_zero]) ?_ (by simp [subK, keys]) (by simp)
  simp [subH]
 intro i hi
 by_cases hlt : i < p.cs.length
 rotate_left
 ·have g1 : decide ((i : Int) < (p.cs.length : Int)) = false := dF (by omega)
  simp only [g1, Nat.add_assoc, go_sem]
  exact .bool (.inr rfl) rfl rfl (by simp [UpdAll])
 have g1 : decide ((i : Int) < (p.cs.length : Int)) = true := dT (by omega)
 have r0 := rowCk hlt
 have hcb := hbp (p.cs[i]) (List.getElem_mem _)
 obtain ⟨c, hc⟩ : ∃ c, c = p.cs[i] := ⟨_, rfl⟩
 rw [← hc] at r0 hcb
 clear hbp pD pO eP eQ dP sPP sPQ
 cases hcb with
 | dat d9 hk h =>
  have w0 : (c.kd == 0) = true := by simpa using (show c.kd = 0 by omega)
  obtain ⟨hG, hP⟩ := h
  simp only [Ckx.row, Dat.row] at hG hP
  simp only [g1, r0, w0, Ckx.row, beq_self_eq_true, List.length_map, Int.toNat_natCast, Bool.and_self, kS3, Nat.add_assoc, Nat.add_zero, go_sem]
  repeat refine sd2 ?_
  refine CallVC.same (hG _ _ _) ?_
  simp only [beq_self_eq_true, Bool.and_self, kS3, Nat.add_assoc, go_sem]
  refine CallVC.same (hP _ _ _) ?_
  simp only [e0, beq_self_eq_true, Bool.and_self, Bool.not_true, kS3, Nat.add_assoc, go_sem]
  repeat refine sd2 ?_
  refine ⟨i + 1, by omega, by omega, ?_⟩
  refine Sub.o hF2 ?_
  simp [subH]
 | ini d9 hk h =>
  have w0 : (c.kd == 0) = false := by simpa using (show c.kd ≠ 0 by omega)
  obtain ⟨hG, hP⟩ := h
  simp only [Ckx.row, Ini.row] at hG hP
  rcases hk with hk | hk
  ·have w1 : (c.kd == 1) = true := by simpa using (show c.kd = 1 by omega)
   simp only [g1, r0, w0, w1, Ckx.row, beq_self_eq_true, List.length_map, Int.toNat_natCast, Bool.and_self, kS3, Nat.add_assoc, Nat.add_zero, go_sem]
   repeat refine sd2 ?_
   refine CallVC.same (hG _ _ _) ?_
   simp only [beq_self_eq_true, Bool.and_self, kS3, Nat.add_assoc, go_sem]
   refine CallVC.same (hP _ _ _) ?_
   simp only [e0, beq_self_eq_true, Bool.and_self, Bool.not_true, kS3, Nat.add_assoc, go_sem]
   repeat refine sd2 ?_
   refine ⟨i + 1, by omega, by omega, ?_⟩
   refine Sub.o hF2 ?_
   simp [subH]
  ·have w1 : (c.kd == 1) = false := by simpa using (show c.kd ≠ 1 by omega)
   have w2 : (c.kd == 2) = true := by simpa using (show c.kd = 2 by omega)
   simp only [g1, r0, w0, w1, w2, Ckx.row, beq_self_eq_true, List.length_map, Int.toNat_natCast, Bool.and_self, kS3, Nat.add_assoc, Nat.add_zero, go_sem]
   repeat refine sd2 ?_
   refine CallVC.same (hG _ _ _) ?_
   simp only [beq_self_eq_true, Bool.and_self, kS3, Nat.add_assoc, go_sem]
   refine CallVC.same (hP _ _ _) ?_
   simp only [e0, beq_self_eq_true, Bool.and_self, Bool.not_true, kS3, Nat.add_assoc, go_sem]
   repeat refine sd2 ?_
   refine ⟨i + 1, by omega, by omega, ?_⟩
   refine Sub.o hF2 ?_
   simp [subH]
 | sck a9 w9 gs9 ds9 hk h =>
  have w0 : (c.kd == 0) = false := by simpa using (show c.kd ≠ 0 by omega)
  have w1 : (c.kd == 1) = false := by simpa using (show c.kd ≠ 1 by omega)
  have w2 : (c.kd == 2) = false := by simpa using (show c.kd ≠ 2 by omega)
  have w3 : (c.kd == 3) = true := by simpa using (show c.kd = 3 by omega)
  obtain ⟨hG, hP⟩ := h
  simp only [Ckx.row, sackP] at hG hP
  simp only [g1, r0, w0, w1, w2, w3, Ckx.row, beq_self_eq_true, List.length_map, Int.toNat_natCast, Bool.and_self, kS3, Nat.add_assoc, Nat.add_zero, go_sem]
  repeat refine sd2 ?_
  refine CallVC.same (hG _ _ _) ?_
  simp only [beq_self_eq_true, Bool.and_self, kS3, Nat.add_assoc, go_sem]
  refine CallVC.same (hP _ _ _) ?_
  simp only [e0, beq_self_eq_true, Bool.and_self, Bool.not_true, kS3, Nat.add_assoc, go_sem]
  repeat refine sd2 ?_
  refine ⟨i + 1, by omega, by omega, ?_⟩
  refine Sub.o hF2 ?_
  simp [subH]
 | fwd a9 sk9 hk h =>
  have w0 : (c.kd == 0) = false := by simpa using (show c.kd ≠ 0 by omega)
  have w1 : (c.kd == 1) = false := by simpa using (show c.kd ≠ 1 by omega)
  have w2 : (c.kd == 2) = false := by simpa using (show c.kd ≠ 2 by omega)
  have w3 : (c.kd == 3) = false := by simpa using (show c.kd ≠ 3 by omega)
  have w4 : (c.kd == 192) = true := by simpa using (show c.kd = 192 by omega)
  obtain ⟨hG, hP⟩ := h
  simp only [Ckx.row, fwdP] at hG hP
  simp only [g1, r0, w0, w1, w2, w3, w4, Ckx.row, beq_self_eq_true, List.length_map, Int.toNat_natCast, Bool.and_self, kS3, Nat.add_assoc, Nat.add_zero, go_sem]
  repeat refine sd2 ?_
  refine CallVC.same (hG _ _ _) ?_
  simp only [beq_self_eq_true, Bool.and_self, kS3, Nat.add_assoc, go_sem]
  refine CallVC.same (hP _ _ _) ?_
  simp only [e0, beq_self_eq_true, Bool.and_self, Bool.not_true, kS3, Nat.add_assoc, go_sem]
  repeat refine sd2 ?_
  refine ⟨i + 1, by omega, by omega, ?_⟩
  refine Sub.o hF2 ?_
  simp [subH]
 | rst k9 n9 la9 rr9 xs9 hk h =>
  have w0 : (c.kd == 0) = false := by simpa using (show c.kd ≠ 0 by omega)
  have w1 : (c.kd == 1) = false := by simpa using (show c.kd ≠ 1 by omega)
  have w2 : (c.kd == 2) = false := by simpa using (show c.kd ≠ 2 by omega)
  have w3 : (c.kd == 3) = false := by simpa using (show c.kd ≠ 3 by omega)
  have w4 : (c.kd == 192) = false := by simpa using (show c.kd ≠ 192 by omega)
  have w5 : (c.kd == 130) = true := by simpa using (show c.kd = 130 by omega)
  obtain ⟨hG, hP⟩ := h
  simp only [Ckx.row, rstP] at hG hP
  simp only [g1, r0, w0, w1, w2, w3, w4, w5, Ckx.row, beq_self_eq_true, List.length_map, Int.toNat_natCast, Bool.and_self, kS3, Nat.add_assoc, Nat.add_zero, go_sem]
  repeat refine sd2 ?_
  refine CallVC.same (hG _ _ _) ?_
  simp only [beq_self_eq_true, Bool.and_self, kS3, Nat.add_assoc, go_sem]
  refine CallVC.same (hP _ _ _) ?_
  simp only [e0, beq_self_eq_true, Bool.and_self, Bool.not_true, kS3, Nat.add_assoc, go_sem]
  repeat refine sd2 ?_
  refine ⟨i + 1, by omega, by omega, ?_⟩
  refine Sub.o hF2 ?_
  simp [subH]
 | oth h0 h1 h2 h3 h4 h5 =>
  have w0 : (c.kd == 0) = false := by simpa using (show c.kd ≠ 0 by omega)
  have w1 : (c.kd == 1) = false := by simpa using (show c.kd ≠ 1 by omega)
  have w2 : (c.kd == 2) = false := by simpa using (show c.kd ≠ 2 by omega)
  have w3 : (c.kd == 3) = false := by simpa using (show c.kd ≠ 3 by omega)
  have w4 : (c.kd == 192) = false := by simpa using (show c.kd ≠ 192 by omega)
  have w5 : (c.kd == 130) = false := by simpa using (show c.kd ≠ 130 by omega)
  simp only [g1, r0, w0, w1, w2, w3, w4, w5, e0, Ckx.row, beq_self_eq_true, List.length_map, Int.toNat_natCast, Bool.and_self, Bool.not_true, kS3, Nat.add_assoc, Nat.add_zero, go_sem]
  repeat refine sd2 ?_
  refine ⟨i + 1, by omega, by omega, ?_⟩
  refine Sub.o hF2 ?_
  simp [subH]
end Go.Proofs.YtaacfnngodhecaaGreatDoor
end
