/- Lemmas for the walk: WK50. -/
import Derived.Test.YtaacfnngodhecaaGreatDoorP19
set_option linter.all false
section
namespace Go.Proofs.YtaacfnngodhecaaGreatDoor
open Go.Tx
set_option maxRecDepth 100000
set_option maxHeartbeats 16000000
theorem takeM {α : Type} (l : List α) (m : Nat) (k : Int) (hk : k = m) : List.take ((min (l.length : Int) k).toNat - 0) l = l.take m := by
 rw [List.take_eq_take_iff]; omega
theorem putsLaw_ok {F : SF} {L nx : Nat} (d : Dat) (c w : Int) (gs : List (Int × Int)) (ds : List Int) (i : Ini) (cum : Int) (sk : List (Int × Int)) (k n la r : Int) (xs : List Int) (p : Pcx) (hp : p.Ok)
  (hd : d.pl.length ≤ maxLen) (hi : i.ck.length ≤ maxLen) (hgs : gs.length ≤ maxLen) (hds : ds.length ≤ maxLen) (hsk : sk.length ≤ maxLen) (hxs : xs.length ≤ maxLen) :
  Con Tryz.prog 4 [.agg d.row, sackP c w gs ds, .agg i.row, fwdP cum sk, rstP k n la r (.fs 1 (xs.map eI)), .agg p.row] F L nx nx (.bool true) [] [] := by
 unfold maxLen at hd hi hgs hds hsk hxs
 obtain ⟨d1, hd1⟩ : ∃ d1 : Dat, d1 = { d with pl := d.pl.take 1200 } := ⟨_, rfl⟩
 obtain ⟨i1, hi1⟩ : ∃ i1 : Ini, i1 = { i with ck := i.ck.take 1200 } := ⟨_, rfl⟩
 obtain ⟨gs1, hgs1⟩ : ∃ l, l = gs.take 32 := ⟨_, rfl⟩
 obtain ⟨ds1, hds1⟩ : ∃ l, l = ds.take 32 := ⟨_, rfl⟩
 obtain ⟨sk1, hsk1⟩ : ∃ l, l = sk.take 32 := ⟨_, rfl⟩
 obtain ⟨xs1, hxs1⟩ : ∃ l, l = xs.take 32 := ⟨_, rfl⟩
 have t1 := takeM d.pl 1200 1200 rfl
 have t2 := takeM i.ck 1200 1200 rfl
 have t3 : List.take ((min (gs.length : Int) 32).toNat - 0) (gs.map kE) = gs1.map kE := by rw [hgs1, ← List.map_take, takeM gs 32 32 rfl]
 have t4 : List.take ((min (ds.length : Int) 32).toNat - 0) (ds.map eI) = ds1.map eI := by rw [hds1, ← List.map_take, takeM ds 32 32 rfl]
 have t5 : List.take ((min (sk.length : Int) 32).toNat - 0) (sk.map kE) = sk1.map kE := by rw [hsk1, ← List.map_take, takeM sk 32 32 rfl]
 have t6 : List.take ((min (xs.length : Int) 32).toNat - 0) (xs.map eI) = xs1.map eI := by rw [hxs1, ← List.map_take, takeM xs 32 32 rfl]
 have r1 : [PV.int .i64 d.tsn, .int .i64 d.st, .int .i64 d.sq, .int .i64 d.pr, .bool d.fi, .bool d.la, .bool d.lo, .str (d.pl.take 1200)] = d1.row := by rw [hd1]; rfl
 have r2 : [PV.int .i64 i.tag, .int .i64 i.win, .int .i64 i.out, .int .i64 i.inn, .int .i64 i.tsn, .str (i.ck.take 1200)] = i1.row := by rw [hi1]; rfl
 have lg : gs1.length ≤ 32 := by rw [hgs1, List.length_take]; omega
 have ld : ds1.length ≤ 32 := by rw [hds1, List.length_take]; omega
 have lk : sk1.length ≤ 32 := by rw [hsk1, List.length_take]; omega
 have lx : xs1.length ≤ 32 := by rw [hxs1, List.length_take]; omega
 clear hd1 hi1 hgs1 hds1 hsk1 hxs1
 have cD := fun F L nx => pData_ok (F := F) (L := L) (nx := nx) p hp
 have cS := fun F L nx => pSack_ok (F := F) (L := L) (nx := nx) p hp
 have cI := fun F L nx ck => pInit_ok (F := F) (L := L) (nx := nx) p hp ck
 have cF := fun F L nx => pForward_ok (F := F) (L := L) (nx := nx) p hp
 have cR := fun F L nx => pReset_ok (F := F) (L := L) (nx := nx) p hp
 obtain ⟨gsP, hgsP⟩ : ∃ l, l = (p.gp p.n).map kN := ⟨_, rfl⟩
 obtain ⟨dsP, hdsP⟩ : ∃ l, l = (p.db (p.c % 6)).map fun x : Nat => (x : Int) := ⟨_, rfl⟩
 obtain ⟨skP, hskP⟩ : ∃ l, l = (p.sk p.n).map kN := ⟨_, rfl⟩
 obtain ⟨rP, hrP⟩ : ∃ r, r = p.rst := ⟨_, rfl⟩
 have vS := hp.sck
 have vF := hp.fwd
 rw [← hgsP, ← hdsP] at cS vS
 rw [← hskP] at cF vF
 rw [← hrP] at cR
 have lS := sackB vS
 have lF := fwdB vF
 obtain ⟨_, _, _, _, lR⟩ := rstB (show resetV rP.kind rP.num rP.last rP.res rP.xs = true by rw [hrP]; exact hp.rst)
 have hx : rP.xs.length ≤ 30 := by rcases lR with ⟨_, _, h4⟩ | ⟨_, _, _, h4⟩ <;> simp_all
 have lS1 : gsP.length ≤ 1000000 := by omega
 have lS2 : dsP.length ≤ 1000000 := by omega
 have lF1 : skP.length ≤ 1000000 := by omega
 clear hgsP hdsP hskP hrP vS vF lS lF lR
 have hpl : p.row.length = 7 := rfl
 have hpn : nfl p.row = true := rfl
 refine bdy Tryz.f4 ?_
 intro F3 hF1 hF2
 simp only [Tryz.f4, cx, hpl, hpn, sackP, fwdP, rstP, Dat.row, Ini.row, go_sem, meths]
 have g2_0 : decide (((0 : Nat) : Int) < 2) = true := rfl
 have g2_1 : decide (((0 + 1 : Nat) : Int) < 2) = true := rfl
 have g3_0 : decide (((0 : Nat) : Int) < 3) = true := rfl
 have g3_1 : decide (((0 + 1 : Nat) : Int) < 3) = true := rfl
 have g3_2 : decide (((0 + 1 + 1 : Nat) : Int) < 3) = true := rfl
 have g2_2 : decide (((0 + 1 + 1 : Nat) : Int) < 2) = false := rfl
 have g3_3 : decide (((0 + 1 + 1 + 1 : Nat) : Int) < 3) = false := rfl
 have n0 : ((0 : Nat) : Int) + 1 = ((1 : Nat) : Int) := rfl
 have n1 : ((1 : Nat) : Int) + 1 = ((2 : Nat) : Int) := rfl
 have n2 : ((2 : Nat) : Int) + 1 = ((3 : Nat) : Int) := rfl
 refine CallVC.same works32_ok ?_
 simp only [r1, r2, List.length_map, t1, t2, t3, t4, t5, t6, go_sem]
 refine ⟨by kernel_rfl, ?_⟩
 refine ⟨⟨by omega, by omega, by omega⟩, ?_⟩
 refine ⟨⟨by omega, by omega, by omega⟩, ?_⟩
 refine ⟨okDyn_num (fun x => x.i) (by kernel_rfl), ?_⟩
 refine ⟨okS (by kernel_rfl), ?_⟩
 refine ⟨⟨by omega, by omega, by omega⟩, ?_⟩
 refine ⟨⟨by omega, by omega, by omega⟩, ?_⟩
 refine ⟨okDyn_num (fun x => x.i) (by kernel_rfl), ?_⟩
 refine ⟨okS (by kernel_rfl), ?_⟩
 refine ⟨⟨by omega, by omega, by omega⟩, ?_⟩
 refine ⟨⟨by omega, by omega, by omega⟩, ?_⟩
 refine ⟨okDyn_num (fun x => x.i) (by kernel_rfl), ?_⟩
 refine ⟨okS (by kernel_rfl), ?_⟩
 refine CallVC.same (cD _ _ _) ?_
 simp only [Dat.row, go_sem]
 refine ⟨okDyn_num (fun x => x.i) (by kernel_rfl), ?_⟩
 refine loopK.intro _ _ (I := fun i : Nat => ⟨[none, none, none, none, none, none, some (.ptr ⟨L + 1, 0⟩ 0 0), some (.ptr ⟨L + 1, 32⟩ 0 0), some (.ptr ⟨L + 1, 64⟩ 0 0), some (.ptr ⟨L + 1, 96⟩ 0 0), some (.ptr ⟨L + 1, 128⟩ 0 0), some (.ptr ⟨L + 1, 160⟩ 0 0), none, none, none, none, none, none, none, none, none, none, none, none, none, none, none, none, none, none, none, none, none, none, none, none, none, none, none, none, none, none, none, none, none, none, none, none, none, none, none, none, none, none, none, none, none, none, none, none, none, none, none, none, none, none, none, none, none, none, none, none, none, none, none, none, none, none, none, none, none, none, none, none, none, none, none, none, none, none, none, none, none, none, none, none, some (.agg (d1.row ++ p.dat.row)), some (.int .i64 i), none, none, none, none, none, none, none, none, none, none, none, none, none, none, none, none, none, none, none, none, none, none, none, none, none, none, none, none, none, none, none, none, none, none, none, none, none, none, none, none, none, none, none, none, none, none, none, none, none, none, none, none, none, none, none, none, none, none, none, none, none, none, none, none, none, none, none, none, none, none, none, none, none, none, none, none, none, none, none, none, none, none, none, none, none, none, none, none, none, none, none, none, none, none, none, none, none, none, none, none, none, none, none, none, none, none, none, none, none, none, none, none, none, none, none, none, none], [(⟨L + 1, 0⟩, .rows 51 8 true true [d1.row]), (⟨L + 1, 32⟩, .rows 55 4 true true [[.int .i64 c, .int .i64 w, .fs 2 (gs1.map kE), .fs 1 (ds1.map eI)]]), (⟨L + 1, 64⟩, .rows 57 6 true true [i1.row]), (⟨L + 1, 96⟩, .rows 59 2 true true [[.int .i64 cum, .fs 2 (sk1.map kE)]]), (⟨L + 1, 128⟩, .rows 61 5 true true [[.int .i64 k, .int .i64 n, .int .i64 la, .int .i64 r, .fs 1 (xs1.map eI)]]), (⟨L + 1, 160⟩, .rows 65 7 true true [p.row])], 10000 * (i + 1)⟩) (pre := fun i => i ≤ 2) (μ := fun i => 2 - i) 0 (by omega) ?_ ?_
 ·refine Sub.of (hfz hF2) (by simp only [go_sem, subT, and_self, Dat.row, Int.natCast_zero, List.cons_append, List.nil_append]) ?_ (by simp [subK, keys]) (by simp)
  simp [subH, Tx.look, Dat.row, Ini.row]
 intro i hi
 rcases i with _ | _ | i
 ·rcases (ppD d1).go with ⟨c9, h1, h2, h3⟩ | ⟨h1, h2⟩
  ·simp only [g2_0, Dat.row, List.cons_append, List.nil_append, go_sem]
   refine ⟨⟨by omega, by omega⟩, ?_⟩
   refine CallVC.same (h1 _ _ _) ?_
   simp only [Ckx.row, List.cons_append, List.nil_append, go_sem]
   refine CallVC.same (h2 _ _ _) ?_
   simp only [List.cons_append, List.nil_append, go_sem]
   refine CallVC.same (h3 _ _ _) ?_
   simp only [Ckx.row, List.cons_append, List.nil_append, go_sem]
   refine CallVC.same (putsYes_ok c9) ?_
   simp only [List.nil_append, go_sem]
   refine ⟨by unfold Sx.inI64; omega, 1, by omega, by omega, ?_⟩
   refine Sub.of (hfz hF2) (by simp only [go_sem, subT, and_self, n0]) ?_ (by simp [subK, keys]) (by simp only []; omega)
   simp [subH, Tx.look, Ini.row]
  ·simp only [g2_0, Dat.row, List.cons_append, List.nil_append, go_sem]
   refine ⟨⟨by omega, by omega⟩, ?_⟩
   refine CallVC.same (h1 _ _ _) ?_
   simp only [Ckx.row, List.cons_append, List.nil_append, go_sem]
   refine CallVC.same (h2 _ _ _) ?_
   simp only [List.cons_append, List.nil_append, go_sem]
   refine CallVC.same (putsNo_ok ckZ) ?_
   simp only [List.nil_append, go_sem]
   refine ⟨by unfold Sx.inI64; omega, 1, by omega, by omega, ?_⟩
   refine Sub.of (hfz hF2) (by simp only [go_sem, subT, and_self, n0]) ?_ (by simp [subK, keys]) (by simp only []; omega)
   simp [subH, Tx.look, Ini.row]
 ·rcases (ppD p.dat).go with ⟨c9, h1, h2, h3⟩ | ⟨h1, h2⟩
  ·simp only [g2_1, Dat.row, List.cons_append, List.nil_append, go_sem]
   refine ⟨⟨by omega, by omega⟩, ?_⟩
   refine CallVC.same (h1 _ _ _) ?_
   simp only [Ckx.row, List.cons_append, List.nil_append, go_sem]
   refine CallVC.same (h2 _ _ _) ?_
   simp only [List.cons_append, List.nil_append, go_sem]
   refine CallVC.same (h3 _ _ _) ?_
   simp only [Ckx.row, List.cons_append, List.nil_append, go_sem]
   refine CallVC.same (putsYes_ok c9) ?_
   simp only [List.nil_append, go_sem]
   refine ⟨by unfold Sx.inI64; omega, 2, by omega, by omega, ?_⟩
   refine Sub.of (hfz hF2) (by simp only [go_sem, subT, and_self, n1]) ?_ (by simp [subK, keys]) (by simp only []; omega)
   simp [subH, Tx.look, Ini.row]
  ·simp only [g2_1, Dat.row, List.cons_append, List.nil_append, go_sem]
   refine ⟨⟨by omega, by omega⟩, ?_⟩
   refine CallVC.same (h1 _ _ _) ?_
   simp only [Ckx.row, List.cons_append, List.nil_append, go_sem]
   refine CallVC.same (h2 _ _ _) ?_
   simp only [List.cons_append, List.nil_append, go_sem]
   refine CallVC.same (putsNo_ok ckZ) ?_
   simp only [List.nil_append, go_sem]
   refine ⟨by unfold Sx.inI64; omega, 2, by omega, by omega, ?_⟩
   refine Sub.of (hfz hF2) (by simp only [go_sem, subT, and_self, n1]) ?_ (by simp [subK, keys]) (by simp only []; omega)
   simp [subH, Tx.look, Ini.row]
 obtain rfl : i = 0 := by omega
 simp only [g2_2, Dat.row, go_sem]
 repeat refine sd2 ?_
 refine CallVC.same (cS _ _ _) ?_
 simp only [sackP, go_sem]
 refine ⟨okDyn_num (fun x => x.i) (by kernel_rfl), ?_⟩
 refine loopK.intro _ _ (I := fun i : Nat => ⟨[none, none, none, none, none, none, some (.ptr ⟨L + 1, 0⟩ 0 0), some (.ptr ⟨L + 1, 32⟩ 0 0), some (.ptr ⟨L + 1, 64⟩ 0 0), some (.ptr ⟨L + 1, 96⟩ 0 0), some (.ptr ⟨L + 1, 128⟩ 0 0), some (.ptr ⟨L + 1, 160⟩ 0 0), none, none, none, none, none, none, none, none, none, none, none, none, none, none, none, none, none, none, none, none, none, none, none, none, none, none, none, none, none, none, none, none, none, none, none, none, none, none, none, none, none, none, none, none, none, none, none, none, none, none, none, none, none, none, none, none, none, none, none, none, none, none, none, none, none, none, none, none, none, none, none, none, none, none, none, none, none, none, none, none, none, none, none, none, none, none, none, none, none, none, none, none, none, none, none, none, none, none, none, none, none, none, none, none, none, none, none, none, some (.agg ([.int .i64 c, .int .i64 w, .fs 2 ((gs1).map kE), .fs 1 ((ds1).map eI)] ++ [.int .i64 p.a, .int .i64 p.b, .fs 2 ((gsP).map kE), .fs 1 ((dsP).map eI)])), some (.int .i64 i), none, none, none, none, none, none, none, none, none, none, none, none, none, none, none, none, none, none, none, none, none, none, none, none, none, none, none, none, none, none, none, none, none, none, none, none, none, none, none, none, none, none, none, none, none, none, none, none, none, none, none, none, none, none, none, none, none, none, none, none, none, none, none, none, none, none, none, none, none, none, none, none, none, none, none, none, none, none, none, none, none, none, none, none, none, none, none, none, none, none, none, none, none], [(⟨L + 1, 0⟩, .rows 51 8 true true [d1.row]), (⟨L + 1, 32⟩, .rows 55 4 true true [[.int .i64 c, .int .i64 w, .fs 2 (gs1.map kE), .fs 1 (ds1.map eI)]]), (⟨L + 1, 64⟩, .rows 57 6 true true [i1.row]), (⟨L + 1, 96⟩, .rows 59 2 true true [[.int .i64 cum, .fs 2 (sk1.map kE)]]), (⟨L + 1, 128⟩, .rows 61 5 true true [[.int .i64 k, .int .i64 n, .int .i64 la, .int .i64 r, .fs 1 (xs1.map eI)]]), (⟨L + 1, 160⟩, .rows 65 7 true true [p.row])], 10000 * (i + 11)⟩) (pre := fun i => i ≤ 2) (μ := fun i => 2 - i) 0 (by omega) ?_ ?_
 ·refine Sub.of (hfz hF2) (by simp only [go_sem, subT, and_self, Int.natCast_zero, List.cons_append, List.nil_append]) ?_ (by simp [subK, keys]) (by simp)
  simp [subH, Tx.look, Dat.row, Ini.row]
 intro i hi
 rcases i with _ | _ | i
 ·rcases (ppS c w gs1 ds1 (by omega) (by omega)).go with ⟨c9, h1, h2, h3⟩ | ⟨h1, h2⟩
  ·simp only [g2_0, List.cons_append, List.nil_append, go_sem]
   refine ⟨⟨by omega, by omega⟩, ?_⟩
   refine CallVC.same (h1 _ _ _) ?_
   simp only [Ckx.row, List.cons_append, List.nil_append, go_sem]
   refine CallVC.same (h2 _ _ _) ?_
   simp only [List.cons_append, List.nil_append, go_sem]
   refine CallVC.same (h3 _ _ _) ?_
   simp only [Ckx.row, List.cons_append, List.nil_append, go_sem]
   refine CallVC.same (putsYes_ok c9) ?_
   simp only [List.nil_append, go_sem]
   refine ⟨by unfold Sx.inI64; omega, 1, by omega, by omega, ?_⟩
   refine Sub.of (hfz hF2) (by simp only [go_sem, subT, and_self, n0]) ?_ (by simp [subK, keys]) (by simp only []; omega)
   simp [subH, Tx.look, Dat.row, Ini.row]
  ·simp only [g2_0, List.cons_append, List.nil_append, go_sem]
   refine ⟨⟨by omega, by omega⟩, ?_⟩
   refine CallVC.same (h1 _ _ _) ?_
   simp only [Ckx.row, List.cons_append, List.nil_append, go_sem]
   refine CallVC.same (h2 _ _ _) ?_
   simp only [List.cons_append, List.nil_append, go_sem]
   refine CallVC.same (putsNo_ok ckZ) ?_
   simp only [List.nil_append, go_sem]
   refine ⟨by unfold Sx.inI64; omega, 1, by omega, by omega, ?_⟩
   refine Sub.of (hfz hF2) (by simp only [go_sem, subT, and_self, n0]) ?_ (by simp [subK, keys]) (by simp only []; omega)
   simp [subH, Tx.look, Dat.row, Ini.row]
 ·rcases (ppS p.a p.b gsP dsP (by omega) (by omega)).go with ⟨c9, h1, h2, h3⟩ | ⟨h1, h2⟩
  ·simp only [g2_1, List.cons_append, List.nil_append, go_sem]
   refine ⟨⟨by omega, by omega⟩, ?_⟩
   refine CallVC.same (h1 _ _ _) ?_
   simp only [Ckx.row, List.cons_append, List.nil_append, go_sem]
   refine CallVC.same (h2 _ _ _) ?_
   simp only [List.cons_append, List.nil_append, go_sem]
   refine CallVC.same (h3 _ _ _) ?_
   simp only [Ckx.row, List.cons_append, List.nil_append, go_sem]
   refine CallVC.same (putsYes_ok c9) ?_
   simp only [List.nil_append, go_sem]
   refine ⟨by unfold Sx.inI64; omega, 2, by omega, by omega, ?_⟩
   refine Sub.of (hfz hF2) (by simp only [go_sem, subT, and_self, n1]) ?_ (by simp [subK, keys]) (by simp only []; omega)
   simp [subH, Tx.look, Dat.row, Ini.row]
  ·simp only [g2_1, List.cons_append, List.nil_append, go_sem]
   refine ⟨⟨by omega, by omega⟩, ?_⟩
   refine CallVC.same (h1 _ _ _) ?_
   simp only [Ckx.row, List.cons_append, List.nil_append, go_sem]
   refine CallVC.same (h2 _ _ _) ?_
   simp only [List.cons_append, List.nil_append, go_sem]
   refine CallVC.same (putsNo_ok ckZ) ?_
   simp only [List.nil_append, go_sem]
   refine ⟨by unfold Sx.inI64; omega, 2, by omega, by omega, ?_⟩
   refine Sub.of (hfz hF2) (by simp only [go_sem, subT, and_self, n1]) ?_ (by simp [subK, keys]) (by simp only []; omega)
   simp [subH, Tx.look, Dat.row, Ini.row]
 obtain rfl : i = 0 := by omega
 simp only [g2_2, go_sem]
 repeat refine sd2 ?_
 refine CallVC.same (cI _ _ _ false) ?_
 simp only [Ini.row, go_sem]
 repeat refine sd2 ?_
 refine CallVC.same (cI _ _ _ true) ?_
 simp only [Ini.row, go_sem]
 refine ⟨okDyn_num (fun x => x.i) (by kernel_rfl), ?_⟩
 refine loopK.intro _ _ (I := fun i : Nat => ⟨[none, none, none, none, none, none, some (.ptr ⟨L + 1, 0⟩ 0 0), some (.ptr ⟨L + 1, 32⟩ 0 0), some (.ptr ⟨L + 1, 64⟩ 0 0), some (.ptr ⟨L + 1, 96⟩ 0 0), some (.ptr ⟨L + 1, 128⟩ 0 0), some (.ptr ⟨L + 1, 160⟩ 0 0), none, none, none, none, none, none, none, none, none, none, none, none, none, none, none, none, none, none, none, none, none, none, none, none, none, none, none, none, none, none, none, none, none, none, none, none, none, none, none, none, none, none, none, none, none, none, none, none, none, none, none, none, none, none, none, none, none, none, none, none, none, none, none, none, none, none, none, none, none, none, none, none, none, none, none, none, none, none, none, none, none, none, none, none, none, none, none, none, none, none, none, none, none, none, none, none, none, none, none, none, none, none, none, none, none, none, none, none, none, none, none, none, none, none, none, none, none, none, none, none, none, none, none, none, none, none, none, none, none, none, none, none, none, none, some (.agg (i1.row ++ (p.ini false).row ++ (p.ini true).row)), some (.int .i64 i), none, none, none, none, none, none, none, none, none, none, none, none, none, none, none, none, none, none, none, none, none, none, none, none, none, none, none, none, none, none, none, none, none, none, none, none, none, none, none, none, none, none, none, none, none, none, none, none, none, none, none, none, none, none, none, none, none, none, none, none, none, none, none, none, none, none, none], [(⟨L + 1, 0⟩, .rows 51 8 true true [d1.row]), (⟨L + 1, 32⟩, .rows 55 4 true true [[.int .i64 c, .int .i64 w, .fs 2 (gs1.map kE), .fs 1 (ds1.map eI)]]), (⟨L + 1, 64⟩, .rows 57 6 true true [i1.row]), (⟨L + 1, 96⟩, .rows 59 2 true true [[.int .i64 cum, .fs 2 (sk1.map kE)]]), (⟨L + 1, 128⟩, .rows 61 5 true true [[.int .i64 k, .int .i64 n, .int .i64 la, .int .i64 r, .fs 1 (xs1.map eI)]]), (⟨L + 1, 160⟩, .rows 65 7 true true [p.row])], 10000 * (i + 21)⟩) (pre := fun i => i ≤ 3) (μ := fun i => 3 - i) 0 (by omega) ?_ ?_
 ·refine Sub.of (hfz hF2) (by simp only [go_sem, subT, and_self, Ini.row, Int.natCast_zero, List.cons_append, List.nil_append]) ?_ (by simp [subK, keys]) (by simp)
  simp [subH, Tx.look, Dat.row, Ini.row]
 intro i hi
 rcases i with _ | _ | _ | i
 ·rcases (ppI i1).go with ⟨c9, h1, h2, h3⟩ | ⟨h1, h2⟩
  ·simp only [g3_0, Ini.row, List.cons_append, List.nil_append, go_sem]
   refine ⟨⟨by omega, by omega⟩, ?_⟩
   refine CallVC.same (h1 _ _ _) ?_
   simp only [Ckx.row, List.cons_append, List.nil_append, go_sem]
   refine CallVC.same (h2 _ _ _) ?_
   simp only [List.cons_append, List.nil_append, go_sem]
   refine CallVC.same (h3 _ _ _) ?_
   simp only [Ckx.row, List.cons_append, List.nil_append, go_sem]
   refine CallVC.same (putsYes_ok c9) ?_
   simp only [List.nil_append, go_sem]
   refine ⟨by unfold Sx.inI64; omega, 1, by omega, by omega, ?_⟩
   refine Sub.of (hfz hF2) (by simp only [go_sem, subT, and_self, n0]) ?_ (by simp [subK, keys]) (by simp only []; omega)
   simp [subH, Tx.look, Dat.row]
  ·simp only [g3_0, Ini.row, List.cons_append, List.nil_append, go_sem]
   refine ⟨⟨by omega, by omega⟩, ?_⟩
   refine CallVC.same (h1 _ _ _) ?_
   simp only [Ckx.row, List.cons_append, List.nil_append, go_sem]
   refine CallVC.same (h2 _ _ _) ?_
   simp only [List.cons_append, List.nil_append, go_sem]
   refine CallVC.same (putsNo_ok ckZ) ?_
   simp only [List.nil_append, go_sem]
   refine ⟨by unfold Sx.inI64; omega, 1, by omega, by omega, ?_⟩
   refine Sub.of (hfz hF2) (by simp only [go_sem, subT, and_self, n0]) ?_ (by simp [subK, keys]) (by simp only []; omega)
   simp [subH, Tx.look, Dat.row]
 ·rcases (ppI (p.ini false)).go with ⟨c9, h1, h2, h3⟩ | ⟨h1, h2⟩
  ·simp only [g3_1, Ini.row, List.cons_append, List.nil_append, go_sem]
   refine ⟨⟨by omega, by omega⟩, ?_⟩
   refine CallVC.same (h1 _ _ _) ?_
   simp only [Ckx.row, List.cons_append, List.nil_append, go_sem]
   refine CallVC.same (h2 _ _ _) ?_
   simp only [List.cons_append, List.nil_append, go_sem]
   refine CallVC.same (h3 _ _ _) ?_
   simp only [Ckx.row, List.cons_append, List.nil_append, go_sem]
   refine CallVC.same (putsYes_ok c9) ?_
   simp only [List.nil_append, go_sem]
   refine ⟨by unfold Sx.inI64; omega, 2, by omega, by omega, ?_⟩
   refine Sub.of (hfz hF2) (by simp only [go_sem, subT, and_self, n1]) ?_ (by simp [subK, keys]) (by simp only []; omega)
   simp [subH, Tx.look, Dat.row]
  ·simp only [g3_1, Ini.row, List.cons_append, List.nil_append, go_sem]
   refine ⟨⟨by omega, by omega⟩, ?_⟩
   refine CallVC.same (h1 _ _ _) ?_
   simp only [Ckx.row, List.cons_append, List.nil_append, go_sem]
   refine CallVC.same (h2 _ _ _) ?_
   simp only [List.cons_append, List.nil_append, go_sem]
   refine CallVC.same (putsNo_ok ckZ) ?_
   simp only [List.nil_append, go_sem]
   refine ⟨by unfold Sx.inI64; omega, 2, by omega, by omega, ?_⟩
   refine Sub.of (hfz hF2) (by simp only [go_sem, subT, and_self, n1]) ?_ (by simp [subK, keys]) (by simp only []; omega)
   simp [subH, Tx.look, Dat.row]
 ·rcases (ppI (p.ini true)).go with ⟨c9, h1, h2, h3⟩ | ⟨h1, h2⟩
  ·simp only [g3_2, Ini.row, List.cons_append, List.nil_append, go_sem]
   refine ⟨⟨by omega, by omega⟩, ?_⟩
   refine CallVC.same (h1 _ _ _) ?_
   simp only [Ckx.row, List.cons_append, List.nil_append, go_sem]
   refine CallVC.same (h2 _ _ _) ?_
   simp only [List.cons_append, List.nil_append, go_sem]
   refine CallVC.same (h3 _ _ _) ?_
   simp only [Ckx.row, List.cons_append, List.nil_append, go_sem]
   refine CallVC.same (putsYes_ok c9) ?_
   simp only [List.nil_append, go_sem]
   refine ⟨by unfold Sx.inI64; omega, 3, by omega, by omega, ?_⟩
   refine Sub.of (hfz hF2) (by simp only [go_sem, subT, and_self, n2]) ?_ (by simp [subK, keys]) (by simp only []; omega)
   simp [subH, Tx.look, Dat.row]
  ·simp only [g3_2, Ini.row, List.cons_append, List.nil_append, go_sem]
   refine ⟨⟨by omega, by omega⟩, ?_⟩
   refine CallVC.same (h1 _ _ _) ?_
   simp only [Ckx.row, List.cons_append, List.nil_append, go_sem]
   refine CallVC.same (h2 _ _ _) ?_
   simp only [List.cons_append, List.nil_append, go_sem]
   refine CallVC.same (putsNo_ok ckZ) ?_
   simp only [List.nil_append, go_sem]
   refine ⟨by unfold Sx.inI64; omega, 3, by omega, by omega, ?_⟩
   refine Sub.of (hfz hF2) (by simp only [go_sem, subT, and_self, n2]) ?_ (by simp [subK, keys]) (by simp only []; omega)
   simp [subH, Tx.look, Dat.row]
 obtain rfl : i = 0 := by omega
 simp only [g3_3, Ini.row, go_sem]
 repeat refine sd2 ?_
 refine CallVC.same (cF _ _ _) ?_
 simp only [fwdP, go_sem]
 refine ⟨okDyn_num (fun x => x.i) (by kernel_rfl), ?_⟩
 refine loopK.intro _ _ (I := fun i : Nat => ⟨[none, none, none, none, none, none, some (.ptr ⟨L + 1, 0⟩ 0 0), some (.ptr ⟨L + 1, 32⟩ 0 0), some (.ptr ⟨L + 1, 64⟩ 0 0), some (.ptr ⟨L + 1, 96⟩ 0 0), some (.ptr ⟨L + 1, 128⟩ 0 0), some (.ptr ⟨L + 1, 160⟩ 0 0), none, none, none, none, none, none, none, none, none, none, none, none, none, none, none, none, none, none, none, none, none, none, none, none, none, none, none, none, none, none, none, none, none, none, none, none, none, none, none, none, none, none, none, none, none, none, none, none, none, none, none, none, none, none, none, none, none, none, none, none, none, none, none, none, none, none, none, none, none, none, none, none, none, none, none, none, none, none, none, none, none, none, none, none, none, none, none, none, none, none, none, none, none, none, none, none, none, none, none, none, none, none, none, none, none, none, none, none, none, none, none, none, none, none, none, none, none, none, none, none, none, none, none, none, none, none, none, none, none, none, none, none, none, none, none, none, none, none, none, none, none, none, none, none, none, none, none, none, none, none, none, none, none, none, none, none, none, none, some (.agg ([.int .i64 cum, .fs 2 ((sk1).map kE)] ++ [.int .i64 p.a, .fs 2 ((skP).map kE)])), some (.int .i64 i), none, none, none, none, none, none, none, none, none, none, none, none, none, none, none, none, none, none, none, none, none, none, none, none, none, none, none, none, none, none, none, none, none, none, none, none, none, none, none, none, none, none, none], [(⟨L + 1, 0⟩, .rows 51 8 true true [d1.row]), (⟨L + 1, 32⟩, .rows 55 4 true true [[.int .i64 c, .int .i64 w, .fs 2 (gs1.map kE), .fs 1 (ds1.map eI)]]), (⟨L + 1, 64⟩, .rows 57 6 true true [i1.row]), (⟨L + 1, 96⟩, .rows 59 2 true true [[.int .i64 cum, .fs 2 (sk1.map kE)]]), (⟨L + 1, 128⟩, .rows 61 5 true true [[.int .i64 k, .int .i64 n, .int .i64 la, .int .i64 r, .fs 1 (xs1.map eI)]]), (⟨L + 1, 160⟩, .rows 65 7 true true [p.row])], 10000 * (i + 31)⟩) (pre := fun i => i ≤ 2) (μ := fun i => 2 - i) 0 (by omega) ?_ ?_
 ·refine Sub.of (hfz hF2) (by simp only [go_sem, subT, and_self, Int.natCast_zero, List.cons_append, List.nil_append]) ?_ (by simp [subK, keys]) (by simp)
  simp [subH, Tx.look, Dat.row, Ini.row]
 intro i hi
 rcases i with _ | _ | i
 ·rcases (ppF cum sk1 (by omega)).go with ⟨c9, h1, h2, h3⟩ | ⟨h1, h2⟩
  ·simp only [g2_0, List.cons_append, List.nil_append, go_sem]
   refine ⟨⟨by omega, by omega⟩, ?_⟩
   refine CallVC.same (h1 _ _ _) ?_
   simp only [Ckx.row, List.cons_append, List.nil_append, go_sem]
   refine CallVC.same (h2 _ _ _) ?_
   simp only [List.cons_append, List.nil_append, go_sem]
   refine CallVC.same (h3 _ _ _) ?_
   simp only [Ckx.row, List.cons_append, List.nil_append, go_sem]
   refine CallVC.same (putsYes_ok c9) ?_
   simp only [List.nil_append, go_sem]
   refine ⟨by unfold Sx.inI64; omega, 1, by omega, by omega, ?_⟩
   refine Sub.of (hfz hF2) (by simp only [go_sem, subT, and_self, n0]) ?_ (by simp [subK, keys]) (by simp only []; omega)
   simp [subH, Tx.look, Dat.row, Ini.row]
  ·simp only [g2_0, List.cons_append, List.nil_append, go_sem]
   refine ⟨⟨by omega, by omega⟩, ?_⟩
   refine CallVC.same (h1 _ _ _) ?_
   simp only [Ckx.row, List.cons_append, List.nil_append, go_sem]
   refine CallVC.same (h2 _ _ _) ?_
   simp only [List.cons_append, List.nil_append, go_sem]
   refine CallVC.same (putsNo_ok ckZ) ?_
   simp only [List.nil_append, go_sem]
   refine ⟨by unfold Sx.inI64; omega, 1, by omega, by omega, ?_⟩
   refine Sub.of (hfz hF2) (by simp only [go_sem, subT, and_self, n0]) ?_ (by simp [subK, keys]) (by simp only []; omega)
   simp [subH, Tx.look, Dat.row, Ini.row]
 ·rcases (ppF p.a skP (by omega)).go with ⟨c9, h1, h2, h3⟩ | ⟨h1, h2⟩
  ·simp only [g2_1, List.cons_append, List.nil_append, go_sem]
   refine ⟨⟨by omega, by omega⟩, ?_⟩
   refine CallVC.same (h1 _ _ _) ?_
   simp only [Ckx.row, List.cons_append, List.nil_append, go_sem]
   refine CallVC.same (h2 _ _ _) ?_
   simp only [List.cons_append, List.nil_append, go_sem]
   refine CallVC.same (h3 _ _ _) ?_
   simp only [Ckx.row, List.cons_append, List.nil_append, go_sem]
   refine CallVC.same (putsYes_ok c9) ?_
   simp only [List.nil_append, go_sem]
   refine ⟨by unfold Sx.inI64; omega, 2, by omega, by omega, ?_⟩
   refine Sub.of (hfz hF2) (by simp only [go_sem, subT, and_self, n1]) ?_ (by simp [subK, keys]) (by simp only []; omega)
   simp [subH, Tx.look, Dat.row, Ini.row]
  ·simp only [g2_1, List.cons_append, List.nil_append, go_sem]
   refine ⟨⟨by omega, by omega⟩, ?_⟩
   refine CallVC.same (h1 _ _ _) ?_
   simp only [Ckx.row, List.cons_append, List.nil_append, go_sem]
   refine CallVC.same (h2 _ _ _) ?_
   simp only [List.cons_append, List.nil_append, go_sem]
   refine CallVC.same (putsNo_ok ckZ) ?_
   simp only [List.nil_append, go_sem]
   refine ⟨by unfold Sx.inI64; omega, 2, by omega, by omega, ?_⟩
   refine Sub.of (hfz hF2) (by simp only [go_sem, subT, and_self, n1]) ?_ (by simp [subK, keys]) (by simp only []; omega)
   simp [subH, Tx.look, Dat.row, Ini.row]
 obtain rfl : i = 0 := by omega
 simp only [g2_2, go_sem]
 repeat refine sd2 ?_
 refine CallVC.same (cR _ _ _) ?_
 simp only [rstP, go_sem]
 refine ⟨okDyn_num (fun x => x.i) (by kernel_rfl), ?_⟩
 refine loopK.intro _ _ (I := fun i : Nat => ⟨[none, none, none, none, none, none, some (.ptr ⟨L + 1, 0⟩ 0 0), some (.ptr ⟨L + 1, 32⟩ 0 0), some (.ptr ⟨L + 1, 64⟩ 0 0), some (.ptr ⟨L + 1, 96⟩ 0 0), some (.ptr ⟨L + 1, 128⟩ 0 0), some (.ptr ⟨L + 1, 160⟩ 0 0), none, none, none, none, none, none, none, none, none, none, none, none, none, none, none, none, none, none, none, none, none, none, none, none, none, none, none, none, none, none, none, none, none, none, none, none, none, none, none, none, none, none, none, none, none, none, none, none, none, none, none, none, none, none, none, none, none, none, none, none, none, none, none, none, none, none, none, none, none, none, none, none, none, none, none, none, none, none, none, none, none, none, none, none, none, none, none, none, none, none, none, none, none, none, none, none, none, none, none, none, none, none, none, none, none, none, none, none, none, none, none, none, none, none, none, none, none, none, none, none, none, none, none, none, none, none, none, none, none, none, none, none, none, none, none, none, none, none, none, none, none, none, none, none, none, none, none, none, none, none, none, none, none, none, none, none, none, none, none, none, none, none, none, none, none, none, none, none, none, none, none, none, none, none, none, none, none, none, none, none, none, none, some (.agg ([.int .i64 k, .int .i64 n, .int .i64 la, .int .i64 r, .fs 1 ((xs1).map eI)] ++ [.int .i64 rP.kind, .int .i64 rP.num, .int .i64 rP.last, .int .i64 rP.res, .fs 1 ((rP.xs).map eI)])), some (.int .i64 i), none, none, none, none, none, none, none, none, none, none, none, none, none, none, none, none, none, none, none], [(⟨L + 1, 0⟩, .rows 51 8 true true [d1.row]), (⟨L + 1, 32⟩, .rows 55 4 true true [[.int .i64 c, .int .i64 w, .fs 2 (gs1.map kE), .fs 1 (ds1.map eI)]]), (⟨L + 1, 64⟩, .rows 57 6 true true [i1.row]), (⟨L + 1, 96⟩, .rows 59 2 true true [[.int .i64 cum, .fs 2 (sk1.map kE)]]), (⟨L + 1, 128⟩, .rows 61 5 true true [[.int .i64 k, .int .i64 n, .int .i64 la, .int .i64 r, .fs 1 (xs1.map eI)]]), (⟨L + 1, 160⟩, .rows 65 7 true true [p.row])], 10000 * (i + 41)⟩) (pre := fun i => i ≤ 2) (μ := fun i => 2 - i) 0 (by omega) ?_ ?_
 ·refine Sub.of (hfz hF2) (by simp only [go_sem, subT, and_self, Int.natCast_zero, List.cons_append, List.nil_append]) ?_ (by simp [subK, keys]) (by simp)
  simp [subH, Tx.look, Dat.row, Ini.row]
 intro i hi
 rcases i with _ | _ | i
 ·rcases (ppR k n la r xs1 (by omega)).go with ⟨c9, h1, h2, h3⟩ | ⟨h1, h2⟩
  ·simp only [g2_0, List.cons_append, List.nil_append, go_sem]
   refine ⟨⟨by omega, by omega⟩, ?_⟩
   refine CallVC.same (h1 _ _ _) ?_
   simp only [Ckx.row, List.cons_append, List.nil_append, go_sem]
   refine CallVC.same (h2 _ _ _) ?_
   simp only [List.cons_append, List.nil_append, go_sem]
   refine CallVC.same (h3 _ _ _) ?_
   simp only [Ckx.row, List.cons_append, List.nil_append, go_sem]
   refine CallVC.same (putsYes_ok c9) ?_
   simp only [List.nil_append, go_sem]
   refine ⟨by unfold Sx.inI64; omega, 1, by omega, by omega, ?_⟩
   refine Sub.of (hfz hF2) (by simp only [go_sem, subT, and_self, n0]) ?_ (by simp [subK, keys]) (by simp only []; omega)
   simp [subH, Tx.look, Dat.row, Ini.row]
  ·simp only [g2_0, List.cons_append, List.nil_append, go_sem]
   refine ⟨⟨by omega, by omega⟩, ?_⟩
   refine CallVC.same (h1 _ _ _) ?_
   simp only [Ckx.row, List.cons_append, List.nil_append, go_sem]
   refine CallVC.same (h2 _ _ _) ?_
   simp only [List.cons_append, List.nil_append, go_sem]
   refine CallVC.same (putsNo_ok ckZ) ?_
   simp only [List.nil_append, go_sem]
   refine ⟨by unfold Sx.inI64; omega, 1, by omega, by omega, ?_⟩
   refine Sub.of (hfz hF2) (by simp only [go_sem, subT, and_self, n0]) ?_ (by simp [subK, keys]) (by simp only []; omega)
   simp [subH, Tx.look, Dat.row, Ini.row]
 ·rcases (ppR rP.kind rP.num rP.last rP.res rP.xs (by omega)).go with ⟨c9, h1, h2, h3⟩ | ⟨h1, h2⟩
  ·simp only [g2_1, List.cons_append, List.nil_append, go_sem]
   refine ⟨⟨by omega, by omega⟩, ?_⟩
   refine CallVC.same (h1 _ _ _) ?_
   simp only [Ckx.row, List.cons_append, List.nil_append, go_sem]
   refine CallVC.same (h2 _ _ _) ?_
   simp only [List.cons_append, List.nil_append, go_sem]
   refine CallVC.same (h3 _ _ _) ?_
   simp only [Ckx.row, List.cons_append, List.nil_append, go_sem]
   refine CallVC.same (putsYes_ok c9) ?_
   simp only [List.nil_append, go_sem]
   refine ⟨by unfold Sx.inI64; omega, 2, by omega, by omega, ?_⟩
   refine Sub.of (hfz hF2) (by simp only [go_sem, subT, and_self, n1]) ?_ (by simp [subK, keys]) (by simp only []; omega)
   simp [subH, Tx.look, Dat.row, Ini.row]
  ·simp only [g2_1, List.cons_append, List.nil_append, go_sem]
   refine ⟨⟨by omega, by omega⟩, ?_⟩
   refine CallVC.same (h1 _ _ _) ?_
   simp only [Ckx.row, List.cons_append, List.nil_append, go_sem]
   refine CallVC.same (h2 _ _ _) ?_
   simp only [List.cons_append, List.nil_append, go_sem]
   refine CallVC.same (putsNo_ok ckZ) ?_
   simp only [List.nil_append, go_sem]
   refine ⟨by unfold Sx.inI64; omega, 2, by omega, by omega, ?_⟩
   refine Sub.of (hfz hF2) (by simp only [go_sem, subT, and_self, n1]) ?_ (by simp [subK, keys]) (by simp only []; omega)
   simp [subH, Tx.look, Dat.row, Ini.row]
 obtain rfl : i = 0 := by omega
 simp only [g2_2, go_sem]
 exact .bool (.inr rfl) rfl rfl (by simp [UpdAll])
end Go.Proofs.YtaacfnngodhecaaGreatDoor
end
