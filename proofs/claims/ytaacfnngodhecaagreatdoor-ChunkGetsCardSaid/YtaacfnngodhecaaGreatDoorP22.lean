/- Lemmas for the walk: WK56, WK50, WK57, WR33, WD23. -/
import Derived.Test.YtaacfnngodhecaaGreatDoorP21
import Derived.Test.YtaacfnngodhecaaGreatDoorP20
import Derived.Test.YtaacfnngodhecaaGreatDoorP18
set_option linter.all false
section
namespace Go.Proofs.YtaacfnngodhecaaGreatDoor
open Go.Tx
set_option maxRecDepth 100000
set_option maxHeartbeats 16000000
theorem xPutForwardV_ok {F : SF} {L nx : Nat} (c : Int) (sk : List (Int × Int)) (h : fwdV c sk = true) : Con Tryz.prog 36 [fwdP c sk] F L nx nx (.agg [.int .i64 192, .int .i64 0, .str (fwdT c.toNat (sk.map fun k => (k.1.toNat, k.2.toNat)))]) [] [] := by
 obtain ⟨b1, b2, b3, b4⟩ := fwdB h
 have h1 := xPutForward_ok (F := F) (L := L) (nx := nx) c.toNat (sk.map fun k => (k.1.toNat, k.2.toNat)) (by omega) (by
  intro k hk
  obtain ⟨y, hy, rfl⟩ := List.mem_map.1 hk
  have := b1 y hy
  constructor
  ·show y.1.toNat < 65536; omega
  ·show y.2.toNat < 65536; omega) (by simp; omega)
 rw [mapK sk (fun x hx => ⟨(b1 x hx).1, (b1 x hx).2.2.1⟩), show ((c.toNat : Nat) : Int) = c by omega] at h1
 exact h1
def kds : List Nat := [4, 5, 6, 7, 8, 10, 11, 14]
def Pcx.chk (p : Pcx) : Ckx := match p.w % 8 with
 | 0 => ⟨0, flD p.dat.la p.dat.fi p.dat.lo 3, dataB p.dat⟩
 | 1 => ⟨0, flD p.dat.la p.dat.fi p.dat.lo 3, dataB p.dat⟩
 | 2 => ⟨3, 0, sackO p.a p.b ((p.gp p.n).map kN) ((p.db (p.c % 6)).map fun x : Nat => (x : Int))⟩
 | 3 => ⟨iniK (p.ini p.m8).ck, 0, (p.ini p.m8).oct⟩
 | 4 => ⟨192, 0, fwdT p.a (p.sk p.n)⟩
 | 5 => ⟨130, 0, resetB p.rst.kind p.rst.num p.rst.last p.rst.res p.rst.xs⟩
 | _ => ⟨(kds.getD (p.w / 8 % 8) 0 : Nat), (p.a % 2 : Nat), p.pl.take 60⟩
theorem wrap8 {n : Nat} (h : n < 256) : IntKind.u8.wrap (n : Int) = (n : Int) := by
 simp [IntKind.wrap, IntKind.signed, IntKind.bits]; omega
theorem kds_get {x : Nat} (h : x < 8) : ([PV.int .i64 4, PV.int .i64 5, PV.int .i64 6, PV.int .i64 7, PV.int .i64 8, PV.int .i64 10, PV.int .i64 11, PV.int .i64 14] : List PV).getD x (PV.tup []) = PV.int .i64 ((kds.getD x 0 : Nat) : Int) := by
 rcases (show x = 0 ∨ x = 1 ∨ x = 2 ∨ x = 3 ∨ x = 4 ∨ x = 5 ∨ x = 6 ∨ x = 7 by omega) with rfl | rfl | rfl | rfl | rfl | rfl | rfl | rfl <;> rfl
theorem fwK (l : List (Nat × Nat)) : (l.map kN).map (fun k => (k.1.toNat, k.2.toNat)) = l := by
 rw [List.map_map, List.map_congr_left (g := id) (by intro x _; rfl), List.map_id]
theorem pChunk_ok {F : SF} {L nx : Nat} (p : Pcx) (hp : p.Ok) : Con Tryz.prog 41 [.agg p.row] F L nx nx (.agg p.chk.row) [] [] := by
 have tw : (p.w : Int).tmod 8 = ((p.w % 8 : Nat) : Int) := tmL p.w 8 (by omega)
 have td : (p.w : Int).tdiv 8 = ((p.w / 8 : Nat) : Int) := tdL p.w 8 (by omega)
 have tx : ((p.w / 8 : Nat) : Int).tmod 8 = ((p.w / 8 % 8 : Nat) : Int) := tmL (p.w / 8) 8 (by omega)
 have ta : (p.a : Int).tmod 2 = ((p.a % 2 : Nat) : Int) := tmL p.a 2 (by omega)
 unfold Pcx.chk
 obtain ⟨m, hm⟩ : ∃ m, m = p.w % 8 := ⟨_, rfl⟩
 have hm8 : m < 8 := by rw [hm]; exact Nat.mod_lt _ (by omega)
 rw [← hm] at tw ⊢
 have hpp := hp
 obtain ⟨hw, ha, hb, hc, hd, hl, hll, hpl⟩ := hpp
 rcases (show m = 6 ∨ m = 7 ∨ m = 0 ∨ m = 1 ∨ m = 2 ∨ m = 3 ∨ m = 4 ∨ m = 5 by omega) with rfl | rfl | rfl | rfl | rfl | rfl | rfl | rfl
 ·show Con Tryz.prog 41 [.agg p.row] F L nx nx (.agg [.int .i64 ((kds.getD (p.w / 8 % 8) 0 : Nat) : Int), .int .i64 ((p.a % 2 : Nat) : Int), .str (p.pl.take 60)]) [] []
  have tv : (p.w : Int).tmod 8 = 6 := tw
  have z0 : ((6 : Int) == 0) = false := rfl
  have z1 : ((6 : Int) == 1) = false := rfl
  have z2 : ((6 : Int) == 2) = false := rfl
  have z3 : ((6 : Int) == 3) = false := rfl
  have z4 : ((6 : Int) == 4) = false := rfl
  have z5 : ((6 : Int) == 5) = false := rfl
  have wx : IntKind.u8.wrap ((p.w / 8 : Nat) : Int) = ((p.w / 8 : Nat) : Int) := wrap8 (by omega)
  have gx := kds_get (x := p.w / 8 % 8) (Nat.mod_lt _ (by omega))
  have bx : p.w / 8 % 8 < 8 := Nat.mod_lt _ (by omega)
  have ba : p.a % 2 < 2 := Nat.mod_lt _ (by omega)
  have tk : List.take (min (p.pl.length : Int) 60).toNat p.pl = p.pl.take 60 := by rw [List.take_eq_take_iff]; omega
  unfold maxLen at hpl
  refine bdy Tryz.f41 ?_
  intro F3 hF1 hF2
  simp only [Tryz.f41, cx, Pcx.row, tv, z0, z1, z2, z3, z4, z5, td, tx, ta, wx, gx, tk, Nat.sub_zero, Nat.add_zero, go_sem, meths]
  repeat refine sd2 ?_
  refine ⟨okDyn_num (fun x => x.i) (by kernel_rfl), ?_⟩
  exact PostF.same (p := True) (.inr rfl) (by simp only [resVal, resVals, resVal1, one, go_sem]) trivial (by simp [Tx.nf, nfl]) (by simp [UpdAll])
 ·show Con Tryz.prog 41 [.agg p.row] F L nx nx (.agg [.int .i64 ((kds.getD (p.w / 8 % 8) 0 : Nat) : Int), .int .i64 ((p.a % 2 : Nat) : Int), .str (p.pl.take 60)]) [] []
  have tv : (p.w : Int).tmod 8 = 7 := tw
  have z0 : ((7 : Int) == 0) = false := rfl
  have z1 : ((7 : Int) == 1) = false := rfl
  have z2 : ((7 : Int) == 2) = false := rfl
  have z3 : ((7 : Int) == 3) = false := rfl
  have z4 : ((7 : Int) == 4) = false := rfl
  have z5 : ((7 : Int) == 5) = false := rfl
  have wx : IntKind.u8.wrap ((p.w / 8 : Nat) : Int) = ((p.w / 8 : Nat) : Int) := wrap8 (by omega)
  have gx := kds_get (x := p.w / 8 % 8) (Nat.mod_lt _ (by omega))
  have bx : p.w / 8 % 8 < 8 := Nat.mod_lt _ (by omega)
  have ba : p.a % 2 < 2 := Nat.mod_lt _ (by omega)
  have tk : List.take (min (p.pl.length : Int) 60).toNat p.pl = p.pl.take 60 := by rw [List.take_eq_take_iff]; omega
  unfold maxLen at hpl
  refine bdy Tryz.f41 ?_
  intro F3 hF1 hF2
  simp only [Tryz.f41, cx, Pcx.row, tv, z0, z1, z2, z3, z4, z5, td, tx, ta, wx, gx, tk, Nat.sub_zero, Nat.add_zero, go_sem, meths]
  repeat refine sd2 ?_
  refine ⟨okDyn_num (fun x => x.i) (by kernel_rfl), ?_⟩
  exact PostF.same (p := True) (.inr rfl) (by simp only [resVal, resVals, resVal1, one, go_sem]) trivial (by simp [Tx.nf, nfl]) (by simp [UpdAll])
 ·show Con Tryz.prog 41 [.agg p.row] F L nx nx (.agg [.int .i64 0, .int .i64 (flD p.dat.la p.dat.fi p.dat.lo 3), .str (dataB p.dat)]) [] []
  have tv : (p.w : Int).tmod 8 = 0 := tw
  have z0 : ((0 : Int) == 0) = true := rfl
  have z1 : ((0 : Int) == 1) = false := rfl
  have z2 : ((0 : Int) == 2) = false := rfl
  have z3 : ((0 : Int) == 3) = false := rfl
  have z4 : ((0 : Int) == 4) = false := rfl
  have z5 : ((0 : Int) == 5) = false := rfl
  refine bdy Tryz.f41 ?_
  intro F3 hF1 hF2
  simp only [Tryz.f41, cx, Pcx.row, tv, z0, Nat.add_zero, go_sem, meths]
  repeat refine sd2 ?_
  refine CallVC.same (pData_ok p hp) ?_
  simp only [Dat.row, go_sem]
  refine CallVC.same (rPutData_ok p.dat hp.dat) ?_
  simp only [go_sem]
  exact PostF.same (p := True) (.inr rfl) (by simp only [resVal, resVals, resVal1, one, go_sem]) trivial (by simp [Tx.nf, nfl]) (by simp [UpdAll])
 ·show Con Tryz.prog 41 [.agg p.row] F L nx nx (.agg [.int .i64 0, .int .i64 (flD p.dat.la p.dat.fi p.dat.lo 3), .str (dataB p.dat)]) [] []
  have tv : (p.w : Int).tmod 8 = 1 := tw
  have z0 : ((1 : Int) == 0) = false := rfl
  have z1 : ((1 : Int) == 1) = true := rfl
  have z2 : ((1 : Int) == 2) = false := rfl
  have z3 : ((1 : Int) == 3) = false := rfl
  have z4 : ((1 : Int) == 4) = false := rfl
  have z5 : ((1 : Int) == 5) = false := rfl
  refine bdy Tryz.f41 ?_
  intro F3 hF1 hF2
  simp only [Tryz.f41, cx, Pcx.row, tv, z0, z1, Nat.add_zero, go_sem, meths]
  repeat refine sd2 ?_
  refine CallVC.same (pData_ok p hp) ?_
  simp only [Dat.row, go_sem]
  refine CallVC.same (rPutData_ok p.dat hp.dat) ?_
  simp only [go_sem]
  exact PostF.same (p := True) (.inr rfl) (by simp only [resVal, resVals, resVal1, one, go_sem]) trivial (by simp [Tx.nf, nfl]) (by simp [UpdAll])
 ·show Con Tryz.prog 41 [.agg p.row] F L nx nx (.agg [.int .i64 3, .int .i64 0, .str (sackO p.a p.b ((p.gp p.n).map kN) ((p.db (p.c % 6)).map fun x : Nat => (x : Int)))]) [] []
  have tv : (p.w : Int).tmod 8 = 2 := tw
  have z0 : ((2 : Int) == 0) = false := rfl
  have z1 : ((2 : Int) == 1) = false := rfl
  have z2 : ((2 : Int) == 2) = true := rfl
  have z3 : ((2 : Int) == 3) = false := rfl
  have z4 : ((2 : Int) == 4) = false := rfl
  have z5 : ((2 : Int) == 5) = false := rfl
  refine bdy Tryz.f41 ?_
  intro F3 hF1 hF2
  simp only [Tryz.f41, cx, Pcx.row, tv, z0, z1, z2, Nat.add_zero, go_sem, meths]
  repeat refine sd2 ?_
  refine CallVC.same (pSack_ok p hp) ?_
  simp only [sackP, go_sem]
  refine CallVC.same (xPutSackV_ok _ _ _ _ hp.sck) ?_
  simp only [go_sem]
  exact PostF.same (p := True) (.inr rfl) (by simp only [resVal, resVals, resVal1, one, go_sem]) trivial (by simp [Tx.nf, nfl]) (by simp [UpdAll])
 ·show Con Tryz.prog 41 [.agg p.row] F L nx nx (.agg [.int .i64 (iniK (p.ini p.m8).ck), .int .i64 0, .str (p.ini p.m8).oct]) [] []
  have tv : (p.w : Int).tmod 8 = 3 := tw
  have z0 : ((3 : Int) == 0) = false := rfl
  have z1 : ((3 : Int) == 1) = false := rfl
  have z2 : ((3 : Int) == 2) = false := rfl
  have z3 : ((3 : Int) == 3) = true := rfl
  have z4 : ((3 : Int) == 4) = false := rfl
  have z5 : ((3 : Int) == 5) = false := rfl
  refine bdy Tryz.f41 ?_
  intro F3 hF1 hF2
  simp only [Tryz.f41, cx, Pcx.row, tv, z0, z1, z2, z3, Nat.add_zero, go_sem, meths]
  repeat refine sd2 ?_
  refine CallVC.same (pInit_ok p hp p.m8) ?_
  simp only [Ini.row, go_sem]
  refine CallVC.same (rPutInit_ok (p.ini p.m8) (hp.ini p.m8)) ?_
  simp only [go_sem]
  exact PostF.same (p := True) (.inr rfl) (by simp only [resVal, resVals, resVal1, one, go_sem]) trivial (by simp [Tx.nf, nfl]) (by simp [UpdAll])
 ·show Con Tryz.prog 41 [.agg p.row] F L nx nx (.agg [.int .i64 192, .int .i64 0, .str (fwdT p.a (p.sk p.n))]) [] []
  have tv : (p.w : Int).tmod 8 = 4 := tw
  have z0 : ((4 : Int) == 0) = false := rfl
  have z1 : ((4 : Int) == 1) = false := rfl
  have z2 : ((4 : Int) == 2) = false := rfl
  have z3 : ((4 : Int) == 3) = false := rfl
  have z4 : ((4 : Int) == 4) = true := rfl
  have z5 : ((4 : Int) == 5) = false := rfl
  refine bdy Tryz.f41 ?_
  intro F3 hF1 hF2
  simp only [Tryz.f41, cx, Pcx.row, tv, z0, z1, z2, z3, z4, Nat.add_zero, go_sem, meths]
  repeat refine sd2 ?_
  refine CallVC.same (pForward_ok p hp) ?_
  simp only [fwdP, go_sem]
  refine CallVC.same (xPutForwardV_ok _ _ hp.fwd) ?_
  simp only [go_sem]
  exact PostF.same (p := True) (.inr rfl) (by simp only [fwK, resVal, resVals, resVal1, one, go_sem]) trivial (by simp [Tx.nf, nfl]) (by simp [UpdAll])
 ·show Con Tryz.prog 41 [.agg p.row] F L nx nx (.agg [.int .i64 130, .int .i64 0, .str (resetB p.rst.kind p.rst.num p.rst.last p.rst.res p.rst.xs)]) [] []
  have tv : (p.w : Int).tmod 8 = 5 := tw
  have z0 : ((5 : Int) == 0) = false := rfl
  have z1 : ((5 : Int) == 1) = false := rfl
  have z2 : ((5 : Int) == 2) = false := rfl
  have z3 : ((5 : Int) == 3) = false := rfl
  have z4 : ((5 : Int) == 4) = false := rfl
  have z5 : ((5 : Int) == 5) = true := rfl
  refine bdy Tryz.f41 ?_
  intro F3 hF1 hF2
  simp only [Tryz.f41, cx, Pcx.row, tv, z0, z1, z2, z3, z4, z5, Nat.add_zero, go_sem, meths]
  repeat refine sd2 ?_
  refine CallVC.same (pReset_ok p hp) ?_
  simp only [rstP, go_sem]
  refine CallVC.same (xPutReset_ok _ _ _ _ _ hp.rst) ?_
  simp only [go_sem]
  exact PostF.same (p := True) (.inr rfl) (by simp only [resVal, resVals, resVal1, one, go_sem]) trivial (by simp [Tx.nf, nfl]) (by simp [UpdAll])
theorem takeM {α : Type} (l : List α) (m : Nat) (k : Int) (hk : k = m) : List.take ((min (l.length : Int) k).toNat - 0) l = l.take m := by
 rw [List.take_eq_take_iff]; omega
def ks6 : List Nat := [0, 1, 2, 3, 130, 192]
theorem ks6_get {x : Nat} (h : x < 6) : ([PV.int .i64 0, PV.int .i64 1, PV.int .i64 2, PV.int .i64 3, PV.int .i64 130, PV.int .i64 192] : List PV).getD x (PV.tup []) = PV.int .i64 ((ks6.getD x 0 : Nat) : Int) := by
 rcases (show x = 0 ∨ x = 1 ∨ x = 2 ∨ x = 3 ∨ x = 4 ∨ x = 5 by omega) with rfl | rfl | rfl | rfl | rfl | rfl <;> rfl
structure CkGood (c : Ckx) : Prop where
 l : c.bd.length ≤ 1000000
 f : -9223372036854775808 ≤ c.fl ∧ c.fl ≤ 9223372036854775807
theorem edx_len (e : Edx) (s : List UInt8) : (e.of s).length ≤ s.length + 8 := by
 unfold Edx.of
 simp only [List.length_append, List.length_take, List.length_drop]
 omega
def lstG (raw c b t m : Ckx) : Nat → List Ckx
 | 0 => [raw, c, b, t, m]
 | i + 1 => lstG raw c b t m i ++ [⟨(ks6.getD i 0 : Nat), 0, raw.bd⟩, ⟨(ks6.getD i 0 : Nat), 0, c.bd⟩]
theorem lstG_len (raw c b t m : Ckx) : ∀ i, (lstG raw c b t m i).length = 5 + 2 * i
 | 0 => rfl
 | i + 1 => by rw [lstG, List.length_append, lstG_len raw c b t m i]; simp only [List.length_cons, List.length_nil]; omega
theorem lstG_good {raw c b t m : Ckx} (h1 : CkGood raw) (h2 : CkGood c) (h3 : CkGood b) (h4 : CkGood t) (h5 : CkGood m) : ∀ i, ∀ x ∈ lstG raw c b t m i, CkGood x
 | 0, x, hx => by
  simp only [lstG, List.mem_cons, List.not_mem_nil, or_false] at hx
  rcases hx with rfl | rfl | rfl | rfl | rfl <;> assumption
 | i + 1, x, hx => by
  rw [lstG, List.mem_append] at hx
  rcases hx with hx | hx
  ·exact lstG_good h1 h2 h3 h4 h5 i x hx
  ·simp only [List.mem_cons, List.not_mem_nil, or_false] at hx
   rcases hx with rfl | rfl
   ·exact ⟨h1.l, by simp⟩
   ·exact ⟨h2.l, by simp⟩
theorem getsLaw_ok {F : SF} {L nx : Nat} (raw : Ckx) (p : Pcx) (x y : Edx) (fg : Nat) (hp : p.Ok) (hx : x.Ok) (hy : y.Ok) (hfg : fg < 256)
  (hr : raw.bd.length ≤ maxLen) (hrf : -9223372036854775808 ≤ raw.fl ∧ raw.fl ≤ 9223372036854775807) (hc : p.chk.bd.length ≤ 100000) (hcf : 0 ≤ p.chk.fl ∧ p.chk.fl ≤ 255) :
  Con Tryz.prog 6 [.agg raw.row, .agg p.row, .agg x.row, .agg y.row, .int .u8 fg] F L nx nx (.bool true) [] [] := by
 unfold maxLen at hr
 have cC := fun F L nx => pChunk_ok (F := F) (L := L) (nx := nx) p hp
 obtain ⟨c, hcc⟩ : ∃ c, c = p.chk := ⟨_, rfl⟩
 rw [← hcc] at cC hc hcf
 clear hcc
 obtain ⟨rb, hrb⟩ : ∃ rb, rb = raw.bd.take 1200 := ⟨_, rfl⟩
 have t1 := takeM raw.bd 1200 1200 rfl
 rw [← hrb] at t1
 have lrb : rb.length ≤ 1200 := by rw [hrb, List.length_take]; omega
 have e1 := fun F L nx => editOf_ok (F := F) (L := L) (nx := nx) x hx c.bd (by omega)
 have ll1 := edx_len x c.bd
 have e2 := fun F L nx => editOf_ok (F := F) (L := L) (nx := nx) y hy (x.of c.bd) (by omega)
 have ll2 := edx_len y (x.of c.bd)
 obtain ⟨b1, hb1⟩ : ∃ b, b = x.of c.bd := ⟨_, rfl⟩
 rw [← hb1] at e1 e2 ll1 ll2
 obtain ⟨b2, hb2⟩ : ∃ b, b = y.of b1 := ⟨_, rfl⟩
 rw [← hb2] at e2 ll2
 clear hb1 hb2 hrb
 have good := fun i => lstG_good (raw := ⟨raw.kd, raw.fl, rb⟩) (c := c) (b := ⟨c.kd, c.fl, b1⟩) (t := ⟨c.kd, c.fl, b2⟩) (m := ⟨c.kd, (fg : Nat), c.bd⟩) ⟨by show rb.length ≤ _; omega, hrf⟩ ⟨by omega, by omega⟩ ⟨by show b1.length ≤ _; omega, by show _ ≤ c.fl ∧ c.fl ≤ _; omega⟩ ⟨by show b2.length ≤ _; omega, by show _ ≤ c.fl ∧ c.fl ≤ _; omega⟩ ⟨by show c.bd.length ≤ _; omega, by show _ ≤ ((fg : Nat) : Int) ∧ ((fg : Nat) : Int) ≤ _; omega⟩ i
 have llen := lstG_len ⟨raw.kd, raw.fl, rb⟩ c ⟨c.kd, c.fl, b1⟩ ⟨c.kd, c.fl, b2⟩ ⟨c.kd, (fg : Nat), c.bd⟩
 have lsucc : ∀ i, lstG ⟨raw.kd, raw.fl, rb⟩ c ⟨c.kd, c.fl, b1⟩ ⟨c.kd, c.fl, b2⟩ ⟨c.kd, (fg : Nat), c.bd⟩ (i + 1) = lstG ⟨raw.kd, raw.fl, rb⟩ c ⟨c.kd, c.fl, b1⟩ ⟨c.kd, c.fl, b2⟩ ⟨c.kd, (fg : Nat), c.bd⟩ i ++ [⟨(ks6.getD i 0 : Nat), 0, rb⟩, ⟨(ks6.getD i 0 : Nat), 0, c.bd⟩] := fun i => rfl
 have lzero : lstG ⟨raw.kd, raw.fl, rb⟩ c ⟨c.kd, c.fl, b1⟩ ⟨c.kd, c.fl, b2⟩ ⟨c.kd, (fg : Nat), c.bd⟩ 0 = [⟨raw.kd, raw.fl, rb⟩, c, ⟨c.kd, c.fl, b1⟩, ⟨c.kd, c.fl, b2⟩, ⟨c.kd, (fg : Nat), c.bd⟩] := rfl
 obtain ⟨ls, hls⟩ : ∃ ls, ls = lstG ⟨raw.kd, raw.fl, rb⟩ c ⟨c.kd, c.fl, b1⟩ ⟨c.kd, c.fl, b2⟩ ⟨c.kd, (fg : Nat), c.bd⟩ := ⟨_, rfl⟩
 rw [← hls] at good llen lsucc lzero
 clear hls
 have hpl : p.row.length = 7 := rfl
 have hpn : nfl p.row = true := rfl
 have hxl : x.row.length = 3 := rfl
 have hxn : nfl x.row = true := rfl
 have hyl : y.row.length = 3 := rfl
 have hyn : nfl y.row = true := rfl
 simp only [Ckx.row] at cC
 refine bdy Tryz.f6 ?_
 intro F3 hF1 hF2
 simp only [Tryz.f6, cx, hpl, hpn, hxl, hxn, hyl, hyn, Ckx.row, go_sem, meths]
 refine CallVC.same works32_ok ?_
 simp only [t1, go_sem]
 repeat refine sd2 ?_
 refine CallVC.same (cC _ _ _) ?_
 simp only [go_sem]
 repeat refine sd2 ?_
 refine ⟨okDyn_num (fun x => x.i) (by kernel_rfl), ?_⟩
 repeat refine sd2 ?_
 refine CallVC.same (e1 _ _ _) ?_
 simp only [go_sem]
 repeat refine sd2 ?_
 refine CallVC.same (e1 _ _ _) ?_
 simp only [go_sem]
 repeat refine sd2 ?_
 refine CallVC.same (e2 _ _ _) ?_
 simp only [go_sem]
 repeat refine sd2 ?_
 refine ⟨okDyn_num (fun x => x.i) (by kernel_rfl), ?_⟩
 refine loopK.intro _ _ (I := fun z : Nat × Nat => ⟨[none, none, none, none, none, some (.ptr ⟨L + 1, 0⟩ 0 0), none, none, none, none, none, some (.ptr ⟨L + 1, 512⟩ 0 0), none, none, none, some (.sl ⟨L + 1, z.2⟩ 0 (5 + 2 * z.1)), none, none, none, none, none, none, none, none, none, none, none, none, none, none, none, none, none, none, none, none, none, none, none, none, none, none, none, none, none, none, none, none, none, none, none, none, none, none, none, none, some (.agg [.int .i64 0, .int .i64 1, .int .i64 2, .int .i64 3, .int .i64 130, .int .i64 192]), some (.int .i64 z.1), none, none, none, none, none, none, none, none, none, none, none, none, none, none, none, none, none, none, none, none, none, none, none, none],
  [(⟨L + 1, 0⟩, .rows 34 3 true true [[.int .i64 raw.kd, .int .i64 raw.fl, .str rb]]), (⟨L + 1, 512⟩, .rows 34 3 true true [[.int .i64 c.kd, .int .i64 c.fl, .str c.bd]]), (⟨L + 1, z.2⟩, .rows 34 3 true true ((ls z.1).map Ckx.row))], 10000 * (z.1 + 1)⟩)
  (pre := fun z => z.1 ≤ 6 ∧ 1000 ≤ z.2 ∧ z.2 < 10000 * (z.1 + 1)) (μ := fun z => 6 - z.1) (0, 1504) ⟨by simp, by simp, by simp⟩ ?_ ?_
 ·refine Sub.of (hfz hF2) (by simp only [Nat.mul_zero, Nat.add_zero, go_sem, subT, and_self, Int.natCast_zero]) ?_ (by simp [subK, keys]) (by simp)
  simp [subH, Tx.look, lzero, Ckx.row]
 rintro ⟨i, q⟩ ⟨hi, hq0, hq⟩
 simp only at hi hq0 hq ⊢
 have hln := llen i
 have hln' : ((ls i).map Ckx.row).length = 5 + 2 * i := by rw [List.length_map, hln]
 by_cases hlt : i < 6
 ·have g1 : decide ((i : Int) < 6) = true := dT (by omega)
  have q_0 : (q = 0) = False := by apply eq_false; omega
  have n0_q : (0 = q) = False := by apply eq_false; omega
  have q_512 : (q = 512) = False := by apply eq_false; omega
  have n512_q : (512 = q) = False := by apply eq_false; omega
  obtain ⟨q_n1, q_n2, q_n3, q_n4, q_n5⟩ := nqL L (i := i) (p := q) (by omega)
  have e3 := lsucc i
  have gk := ks6_get hlt
  have i6 : i < 6 := hlt
  simp only [g1, gk, Int.toNat_natCast, q_0, n0_q, q_512, n512_q, q_n1, q_n2, q_n5, kS2, kS3, Nat.add_assoc, go_sem]
  repeat refine sd2 ?_
  refine ⟨(i + 1, 10000 * (i + 1) + 416), ⟨by simp only []; omega, by simp only []; omega, by simp only []; omega⟩, by simp only []; omega, ?_⟩
  have e5 : 5 + (2 * i + 2) = 5 + 2 * (i + 1) := by omega
  refine Sub.of (hfz hF2) (by simp only [e5, go_sem, subT, and_self, Int.natCast_succ]) ?_ (by simp [subK, keys]) (by simp only []; omega)
  simp [subH, Tx.look, e3, Ckx.row, q_n1, nB, kS2]
 ·have hin : i = 6 := by omega
  rw [hin] at hln hln' hq ⊢
  clear hi hlt hin
  clear i
  have g1 : decide (((6 : Nat) : Int) < 6) = false := rfl
  simp only [g1, go_sem]
  obtain ⟨r, hr⟩ : ∃ r, r = q := ⟨_, rfl⟩
  rw [← hr] at hq0 hq ⊢
  clear hr
  clear q
  have n17 : ((17 : Nat) : Int) = 17 := rfl
  have r0 : (r = 0) = False := by apply eq_false; omega
  have r5 : (r = 512) = False := by apply eq_false; omega
  obtain ⟨l9, hl9⟩ : ∃ l9, l9 = ls 6 := ⟨_, rfl⟩
  have gl := good 6
  rw [← hl9] at hln hln' gl ⊢
  refine loopK.intro _ _ (I := fun i : Nat => ⟨[none, none, none, none, none, none, none, none, none, none, none, none, none, none, none, none, none, none, none, none, none, none, none, none, none, none, none, none, none, none, none, none, none, none, none, none, none, none, none, none, none, none, none, none, none, none, none, none, none, none, none, none, none, none, none, none, none, none, none, none, none, none, none, none, none, none, none, none, none, none, none, none, some (.sl ⟨L + 1, r⟩ 0 17), some (.int .i64 17), some (.int .i64 ((i - 1000 : Nat) : Int)), none, none, none, none, none, none, none],
   [(⟨L + 1, r⟩, .rows 34 3 true true (l9.map Ckx.row))], 10000 * (i + 1)⟩)
   (pre := fun i => 1000 ≤ i ∧ i ≤ 1017) (μ := fun i => 1017 - i) 1000 ⟨by omega, by omega⟩ ?_ ?_
  ·refine Sub.of (hfz hF2) (by simp only [Nat.sub_self, go_sem, subT, and_self, Int.natCast_zero, n17]) ?_ (by simp [subK, keys]) (by simp)
   simp [subH, Tx.look, r0, r5]
  intro i ⟨hi0, hi⟩
  obtain ⟨k, hk9⟩ : ∃ k, k = i - 1000 := ⟨_, rfl⟩
  have hk1 : i + 1 - 1000 = k + 1 := by omega
  by_cases hlt : k < 17
  ·have g2 : decide ((k : Int) < 17) = true := dT (by omega)
   have r_0 : (r = 0) = False := by apply eq_false; omega
   have n0_r : (0 = r) = False := by apply eq_false; omega
   have r_512 : (r = 512) = False := by apply eq_false; omega
   have n512_r : (512 = r) = False := by apply eq_false; omega
   obtain ⟨r_n1, r_n2, r_n3, r_n4, r_n5⟩ := nqL L (i := i) (p := r) (by omega)
   clear r0 r5
   have r0 : (l9.map Ckx.row).getD k [] = (l9[k]'(by omega)).row := by simp [List.getD_eq_getElem?_getD, show k < l9.length by omega]
   have gk := gl (l9[k]'(by omega)) (List.getElem_mem _)
   obtain ⟨c9, hc9⟩ : ∃ c9, c9 = l9[k]'(by omega) := ⟨_, rfl⟩
   rw [← hc9] at r0 gk
   simp only [← hk9, g2, r0, Ckx.row, Int.toNat_natCast, r_n1, Nat.add_assoc, go_sem]
   repeat refine sd2 ?_
   refine CallVC.same (gets_ok c9 gk.l gk.f) ?_
   simp only [Nat.add_assoc, go_sem]
   repeat refine sd2 ?_
   refine ⟨i + 1, ⟨by omega, by omega⟩, by omega, ?_⟩
   refine Sub.of (hfz hF2) (by simp only [hk1, go_sem, subT, and_self, Int.natCast_succ]) ?_ (by simp [subK, keys]) (by simp only []; omega)
   simp [subH, Tx.look]
  ·have g2 : decide ((k : Int) < 17) = false := dF (by omega)
   simp only [← hk9, g2, Nat.add_assoc, go_sem]
   exact .bool (.inr rfl) rfl rfl (by simp [UpdAll])
end Go.Proofs.YtaacfnngodhecaaGreatDoor
end
section
namespace Go.Proofs.YtaacfnngodhecaaGreatDoor
open Go.ChangeShapes Go.WideShapes Go.ChangeAt Go.RowKit Go.Tx
set_option maxRecDepth 100000
theorem trodAll_five32 {P : Program} {H : Type} {enc : TypeId × Value → H} {w : World} {base : Nat} {spare : TypeId → Bool} {held : Bool} {t0 t1 t2 t3 t4 : TypeId} {args : Array Value} {ds : List (DataW H)} {ps : List MemPlace} (h : DataW.TrodAll enc P w base spare held [t0, t1, t2, t3, t4] args.toList ds ps) :
  ∃ v0 v1 v2 v3 v4 d0 d1 d2 d3 d4 p0 p1 p2 p3 p4, args = #[v0, v1, v2, v3, v4] ∧ ds = [d0, d1, d2, d3, d4] ∧ ps = p0 ++ p1 ++ p2 ++ p3 ++ p4 ∧ DataW.Trod enc P w base spare held t0 v0 d0 p0 ∧ DataW.Trod enc P w base spare held t1 v1 d1 p1 ∧ DataW.Trod enc P w base spare held t2 v2 d2 p2 ∧ DataW.Trod enc P w base spare held t3 v3 d3 p3 ∧ DataW.Trod enc P w base spare held t4 v4 d4 p4 := by
 obtain ⟨v0, vs0, d0, ds0, p0, q0, hargs, rfl, rfl, hd0, h⟩ := trodAll_cons h
 obtain ⟨v1, vs1, d1, ds1, p1, q1, rfl, rfl, rfl, hd1, h⟩ := trodAll_cons h
 obtain ⟨v2, vs2, d2, ds2, p2, q2, rfl, rfl, rfl, hd2, h⟩ := trodAll_cons h
 obtain ⟨v3, vs3, d3, ds3, p3, q3, rfl, rfl, rfl, hd3, h⟩ := trodAll_cons h
 obtain ⟨v4, vs4, d4, ds4, p4, q4, rfl, rfl, rfl, hd4, h⟩ := trodAll_cons h
 obtain ⟨rfl, rfl, rfl⟩ := trodAll_nil h
 exact ⟨v0, v1, v2, v3, v4, d0, d1, d2, d3, d4, p0, p1, p2, p3, p4, by cases args; simp_all, rfl, by simp, hd0, hd1, hd2, hd3, hd4⟩
theorem undChunk32 : ∃ fs, Tryz.prog.underlying 34 = some (.struct fs) := undS (by kernel_rfl)
theorem undEdit32 : ∃ fs, Tryz.prog.underlying 31 = some (.struct fs) := undS (by kernel_rfl)
theorem undU8_32 : Tryz.prog.underlying 5 = some (.int .u8) := by kernel_rfl
theorem wfI64 {n : Int} (h : (Lit.int .i64 n).wf = true) : -9223372036854775808 ≤ n ∧ n ≤ 9223372036854775807 := by
 simpa [Lit.wf, IntKind.min, IntKind.max, IntKind.signed, IntKind.bits] using h
theorem shpChunk32 {n : Nat} {xs : List PV} (h : Shp tys (n + 4) 34 xs) : ∃ c : Ckx, xs = c.row ∧ c.bd.length ≤ maxLen ∧ (-9223372036854775808 ≤ c.fl ∧ c.fl ≤ 9223372036854775807) := by
 have h := Shp.struct g34 h
 simp only [List.foldr] at h
 obtain ⟨_, _, rfl, h1, _, _, rfl, h2, _, _, rfl, h3, rfl⟩ := h
 obtain ⟨a1, rfl, _⟩ := Shp.int g3 h1
 obtain ⟨a2, rfl, w2⟩ := Shp.int g3 h2
 obtain ⟨s3, rfl, l3⟩ := Shp.str g9 h3
 exact ⟨⟨a1, a2, s3⟩, rfl, l3, wfI64 w2⟩
theorem shpEdit32 {n : Nat} {xs : List PV} (h : Shp tys (n + 4) 31 xs) : ∃ e : Edx, xs = e.row ∧ e.Ok := by
 have h := Shp.struct g31 h
 simp only [List.foldr] at h
 obtain ⟨_, _, rfl, h1, _, _, rfl, h2, _, _, rfl, h3, rfl⟩ := h
 obtain ⟨_, rfl, w1⟩ := Shp.int g25 h1
 obtain ⟨_, rfl, w2⟩ := Shp.int g5 h2
 obtain ⟨s3, rfl, l3⟩ := Shp.str g9 h3
 obtain ⟨a1, rfl, b1⟩ := wf16 w1
 obtain ⟨a2, rfl, b2⟩ := wf8 w2
 exact ⟨⟨a1, a2, s3⟩, rfl, b1, b2, l3⟩
end Go.Proofs.YtaacfnngodhecaaGreatDoor
end
section
namespace Go.Proofs.YtaacfnngodhecaaGreatDoor
open Go.Tx
theorem dat_ok_len {d : Dat} (h : d.ok = true) : d.pl.length ≤ 1100 := by
 unfold Dat.ok at h
 simp only [Bool.and_eq_true, decide_eq_true_eq] at h
 omega
theorem ini_ok_len {d : Ini} (h : d.ok = true) : d.ck.length ≤ 200 := by
 unfold Ini.ok at h
 simp only [Bool.and_eq_true, decide_eq_true_eq] at h
 omega
theorem rst_len {k n la r : Int} {xs : List Int} (h : resetV k n la r xs = true) : (resetB k n la r xs).length ≤ 100 := by
 obtain ⟨_, _, _, _, h4⟩ := rstB h
 have hx : xs.length ≤ 30 := by rcases h4 with ⟨_, _, h4⟩ | ⟨_, _, _, h4⟩ <;> simp_all
 rw [resetB_len]
 split <;> omega
theorem Pcx.chk_other (p : Pcx) : (p.pl.take 60).length ≤ 1112 ∧ ((0 : Int) ≤ ((p.a % 2 : Nat) : Int) ∧ ((p.a % 2 : Nat) : Int) ≤ 255) ∧ ((0 : Int) ≤ ((kds.getD (p.w / 8 % 8) 0 : Nat) : Int) ∧ ((kds.getD (p.w / 8 % 8) 0 : Nat) : Int) ≤ 255) := by
 refine ⟨by rw [List.length_take]; omega, by omega, ?_⟩
 have hx : p.w / 8 % 8 < 8 := Nat.mod_lt _ (by omega)
 obtain ⟨x, hx9⟩ : ∃ x, x = p.w / 8 % 8 := ⟨_, rfl⟩
 rw [← hx9] at hx ⊢
 rcases (show x = 0 ∨ x = 1 ∨ x = 2 ∨ x = 3 ∨ x = 4 ∨ x = 5 ∨ x = 6 ∨ x = 7 by omega) with rfl | rfl | rfl | rfl | rfl | rfl | rfl | rfl <;> decide
theorem Pcx.chk_small {p : Pcx} (hp : p.Ok) : p.chk.bd.length ≤ 1112 ∧ (0 ≤ p.chk.fl ∧ p.chk.fl ≤ 255) ∧ (0 ≤ p.chk.kd ∧ p.chk.kd ≤ 255) := by
 have h1 := dat_ok_len hp.dat
 have h3 := ini_ok_len (hp.ini p.m8)
 have h2 := sackB hp.sck
 have h4 := fwdB hp.fwd
 have h5 := rst_len hp.rst
 have f1 := flD_ran p.dat.la p.dat.fi p.dat.lo
 obtain ⟨m, hm⟩ : ∃ m, m = p.w % 8 := ⟨_, rfl⟩
 have hm8 : m < 8 := by rw [hm]; exact Nat.mod_lt _ (by omega)
 unfold Pcx.chk
 rw [← hm]
 have s1 : ∀ (k : Int) (b : List UInt8), b.length ≤ 1112 → 0 ≤ k ∧ k ≤ 255 → b.length ≤ 1112 ∧ ((0 : Int) ≤ 0 ∧ (0 : Int) ≤ 255) ∧ (0 ≤ k ∧ k ≤ 255) := fun k b h h' => ⟨h, by omega, h'⟩
 have s2 : (dataB p.dat).length ≤ 1112 := by rw [dataB_len]; omega
 rcases (show m = 6 ∨ m = 7 ∨ m = 0 ∨ m = 1 ∨ m = 2 ∨ m = 3 ∨ m = 4 ∨ m = 5 by omega) with rfl | rfl | rfl | rfl | rfl | rfl | rfl | rfl
 ·exact Pcx.chk_other p
 ·exact Pcx.chk_other p
 ·exact ⟨s2, ⟨f1.1, by have := f1.2; show flD _ _ _ 3 ≤ 255; omega⟩, by show (0 : Int) ≤ 0 ∧ (0 : Int) ≤ 255; omega⟩
 ·exact ⟨s2, ⟨f1.1, by have := f1.2; show flD _ _ _ 3 ≤ 255; omega⟩, by show (0 : Int) ≤ 0 ∧ (0 : Int) ≤ 255; omega⟩
 ·exact s1 3 (sackO p.a p.b ((p.gp p.n).map kN) ((p.db (p.c % 6)).map fun x : Nat => (x : Int))) (by rw [sackO_len]; omega) (by omega)
 ·exact s1 (iniK (p.ini p.m8).ck) (p.ini p.m8).oct (by rw [ini_oct_len]; omega) (by unfold iniK; split <;> omega)
 ·exact s1 192 (fwdT p.a (p.sk p.n)) (by rw [fwdT_len]; simp only [List.length_map] at h4; omega) (by omega)
 ·exact s1 130 (resetB p.rst.kind p.rst.num p.rst.last p.rst.res p.rst.xs) (by omega) (by omega)
end Go.Proofs.YtaacfnngodhecaaGreatDoor
end
