/- Lemmas for the walk: GK102, GD43, GD44, GK130, GD45, U47, GD49, GK108, U49. -/
import Derived.Test.YtifhjhbfhdcahaaGreatP19
import Derived.Test.YtifhjhbfhdcahaaGreatP17
import Derived.Test.YtifhjhbfhdcahaaGreatP12
set_option linter.all false
section
namespace Go.Proofs.YtifhjhbfhdcahaaGreat
open Go.Tx
set_option maxRecDepth 100000
set_option maxHeartbeats 16000000
def zHn (fr tt : Int) (sec : List UInt8) (own : Ini) : Gx := ⟨1, fr, tt, sec, own, zIni, [], 0, -1, 0⟩
theorem zJE {F : SF} {L nx : Nat} (fr tt : Int) (sec : List UInt8) (own : Ini) :
  Con Tryz.prog 29 [.int .i64 fr, .int .i64 tt, .str sec, .agg own.row] F L nx nx (if (zHn fr tt sec own).ok then .tup [.agg (zHn fr tt sec own).row, .int .i64 0] else .tup [.agg zGx.row, .int .i64 2]) [] [] := by
 have hC := fun F L nx => zCB (F := F) (L := L) (nx := nx) (zHn fr tt sec own)
 have e330 : ((330 : Int) != 0) = true := rfl;have e0 : ((0 : Int) != 0) = false := rfl;cases hok : (zHn fr tt sec own).ok
 ·rw [hok, if_neg (by simp)] at hC;rw [if_neg (by simp)];simp only [zHn, Gx.row, Ini.row, zGx, zIni] at hC ⊢;refine bdy Tryz.f29 ?_;intro F3 hF1 hF2;simp only [Tryz.f29, go_sem];repeat refine sd2 ?_
  refine CallVC.same (hC _ _ _) ?_;simp only [e330, go_sem];repeat refine sd2 ?_
  exact ps0
 ·rw [hok, if_pos rfl] at hC;rw [if_pos rfl];simp only [zHn, Gx.row, Ini.row, zIni] at hC ⊢;refine bdy Tryz.f29 ?_;intro F3 hF1 hF2;simp only [Tryz.f29, go_sem];repeat refine sd2 ?_
  refine CallVC.same (hC _ _ _) ?_;simp only [e0, go_sem];repeat refine sd2 ?_
  exact ps0
def zEg (second : Bool) (n : Nat) : Gx :=
 ⟨1, if second then 2 else 1, if second then 1 else 2, List.replicate 32 (if second then 98 else 97), ⟨if second then 70000 + (n : Int) else 1 + (n : Int), 1000 + (n : Int), 1 + ((n % 9 : Nat) : Int), 1 + ((n / 9 % 9 : Nat) : Int), 65536 * (n : Int), []⟩, zIni, [], 0, -1, 0⟩
def sdB (c : UInt8) (i : Nat) : List UInt8 := List.replicate i c ++ List.replicate (32 - i) 0
theorem zPA (c : UInt8) {i : Nat} (h : i ≤ 32) : (sdB c i).length = 32 := by simp [sdB]; omega
theorem zMQ (c d : UInt8) {i : Nat} (h : i < 32) : ((sdB c i).set i d).set i c = sdB c (i + 1) := by
 rw [List.set_set];unfold sdB;rw [List.set_append_right _ _ (by simp), List.length_replicate, Nat.sub_self, show 32 - i = (32 - (i + 1)) + 1 by omega, List.replicate_succ, List.set_cons_zero, List.replicate_succ' (n := i), vR];rfl
theorem zNk (c : UInt8) {i : Nat} (h : i < 32) : (sdB c i).set i c = sdB c (i + 1) := by
 have := zMQ c c h
 rwa [List.set_set] at this
theorem zGS (l : List UInt8) (i : Nat) : List.drop 1 ((l.map zBd).getD i []) = [] := by
 rw [zG, zS];cases l[i]? <;> rfl
theorem zQy {n : Nat} (h : n < 2 ^ 62) : IntKind.i64.wrap (n : Int) = n := by simp [IntKind.wrap, IntKind.signed, IntKind.bits]; omega
theorem zJw {F : SF} {L nx : Nat} (second : Bool) (n : Nat) (hn : n < 65536) : Con Tryz.prog 40 [.bool second, .int .u16 n] F L nx nx (.agg (zEg second n).row) [] [] := by
 have wn := zQy (n := n) (by omega);have d9 : (n : Int).tmod 9 = ((n % 9 : Nat) : Int) := by rw [qC (by omega)]; rfl
 have q9 : (n : Int).tdiv 9 = ((n / 9 : Nat) : Int) := by rw [Int.tdiv_eq_ediv_of_nonneg (by omega)]; rfl
 have e9 : ((n / 9 : Nat) : Int).tmod 9 = ((n / 9 % 9 : Nat) : Int) := by rw [qC (by omega)]; rfl
 have u9 : IntKind.u16.wrap ((n / 9 : Nat) : Int) = ((n / 9 : Nat) : Int) := by simp [IntKind.wrap, IntKind.signed, IntKind.bits]; omega
 have v9 := zQy (n := n % 9) (by omega);have w9 := zQy (n := n / 9 % 9) (by omega);refine zSm (zCQ (L + 1)) rfl rfl (fn := Tryz.f40) (c := Tryz.f40.body.getD .skip) (by kernel_rfl) (by rfl) (by kernel_rfl) rfl (by simp) ?_;intro F3 hF1 hF2;refine vcu ⟨[some (.bool second), some (.int .u16 n), none, none, some (.ptr ⟨L + 1, 0⟩ 0 0)] ++ oz 48, [(⟨L + 1, 0⟩, .rows 28 20 true true [zGx.row])], 10000⟩ ?_ ?_
 ·simp only [Tryz.f40, go_sem];repeat refine sd2 ?_
  refine ⟨(), (so0 hF2 (h2 := by simp [zA7, Tx.look, zGx, Gx.row, zIni]))⟩
 refine vcu ⟨[some (.bool second), some (.int .u16 n), none, none, some (.ptr ⟨L + 1, 0⟩ 0 0), some (.sl ⟨L + 1, 10000⟩ 0 32)] ++ oz 47, [(⟨L + 1, 0⟩, .rows 28 20 true true [zGx.row]), (⟨L + 1, 10000⟩, .rows 5 1 true true ((sdB 0 0).map zBd))], 20000⟩ ?_ ?_
 ·simp only [Tryz.f40, go_sem];repeat refine sd2 ?_
  refine ⟨(), (so0 hF2 (h2 := by simp [zA7, Tx.look, sdB, List.replicate, zBd]))⟩
 obtain ⟨c, hc⟩ : ∃ c : UInt8, c = if second then 98 else 97 := ⟨_, rfl⟩
 have hz0 : sdB 0 0 = sdB c 0 := by simp [sdB]
 rw [hz0];refine vcu ⟨[some (.bool second), some (.int .u16 n), none, none, some (.ptr ⟨L + 1, 0⟩ 0 0), some (.sl ⟨L + 1, 10000⟩ 0 32)] ++ oz 47, [(⟨L + 1, 0⟩, .rows 28 20 true true [zGx.row]), (⟨L + 1, 10000⟩, .rows 5 1 true true ((sdB c 32).map zBd))], 10000000⟩ ?_ ?_
 ·simp only [Tryz.f40, go_sem];repeat refine sd2 ?_
  refine loopK.intro _ _ (I := fun i : Nat => ⟨[some (.bool second), some (.int .u16 n), none, none, some (.ptr ⟨L + 1, 0⟩ 0 0), some (.sl ⟨L + 1, 10000⟩ 0 32), some (.int .i64 i)] ++ oz 46, [(⟨L + 1, 0⟩, .rows 28 20 true true [zGx.row]), (⟨L + 1, 10000⟩, .rows 5 1 true true ((sdB c i).map zBd))], 10000 * (i + 3)⟩) (pre := fun i => i ≤ 32) (μ := fun i => 32 - i) 0 (by omega) ?_ ?_
  ·refine Sub.of (hfz hF2) (by simp only [go_sem, zBF, and_self, wM]; try trivial) ?_ (by simp [zBL, keys]) (by simp);simp [zA7, Tx.look]
  intro i hi;have hl := zPA c hi;have hml : ((sdB c i).map zBd).length = 32 := by rw [zL, hl]
  by_cases hlt : i < 32
  ·have g1 : decide ((i : Int) < 32) = true := dT (by omega);cases second with
   | false =>
    rw [if_neg (by simp)] at hc;have s1 := zFh (sdB c i) i c;rw [zNk c hlt] at s1;have c97 : ((c.toNat : Nat) : Int) = 97 := by rw [hc]; rfl
    rw [c97] at s1;have gd := zGS (sdB c i) i;simp only [g1, s1, gd, hml, zI, go_sem];repeat refine sd2 ?_
    refine ⟨i + 1, by omega, by omega, ?_⟩;refine Sub.of (hfz hF2) (by simp only [go_sem, zBF, and_self, wJ]; try trivial) ?_ (by simp [zBL, keys]) (by simp only []; omega);simp only [zA7, Tx.look, zKH, if_true, if_false, and_true, Nat.reduceEqDiff]
   | true =>
    rw [if_pos rfl] at hc;have s0 := zFh (sdB c i) i 97;have s1 := zFh ((sdB c i).set i 97) i c;rw [zMQ c 97 hlt] at s1;have c98 : ((c.toNat : Nat) : Int) = 98 := by rw [hc]; rfl
    have c97 : (((97 : UInt8).toNat : Nat) : Int) = 97 := rfl;rw [c98] at s1;rw [c97] at s0;have hml2 : (((sdB c i).set i 97).map zBd).length = 32 := by rw [zL, List.length_set, hl]
    have gd := zGS (sdB c i) i;have gd2 := zGS ((sdB c i).set i 97) i;simp only [g1, s0, s1, gd, gd2, hml, hml2, zI, go_sem];repeat refine sd2 ?_
    refine ⟨i + 1, by omega, by omega, ?_⟩;refine Sub.of (hfz hF2) (by simp only [go_sem, zBF, and_self, wJ]; try trivial) ?_ (by simp [zBL, keys]) (by simp only []; omega);simp only [zA7, Tx.look, zKH, if_true, if_false, and_true, Nat.reduceEqDiff]
  ·obtain rfl : i = 32 := by omega
   have g1 : decide (((32 : Nat) : Int) < 32) = false := dF (by omega);have g1' : decide ((32 : Int) < 32) = false := dF (by omega);simp only [g1, go_sem];repeat refine sd2 ?_
   refine ⟨(), (so0 hF2)⟩
 have hs32 : sdB c 32 = List.replicate 32 c := by simp [sdB]
 rw [hs32];obtain ⟨S, hS⟩ : ∃ S, S = List.replicate 32 c := ⟨_, rfl⟩;rw [← hS];have hSl : S.length = 32 := by rw [hS]; simp
 have hrb := zBV S;have htk : List.take 32 (S.map zBd) = S.map zBd := zU (by simp [hSl]);have hlm : (S.map zBd).length = 32 := by simp [hSl]
 have hib := zEd S;refine VT.of (zCQ (L + 1)) ?_;cases second with
 | false =>
  have hgS : zEg false n = ⟨1, 1, 2, S, ⟨1 + (n : Int), 1000 + (n : Int), 1 + ((n % 9 : Nat) : Int), 1 + ((n / 9 % 9 : Nat) : Int), 65536 * (n : Int), []⟩, zIni, [], 0, -1, 0⟩ := by rw [hS, hc]; rfl
  rw [hgS];simp only [Tryz.f40, wn, d9, q9, e9, u9, v9, w9, hrb, htk, hlm, zGx, Gx.row, zIni, go_sem];repeat refine sd2 ?_
  exact ps0
 | true =>
  have hgS : zEg true n = ⟨1, 2, 1, S, ⟨70000 + (n : Int), 1000 + (n : Int), 1 + ((n % 9 : Nat) : Int), 1 + ((n / 9 % 9 : Nat) : Int), 65536 * (n : Int), []⟩, zIni, [], 0, -1, 0⟩ := by rw [hS, hc]; rfl
  rw [hgS];simp only [Tryz.f40, wn, d9, q9, e9, u9, v9, w9, hrb, htk, hlm, zGx, Gx.row, zIni, go_sem];repeat refine sd2 ?_
  exact ps0
theorem zKe {F : SF} {L nx : Nat} (n : Nat) (hn : n < 65536) : Con Tryz.prog 16 [.agg [.nilS, .nilS], .int .u16 n, .bool false, .nilS] F L nx nx (.agg ((Tk.mk (zEg false n) (zEg true (n / 2)) [] [] 0).row .nilS .nilS)) [] [] := by
 have s0 := fun F L nx => zJw (F := F) (L := L) (nx := nx) false n hn
 have s1 := fun F L nx => zJw (F := F) (L := L) (nx := nx) true (n / 2) (by omega)
 have q2 : (n : Int).tdiv 2 = ((n / 2 : Nat) : Int) := by rw [Int.tdiv_eq_ediv_of_nonneg (by omega)]; rfl
 have u2 : IntKind.u16.wrap ((n / 2 : Nat) : Int) = ((n / 2 : Nat) : Int) := by simp [IntKind.wrap, IntKind.signed, IntKind.bits]; omega
 obtain ⟨a, ha⟩ : ∃ a, a = zEg false n := ⟨_, rfl⟩;obtain ⟨b, hb⟩ : ∃ b, b = zEg true (n / 2) := ⟨_, rfl⟩;simp only [← ha, ← hb, Gx.row] at s0 s1;rw [← ha, ← hb];simp only [Tk.row];have g0 : decide ((0 : Int) < 0) = false := rfl;refine bdy Tryz.f16 ?_;intro F3 hF1 hF2;simp only [Tryz.f16, go_sem];repeat refine sd2 ?_
 refine CallVC.same (s0 _ _ _) ?_;simp only [q2, u2, go_sem];repeat refine sd2 ?_
 refine CallVC.same (s1 _ _ _) ?_;simp only [go_sem];repeat refine sd2 ?_
 refine zSy ?_;simp only [g0, go_sem];repeat refine sd2 ?_
 exact ps0
def zPB (n : Nat) : Tk := ⟨zEg false n, zEg true (n / 2), [], [], 0⟩
theorem zMR {F : SF} {L nx : Nat} (n : Nat) (hn : n < 65536) : Con Tryz.prog 11 [.int .u16 n] F L nx nx (.agg ((zPB n).row .nilS .nilS)) [] [] := by
 have s0 := fun F L nx => zKe (F := F) (L := L) (nx := nx) n hn
 unfold zPB;obtain ⟨a, ha⟩ : ∃ a, a = zEg false n := ⟨_, rfl⟩;obtain ⟨b, hb⟩ : ∃ b, b = zEg true (n / 2) := ⟨_, rfl⟩;rw [← ha, ← hb] at s0 ⊢;simp only [Tk.row] at s0 ⊢;refine bdy Tryz.f11 ?_;intro F3 hF1 hF2;simp only [Tryz.f11, go_sem];repeat refine sd2 ?_
 refine CallVC.same (s0 _ _ _) ?_;simp only [go_sem];repeat refine sd2 ?_
 exact ps0
theorem zE8 {g : Gx} {now : Int} {p : Pkx} (hg : g.ok = true) (ht : zGU now = true) (hta : g.ta ≤ now) (hp : p.ok = true) : zAa g now 5 p = ((zFX { g with ta := now } now p).1, (zFX { g with ta := now } now p).2, 0) := by
 unfold zAa gEv;rw [if_neg (by simp [hg]), if_neg (by simp [ht]; omega), if_neg (by simp [hp])];rfl
theorem zPC {g : Gx} {now : Int} {p : Pkx} (hg : g.ok = true) (ht : zGU now = true) (hta : g.ta ≤ now) : zAa g now 4 p = ((zDv { g with ta := now } now).1, (zDv { g with ta := now } now).2, 0) := by
 unfold zAa gEv;rw [if_neg (by simp [hg]), if_neg (by simp [ht]; omega), if_neg (by simp)];rfl
theorem recv_kind {g : Gx} {now : Int} {tg : Int} {c : Ckx} : zFX g now ⟨g.tt, g.fr, tg, [c]⟩ = zAp g now tg c := by
 unfold zFX;rw [if_pos ⟨rfl, rfl⟩];rfl
theorem zMS {g : Gx} {now : Int} {d : Ini} (hd : zAe d = true) (hst : g.st ≤ 3) : zAp g now 0 ⟨1, 0, d.oct⟩ = (g, zBX g d.tag ⟨2, 0, Ini.oct { g.own with ck := ckS g d.oct now }⟩) := by
 obtain ⟨i1, i2⟩ := zIM hd;unfold zAp zEb;rw [if_pos rfl, if_pos ⟨i1, rfl, hst⟩, i2]
theorem zKf {g : Gx} {now : Int} {d : Ini} (hd : d.ok = true) (hc : d.ck ≠ []) (hst : g.st = 2) : zAp g now g.own.tag ⟨2, 0, d.oct⟩ = ({ zAL g 3 now with ck := d.ck, peer := { d with ck := [] } }, zBX g d.tag ⟨10, 0, d.ck⟩) := by
 obtain ⟨i1, i2⟩ := zMO hd hc;unfold zAp zEc;rw [if_neg (by simp), if_neg (by simp), if_pos rfl, if_pos ⟨i1, hst⟩, i2];rfl
theorem zMT {g : Gx} {now : Int} {b : List UInt8} : zAp g now g.own.tag ⟨10, 0, b⟩ = zE3 g now b := by
 unfold zAp;rw [if_neg (by simp), if_neg (by simp), if_neg (by simp), if_pos rfl]
theorem zNl {g : Gx} {now : Int} (hst : g.st = 3) : zAp g now g.own.tag ⟨11, 0, []⟩ = (zAj g 4, []) := by
 unfold zAp;rw [if_neg (by simp), if_neg (by simp), if_neg (by simp), if_neg (by simp), if_pos rfl, if_pos hst]
def exA : Ini := ⟨11, 1000, 1, 1, 5, []⟩
def exB : Ini := ⟨22, 1000, 1, 1, 7, []⟩
def exG (second : Bool) : Gx := if second then zHn 2 1 (List.replicate 32 98) exB else zHn 1 2 (List.replicate 32 97) exA
def pk0 : Pkx := ⟨0, 0, 0, []⟩
structure ExRun (a1 a2 a3 a4 : Gx) (p1 p2 p3 p5 pl q2 q3 : Pkx) (b1 a5 bl b5 a6 : Gx) (c2 c3 c5 cl : Ckx) : Prop where
 s1 : zAa (exG false) 0 1 pk0 = (a1, [p1], 0)
 a1s : a1.st = 2
 a1d : a1.due = 400
 p1t : p1.tg = 0
 f1 : zAa a1 399 4 pk0 = (a2, [], 0)
 a2d : a2.due = 400
 f2 : zAa a2 400 4 pk0 = (a3, [q2], 0)
 a3d : a3.due = 1200
 f3 : zAa a3 1200 4 pk0 = (a4, [q3], 0)
 a4d : a4.due = 2800
 s2 : zAa (exG true) 10 5 p1 = (b1, [p2], 0)
 b1s : b1.st = 1
 p2t : p2.tg = 11
 p2c : p2.cs = [c2]
 c2k : c2.kd = 2
 s3 : zAa a1 20 5 p2 = (a5, [p3], 0)
 a5s : a5.st = 3
 p3t : p3.tg = 22
 p3c : p3.cs = [c3]
 c3k : c3.kd = 10
 sl : zAa b1 60011 5 p3 = (bl, [pl], 0)
 bls : bl.st = 1
 plt : pl.tg = 11
 plc : pl.cs = [cl]
 clk : cl.kd = 6
 s4 : zAa b1 30 5 p3 = (b5, [p5], 0)
 b5s : b5.st = 4
 p5c : p5.cs = [c5]
 c5k : c5.kd = 11
 s5 : zAa a5 40 5 p5 = (a6, [], 0)
 a6s : a6.st = 4
 e1 : zAa a4 1200 2 pk0 = (zGx, [], 8)
 e2 : zAa a4 1200 1 pk0 = (zGx, [], 8)
theorem zQz : ∃ a1 a2 a3 a4 p1 p2 p3 p5 pl q2 q3 b1 a5 bl b5 a6 c2 c3 c5 cl, ExRun a1 a2 a3 a4 p1 p2 p3 p5 pl q2 q3 b1 a5 bl b5 a6 c2 c3 c5 cl := by
 have s1 : zAa (exG false) 0 1 pk0 = (zAL (exG false) 2 0, [⟨1, 2, 0, [⟨1, 0, exA.oct⟩]⟩], 0) := by kernel_rfl
 have G1 := zAl s1;have P1 := (G1.pk _ (List.mem_singleton.2 rfl)).1;have B0 : (exG true).ok = true := by kernel_rfl
 have hA : zAe exA = true := by kernel_rfl
 have hB : zAe exB = true := by kernel_rfl
 have s2 := zE8 B0 (now := 10) (by kernel_rfl) (by decide) P1;rw [show (⟨1, 2, 0, [⟨1, 0, exA.oct⟩]⟩ : Pkx) = ⟨({ exG true with ta := 10 } : Gx).tt, ({ exG true with ta := 10 } : Gx).fr, 0, [⟨1, 0, exA.oct⟩]⟩ from rfl, recv_kind, zMS hA (by decide)] at s2;obtain ⟨C, hC⟩ : ∃ C, C = ckS { exG true with ta := 10 } exA.oct 10 := ⟨_, rfl⟩;have hC2 := hC;rw [← hC] at s2;have hCl : C.length = 62 := by rw [hC]; exact (zJu _ hA (by decide)).1
 have G2 := zAl s2;have P2 := (G2.pk _ (List.mem_singleton.2 rfl)).1;have G2o := G2.ok;have dok : ({ exB with ck := C } : Ini).ok = true := by
  have : exB.ok = true := by kernel_rfl
  unfold Ini.ok at this ⊢;simp [hCl, exB, zBM]
 have hCn : ({ exB with ck := C } : Ini).ck ≠ [] := by intro h; rw [show ({ exB with ck := C } : Ini).ck = C from rfl] at h; rw [h] at hCl; simp at hCl
 have r3 := recv_kind.trans (zKf (g := { zAL (exG false) 2 0 with ta := 20 }) (now := 20) dok hCn rfl);have e3 : zFX { zAL (exG false) 2 0 with ta := 20 } 20 ⟨2, 1, 11, [⟨2, 0, Ini.oct { exB with ck := C }⟩]⟩ = ({ zAL { zAL (exG false) 2 0 with ta := 20 } 3 20 with ck := C, peer := exB }, [⟨1, 2, 22, [⟨10, 0, C⟩]⟩]) := r3;rw [show (zBX { exG true with ta := 10 } exA.tag ⟨2, 0, Ini.oct { ({ exG true with ta := 10 } : Gx).own with ck := C }⟩) = [⟨2, 1, 11, [⟨2, 0, Ini.oct { exB with ck := C }⟩]⟩] from rfl] at s2;have s3' : zAa (zAL (exG false) 2 0) 20 5 ⟨2, 1, 11, [⟨2, 0, Ini.oct { exB with ck := C }⟩]⟩ = ({ zAL { zAL (exG false) 2 0 with ta := 20 } 3 20 with ck := C, peer := exB }, [⟨1, 2, 22, [⟨10, 0, C⟩]⟩], 0) := by
  exact (zE8 G1.ok (now := 20) (by kernel_rfl) (by rw [G1.ta]; decide) P2).trans (congrArg (fun r : Gx × List Pkx => (r.1, r.2, (0 : Int))) e3)
 have G3 := zAl s3';have P3 := (G3.pk _ (List.mem_singleton.2 rfl)).1;have bta : ({ exG true with ta := 10 } : Gx).ta = 10 := rfl;have rb : ∀ now : Int, zFX { ({ exG true with ta := 10 } : Gx) with ta := now } now ⟨1, 2, 22, [⟨10, 0, C⟩]⟩ = zE3 { exG true with ta := now } now (ckS { exG true with ta := now } exA.oct 10) := by
  intro now;have h := (recv_kind (g := { exG true with ta := now }) (now := now) (tg := 22) (c := ⟨10, 0, C⟩)).trans (zMT (g := { exG true with ta := now }) (now := now) (b := C));rw [show ckS { exG true with ta := now } exA.oct 10 = C from (zMP rfl rfl rfl rfl _ _).trans hC2.symm];exact h
 have el := zJv { exG true with ta := 60011 } hA (t := 10) (by decide) 60011;rw [if_pos ⟨by decide, by decide⟩] at el;have e4 := zJv { exG true with ta := 30 } hA (t := 10) (by decide) 30;rw [if_neg (by decide), if_pos (by decide)] at e4;have sl : zAa { exG true with ta := 10 } 60011 5 ⟨1, 2, 22, [⟨10, 0, C⟩]⟩ = ({ exG true with ta := 60011 }, [⟨2, 1, 11, [⟨6, 0, []⟩]⟩], 0) := by
  exact (zE8 G2o (by kernel_rfl) (show (10 : Int) ≤ 60011 by decide) P3).trans <| congrArg (fun r : Gx × List Pkx => (r.1, r.2, (0 : Int))) ((rb 60011).trans el)
 have s4 : zAa { exG true with ta := 10 } 30 5 ⟨1, 2, 22, [⟨10, 0, C⟩]⟩ = ({ zAj { exG true with ta := 30 } 4 with peer := exA }, [⟨2, 1, 11, [⟨11, 0, []⟩]⟩], 0) := by
  exact (zE8 G2o (by kernel_rfl) (show (10 : Int) ≤ 30 by decide) P3).trans <| congrArg (fun r : Gx × List Pkx => (r.1, r.2, (0 : Int))) ((rb 30).trans e4)
 have P4 := ((zAl s4).pk _ (List.mem_singleton.2 rfl)).1;have s5 : zAa { zAL { zAL (exG false) 2 0 with ta := 20 } 3 20 with ck := C, peer := exB } 40 5 ⟨2, 1, 11, [⟨11, 0, []⟩]⟩ = (zAj { ({ zAL { zAL (exG false) 2 0 with ta := 20 } 3 20 with ck := C, peer := exB } : Gx) with ta := 40 } 4, [], 0) := by
  exact (zE8 G3.ok (by kernel_rfl) (show (20 : Int) ≤ 40 by decide) P4).trans <| congrArg (fun r : Gx × List Pkx => (r.1, r.2, (0 : Int))) ((recv_kind (g := { ({ zAL { zAL (exG false) 2 0 with ta := 20 } 3 20 with ck := C, peer := exB } : Gx) with ta := 40 })).trans (zNl rfl))
 exact ⟨_, { zAL (exG false) 2 0 with ta := 399 }, ⟨2, 1, 2, List.replicate 32 97, exA, zIni, [], 400, 1200, 2⟩, ⟨2, 1, 2, List.replicate 32 97, exA, zIni, [], 1200, 2800, 3⟩, _, _, _, _, _, ⟨1, 2, 0, [⟨1, 0, exA.oct⟩]⟩, ⟨1, 2, 0, [⟨1, 0, exA.oct⟩]⟩, _, _, _, _, _, _, _, _, _,
  { s1 := s1, a1s := rfl, a1d := rfl, p1t := rfl, f1 := by kernel_rfl, a2d := rfl, f2 := by kernel_rfl, a3d := rfl, f3 := by kernel_rfl, a4d := rfl, s2 := s2, b1s := rfl, p2t := rfl, p2c := rfl, c2k := rfl, s3 := s3', a5s := rfl, p3t := rfl, p3c := rfl, c3k := rfl, sl := sl, bls := rfl, plt := rfl, plc := rfl, clk := rfl, s4 := s4, b5s := rfl, p5c := rfl, c5k := rfl, s5 := s5, a6s := rfl, e1 := by kernel_rfl, e2 := by kernel_rfl }⟩
def zGg (w : Nat) (n : Int) (s : List UInt8) (g : Gx) : Gx :=
 if w % 12 = 0 then { g with st := n } else if w % 12 = 1 then { g with fr := n } else if w % 12 = 2 then { g with tt := n }
 else if w % 12 = 3 then { g with sec := s.take (min s.length 40) } else if w % 12 = 4 then { g with own := { g.own with tag := n } }
 else if w % 12 = 5 then { g with peer := { g.peer with tag := n } } else if w % 12 = 6 then { g with ck := s.take (min s.length 40) }
 else if w % 12 = 7 then { g with ta := n } else if w % 12 = 8 then { g with due := n } else if w % 12 = 9 then { g with tr := n }
 else if w % 12 = 10 then { g with peer := g.own } else { g with peer := zIni }
theorem zPD {F : SF} {L nx : Nat} (e : Int) : Con Tryz.prog 25 [.agg zGx.row, .nilS, .int .i64 e, .int .i64 e] F L nx nx (.bool true) [] [] := by
 have e1 : (e == e) = true := by simp
 refine bdy Tryz.f25 ?_;intro F3 hF1 hF2;simp only [Tryz.f25, Gx.row, zGx, zIni, e1, go_sem];exact .bool (.inr rfl) rfl rfl (by simp [UpdAll])
theorem zJF {F : SF} {L nx : Nat} {g : Gx} {now kind : Int} {h : Gx} {o : List Pkx} {e : Int} (hs : zAa g now kind pk0 = (h, o, e)) (ho : o.length ≤ 1) : Con Tryz.prog 26 [.agg g.row, .int .i64 now, .int .i64 kind] F L nx nx (.tup [.agg h.row, zAr o, .int .i64 e]) [] [] := by
 have hS := fun F L nx => zDD (F := F) (L := L) (nx := nx) hs (by simp [pk0]) (by simp [pk0])
 have hoo : o = [] ∨ ∃ x, o = [x] := by
  cases o with
  | nil => exact .inl rfl
  | cons x l => cases l with
   | nil => exact .inr ⟨x, rfl⟩
   | cons y l => simp at ho
 have e0 : ((0 : Int) == 0) = true := rfl;simp only [Gx.row] at hS ⊢;refine bdy Tryz.f26 ?_;intro F3 hF1 hF2;simp only [Tryz.f26, go_sem];repeat refine sd2 ?_
 refine zSb (args2 := [.agg g.row, .int .i64 now, .agg (.int .i64 kind :: pk0.row)]) (by simp [pk0, Pkx.row, Gx.row, WkL, Wk]) (by simp [zAw, wkN, pk0, Pkx.row, Gx.row]) (hS _ _ _) ?_;rcases hoo with rfl | ⟨x, rfl⟩
 ·simp only [zAr, go_sem];repeat refine sd2 ?_
  exact ps0
 ·have onf := zJC [x];simp only [zFi] at onf;simp only [zFi, go_sem];repeat refine sd2 ?_
  exact ps0 (hf := by simp [Tx.nf, nfl, Bool.and_self])
theorem zCb {F : SF} {L nx : Nat} (q4 q3 : Nm) (h4 : q4.l ≤ L) (h3 : q3.l ≤ L) (o4 p4 o3 p3 : Bool) (hF4 : F q4 = some (.rows 82 1 o4 p4 [[.fn (.func 26) [] []]])) (hF3 : F q3 = some (.rows 81 1 o3 p3 [[.fn (.func 25) [] []]]))
  {g : Gx} {now kind e : Int} (hs : zAa g now kind pk0 = (zGx, [], e)) : Con Tryz.prog 27 [.agg g.row, .int .i64 now, .int .i64 kind, .int .i64 e, .ptr q4 0 0, .ptr q3 0 0] F L nx nx (.bool true) [] [q4, q3] := by
 have hS := fun F L nx => zJF (F := F) (L := L) (nx := nx) hs (by simp)
 have hN := fun F L nx => zPD (F := F) (L := L) (nx := nx) e
 simp only [Gx.row] at hS hN ⊢;have m1 : ∀ k, (q4 = (⟨L + 1, k⟩ : Nm)) = False := zAF h4;have m2 : ∀ k, ((⟨L + 1, k⟩ : Nm) = q4) = False := zAE h4;have m3 : ∀ k, (q3 = (⟨L + 1, k⟩ : Nm)) = False := zAF h3;have m4 : ∀ k, ((⟨L + 1, k⟩ : Nm) = q3) = False := zAE h3;refine bdy Tryz.f27 (hrd := (by simp; omega)) ?_;intro F3 hF1 hF2;have k4 := (hF1 q4 (by simp)).trans hF4;have k3 := (hF1 q3 (by simp)).trans hF3;simp only [Tryz.f27, k4, m1, go_sem];repeat refine sd2 ?_
 refine CallVC.same (hS _ _ _) ?_;simp only [zAr, k3, m3, go_sem];repeat refine sd2 ?_
 refine CallVC.same (hN _ _ _) ?_;simp only [go_sem];exact .bool (.inr rfl) rfl rfl (by simp [UpdAll])
theorem zKg {F : SF} {L nx : Nat} (w : Nat) (hw : w < 256) (n : Int) (s : List UInt8) (g : Gx) : Con Tryz.prog 20 [.agg [.int .u8 w, .int .i64 n, .str s], .agg g.row] F L nx nx (.agg (zGg w n s g).row) [] [] := by
 have d12 : IntKind.u8.wrap ((w : Int).tmod 12) = ((w % 12 : Nat) : Int) := by
  rw [qC (by omega)];simp [IntKind.wrap, IntKind.signed, IntKind.bits]; omega
 have d12' : (w : Int).tmod 12 = ((w % 12 : Nat) : Int) := by rw [qC (by omega)]; rfl
 have hj : w % 12 < 12 := wY _ (by omega);unfold zGg;obtain ⟨j, hj9⟩ : ∃ j, j = w % 12 := ⟨_, rfl⟩;rw [← hj9] at d12 d12' hj;simp only [← hj9];have hcase : j = 0 ∨ j = 1 ∨ j = 2 ∨ j = 3 ∨ j = 4 ∨ j = 5 ∨ j = 6 ∨ j = 7 ∨ j = 8 ∨ j = 9 ∨ j = 10 ∨ j = 11 := by omega
 have mn : ∀ a : Nat, (min (a : Int) 40).toNat = min a 40 := fun a => by omega
 have j2 : ((2 : Nat) : Int) = 2 := rfl;have j3 : ((3 : Nat) : Int) = 3 := rfl;have j4 : ((4 : Nat) : Int) = 4 := rfl;have j5 : ((5 : Nat) : Int) = 5 := rfl;have j6 : ((6 : Nat) : Int) = 6 := rfl;have j7 : ((7 : Nat) : Int) = 7 := rfl;have j8 : ((8 : Nat) : Int) = 8 := rfl;have j9 : ((9 : Nat) : Int) = 9 := rfl;have j10 : ((10 : Nat) : Int) = 10 := rfl;have j11 : ((11 : Nat) : Int) = 11 := rfl;refine bdy Tryz.f20 ?_;intro F3 hF1 hF2;simp only [Gx.row];clear hj9 hj;rcases hcase with rfl | rfl | rfl | rfl | rfl | rfl | rfl | rfl | rfl | rfl | rfl | rfl;all_goals
  simp only [Tryz.f20, d12', mn, zIni, j2, j3, j4, j5, j6, j7, j8, j9, j10, j11, wM, vS, Int.reduceBEq, go_sem];repeat refine sd2 ?_
  exact ps0 (by simp only [uA, go_sem])
structure Mv where
 what : Nat
 which : Nat
 later : Nat
def Tk.g (k : Tk) (s : Bool) : Gx := match s with | false => k.g0 | true => k.g1
def Tk.w (k : Tk) (s : Bool) : List Pkx := match s with | false => k.w0 | true => k.w1
def Tk.ev (k : Tk) (s : Bool) (h : Gx) (v o : List Pkx) : Tk := match s with
 | false => ⟨h, k.g1, v, k.w1 ++ o, k.now⟩
 | true => ⟨k.g0, h, k.w0 ++ o, v, k.now⟩
def Tk.tm (k : Tk) (t : Int) : Tk := { k with now := t }
theorem zSv (k : Tk) (t : Int) (s : Bool) : (k.tm t).g s = k.g s := by cases s <;> rfl
theorem zTO (k : Tk) (t : Int) (s : Bool) : (k.tm t).w s = k.w s := by cases s <;> rfl
theorem zSg (k : Tk) (s : Bool) (h : Gx) (v o : List Pkx) : (k.ev s h v o).now = k.now := by cases s <;> rfl
theorem zS0 (k : Tk) (s : Bool) (h : Gx) (v o : List Pkx) : (k.ev s h v o).g s = h := by cases s <;> rfl
theorem zSx (k : Tk) (s : Bool) (h : Gx) (v o : List Pkx) : (k.ev s h v o).g (!s) = k.g (!s) := by cases s <;> rfl
theorem zTa (k : Tk) (s : Bool) (h : Gx) (v o : List Pkx) : (k.ev s h v o).w s = v := by cases s <;> rfl
theorem zTS (k : Tk) (s : Bool) (h : Gx) (v o : List Pkx) : (k.ev s h v o).w (!s) = k.w (!s) ++ o := by cases s <;> rfl
def zIN (k : Tk) (s : Bool) (v : List Pkx) (kind : Int) (p : Pkx) : Option Tk :=
 match zAa (k.g s) k.now kind p with
 | (h, o, e) => if e = 0 then some (k.ev s h v o) else none
def zJx (k : Tk) (s : Bool) (which : Nat) (kept lost : Bool) : Option Tk :=
 if k.w s = [] then some k else
 let i := which % (k.w s).length
 let v := if kept then k.w s else (k.w s).eraseIdx i
 if lost then some (k.ev s (k.g s) v []) else zIN k s v 5 ((k.w s).getD i pk0)
def mvS (x : Tk × Nat) (m : Mv) : Option (Tk × Nat) :=
 let s := m.which % 2 == 1
 let k := x.1.tm (x.1.now + m.later)
 if m.what % 4 = 0 then
  if x.2 = 5 then some (k, x.2) else (zIN (k.tm (max k.now (k.g s).due)) s (k.w s) 4 pk0).map fun k' => (k', x.2 + 1)
 else (zJx k s (m.which / 2) (m.what % 4 == 3) (m.what % 4 == 2)).map fun k' => (k', x.2)
def qS (k : Tk) : Option Tk :=
 if k.w0 ≠ [] then zJx k false 0 false false
 else if k.w1 ≠ [] then zJx k true 0 false false
 else if 0 ≤ k.g0.due then zIN (k.tm (max k.now k.g0.due)) false k.w0 4 pk0
 else zIN (k.tm (max k.now k.g1.due)) true k.w1 4 pk0
def zPO (k : Tk) : Prop := k.w0 = [] ∧ k.w1 = [] ∧ k.g0.due < 0 ∧ k.g1.due < 0
instance (k : Tk) : Decidable (zPO k) := by unfold zPO; infer_instance
def qR : Nat → Tk → Option Tk
 | 0, _ => none
 | f + 1, k => if zPO k then some k else (qS k).bind (qR f)
theorem zMU (f : Nat) (k : Tk) : qR (f + 1) k = if zPO k then some k else (qS k).bind (qR f) := rfl
theorem zHi {k : Tk} {s : Bool} {v : List Pkx} {kind : Int} {p : Pkx} {h : Gx} {o : List Pkx} (hs : zAa (k.g s) k.now kind p = (h, o, 0)) : zIN k s v kind p = some (k.ev s h v o) := by
 unfold zIN;simp only [hs, if_true]
def Wy (k : Tk) (n : Nat) : Prop := k.w0.length ≤ n ∧ k.w1.length ≤ n ∧ (∀ p ∈ k.w0, p.sm) ∧ (∀ p ∈ k.w1, p.sm)
theorem Wy.w {k : Tk} {n : Nat} (h : Wy k n) (s : Bool) : (k.w s).length ≤ n ∧ ∀ p ∈ k.w s, p.sm := by
 cases s;·exact ⟨h.1, h.2.2.1⟩
 ·exact ⟨h.2.1, h.2.2.2⟩
theorem Wy.of {k : Tk} {n : Nat} (h : ∀ s, (k.w s).length ≤ n ∧ ∀ p ∈ k.w s, p.sm) : Wy k n := ⟨(h false).1, (h true).1, (h false).2, (h true).2⟩
structure Cor (c g : Gx) : Prop where
 fr : g.fr = c.fr
 tt : g.tt = c.tt
 sec : g.sec = c.sec
 own : g.own = c.own
structure Fit (C : Bool → Gx) : Prop where
 hd : ∀ s, (C s).hd = true
 pt : ∀ s, (C s).tt = (C !s).fr
theorem Fit.tf {C : Bool → Gx} (h : Fit C) (s : Bool) : (C s).fr = (C !s).tt := by
 have := h.pt (!s); rw [Bool.not_not] at this; exact this.symm
theorem Fit.own {C : Bool → Gx} (h : Fit C) (s : Bool) : zAe (C s).own = true := ((zKc _).1 (h.hd s)).2.2.2.2.2.1
theorem Fit.tag {C : Bool → Gx} (h : Fit C) (s : Bool) : 0 < (C s).own.tag ∧ (C s).own.tag < 4294967296 := by
 have := zIK (zDs (h.own s)).1; omega
def pTo (C : Bool → Gx) (s : Bool) (tag : Int) (c : Ckx) : Pkx := ⟨(C !s).fr, (C !s).tt, tag, [c]⟩
theorem zNm {C : Bool → Gx} (hC : Fit C) {s : Bool} {g : Gx} (h : Cor (C s) g) (now tag : Int) (c : Ckx) : zFX g now (pTo C s tag c) = zAp g now tag c := by
 have : pTo C s tag c = ⟨g.tt, g.fr, tag, [c]⟩ := by
  unfold pTo;rw [h.fr, h.tt, hC.pt s, hC.tf s]
 rw [this, recv_kind]
theorem zPE {C : Bool → Gx} (hC : Fit C) {s : Bool} {g : Gx} (h : Cor (C s) g) (hg : g.ok = true) {now : Int} (hn : 0 ≤ now ∧ now ≤ 1099511627776) (hta : g.ta ≤ now) {tag : Int} {c : Ckx} (hp : (pTo C s tag c).ok = true) :
  zAa g now 5 (pTo C s tag c) = ((zAp { g with ta := now } now tag c).1, (zAp { g with ta := now } now tag c).2, 0) := by
 rw [zE8 hg ((zB2 now).2 hn) hta hp];have := zNm hC (s := s) (g := { g with ta := now }) ⟨h.fr, h.tt, h.sec, h.own⟩ now tag c;rw [this]
theorem zJy {c g : Gx} (h : Cor c g) (t : Int) : Cor c { g with ta := t } := ⟨h.fr, h.tt, h.sec, h.own⟩
structure SI (C : Bool → Gx) (s : Bool) (now : Int) (w : Nat) (g : Gx) : Prop where
 ok : g.ok = true
 cor : Cor (C s) g
 ta : g.ta ≤ now
 due : g.due ≤ now + 6400
 tr : g.tr ≤ 1 + w
theorem SI.mono {C : Bool → Gx} {s : Bool} {now : Int} {w : Nat} {g : Gx} (h : SI C s now w g) {now2 : Int} (hn : now ≤ now2) {w2 : Nat} (hw : w ≤ w2) : SI C s now2 w2 g :=
 ⟨h.ok, h.cor, by have := h.ta; omega, by have := h.due; omega, by have := h.tr; omega⟩
theorem zNn {c g : Gx} (h : Cor c g) (now tag : Int) (x : Ckx) : Cor c (zAp g now tag x).1 := by
 unfold zAp;split
 ·unfold zEb; split <;> exact h
 split;·exact h
 split
 ·unfold zEc; split <;> exact ⟨h.fr, h.tt, h.sec, h.own⟩
 split
 ·unfold zE3; simp only; split
  ·split;·exact h
   split;·exact ⟨h.fr, h.tt, h.sec, h.own⟩
   split <;> exact h
  ·exact h
 split
 ·split <;> exact ⟨h.fr, h.tt, h.sec, h.own⟩
 split
 ·unfold zIB; split;·exact ⟨h.fr, h.tt, h.sec, h.own⟩
  split <;> exact h
 split
 ·unfold zFM; split <;> exact ⟨h.fr, h.tt, h.sec, h.own⟩
 split
 ·split <;> exact ⟨h.fr, h.tt, h.sec, h.own⟩
 split
 ·split <;> exact ⟨h.fr, h.tt, h.sec, h.own⟩
 ·exact h
theorem zNo {g : Gx} {now : Int} {w : Nat} (h1 : g.due ≤ now + 6400) (h2 : g.tr ≤ 1 + w) (h0 : 0 ≤ now) (tag : Int) (x : Ckx) : (zAp g now tag x).1.due ≤ now + 6400 ∧ (zAp g now tag x).1.tr ≤ 1 + w := by
 have hb : ∀ s, (zAL g s now).due ≤ now + 6400 ∧ (zAL g s now).tr ≤ 1 + w := fun s => ⟨by unfold zAL; simp only; omega, by unfold zAL; simp only; omega⟩
 have hr : ∀ s, (zAj g s).due ≤ now + 6400 ∧ (zAj g s).tr ≤ 1 + w := fun s => ⟨by unfold zAj; simp only; omega, by unfold zAj; simp only; omega⟩
 have hg : g.due ≤ now + 6400 ∧ g.tr ≤ 1 + w := ⟨h1, h2⟩;unfold zAp;split
 ·unfold zEb; split <;> exact hg
 split;·exact hg
 split
 ·unfold zEc; split;·exact hb 3
  ·exact hg
 split
 ·unfold zE3; simp only; split
  ·split;·exact hg
   split;·exact hr 4
   split <;> exact hg
  ·exact hg
 split
 ·split;·exact hr 4
  ·exact hg
 split
 ·unfold zIB; split;·exact hb 6
  split <;> exact hg
 split
 ·unfold zFM; split;·exact hr 7
  ·exact hg
 split
 ·split;·exact hr 7
  ·exact hg
 split
 ·split;·exact hg
  ·exact hr 7
 ·exact hg
theorem SI.recv {C : Bool → Gx} (hC : Fit C) {s : Bool} {now : Int} {w : Nat} {g : Gx} (h : SI C s now w g) (hn : 0 ≤ now ∧ now ≤ 1099511627776) {tag : Int} {c : Ckx} (hp : (pTo C s tag c).ok = true) :
  zAa g now 5 (pTo C s tag c) = ((zAp { g with ta := now } now tag c).1, (zAp { g with ta := now } now tag c).2, 0) ∧ SI C s now w (zAp { g with ta := now } now tag c).1 := by
 have hs := zPE hC h.cor h.ok hn h.ta hp;have G := zAl hs;have hd := zNo (g := { g with ta := now }) h.due h.tr hn.1 tag c;exact ⟨hs, G.ok, zNn (zJy h.cor now) now tag c, by rw [G.ta]; exact wU _, hd.1, hd.2⟩
theorem SI.tick {C : Bool → Gx} {s : Bool} {now : Int} {w : Nat} {g : Gx} (h : SI C s now w g) (hn : 0 ≤ now ∧ now ≤ 1099511627776) {p : Pkx} (hw : w ≤ 6) :
  zAa g now 4 p = ((zDv { g with ta := now } now).1, (zDv { g with ta := now } now).2, 0) ∧ SI C s now (w + 1) (zDv { g with ta := now } now).1 := by
 have hs := zPC (p := p) h.ok ((zB2 now).2 hn) h.ta;have G := zAl hs;have h1 := h.due;have h2 := h.tr;refine ⟨hs, G.ok, ?_, by rw [G.ta]; exact wU _, ?_, ?_⟩ <;> unfold zDv <;> split
 ·exact zJy h.cor now
 ·split <;> exact ⟨h.cor.fr, h.cor.tt, h.cor.sec, h.cor.own⟩
 ·show g.due ≤ now + 6400; exact h1
 ·split;·show (-1 : Int) ≤ now + 6400; omega
  ·have := zMA g.tr;show now + wtS g.tr ≤ now + 6400; omega
 ·show g.tr ≤ 1 + ((w + 1 : Nat) : Int); omega
 ·split;·show (0 : Int) ≤ 1 + ((w + 1 : Nat) : Int); omega
  ·show g.tr + 1 ≤ 1 + ((w + 1 : Nat) : Int); omega
theorem SI.tick_is {C : Bool → Gx} {s : Bool} {now : Int} {w : Nat} {g : Gx} (h : SI C s now w g) (hw : w ≤ 6) :
  zDv { g with ta := now } now = ({ g with ta := now }, []) ∨ (0 ≤ g.due ∧ g.due ≤ now ∧ zDv { g with ta := now } now = ({ g with ta := now, due := now + wtS g.tr, tr := g.tr + 1 }, zA2 { g with ta := now })) := by
 have h2 := h.tr;unfold zDv;split;·exact .inl rfl
 rename_i hd;refine .inr ⟨?_, ?_, ?_⟩
 ·by_cases h0 : 0 ≤ g.due;·exact h0
  ·exact absurd (.inl (by show g.due < 0; omega)) hd
 ·by_cases h0 : g.due ≤ now;·exact h0
  ·exact absurd (.inr (by show now < g.due; omega)) hd
 rw [if_neg (by show g.tr ≠ 8; omega)]
def wts (wt : Pkx → Nat) (l : List Pkx) : Nat := (l.map wt).sum
structure Prot (C : Bool → Gx) (M : Bool → Int → Int → Gx → Prop) (P : Bool → Int → Int → Pkx → Prop) (wt : Pkx → Nat) : Prop where
 fit : Fit C
 mM : ∀ {s now st g now2 st2}, M s now st g → now ≤ now2 → st ≤ st2 → M s now2 st2 g
 mP : ∀ {s now st p now2 st2}, P s now st p → now ≤ now2 → st ≤ st2 → P s now2 st2 p
 ok : ∀ {s now st p}, P s now st p → p.ok = true
 ta : ∀ {s now st g} (t : Int), M s now st g → M s now st { g with ta := t }
 tick : ∀ {s now st g} (d n : Int), M s now st g → M s now st { g with due := d, tr := n }
 wt4 : ∀ p, wt p ≤ 4
 kind : ∀ {s now st g p}, (0 ≤ now ∧ now ≤ 60000) → Cor (C s) g → g.ok = true → M s now st g → P s now st p →
  ∃ tag c, p = pTo C s tag c ∧ M s now st (zAp g now tag c).1 ∧ g.st ≤ (zAp g now tag c).1.st ∧ (∀ x ∈ (zAp g now tag c).2, P (!s) now (zAp g now tag c).1.st x) ∧ wts wt (zAp g now tag c).2 < wt p
 again : ∀ {s now st g}, Cor (C s) g → M s now st g → ∀ x ∈ zA2 g, P (!s) now g.st x
structure KI (C : Bool → Gx) (M : Bool → Int → Int → Gx → Prop) (P : Bool → Int → Int → Pkx → Prop) (k : Tk) (w : Nat) : Prop where
 si : ∀ s, SI C s k.now w (k.g s)
 m : ∀ s, M s k.now (k.g !s).st (k.g s)
 p : ∀ s, ∀ p ∈ k.w s, P s k.now (k.g !s).st p
theorem KI.tm {C : Bool → Gx} {M : Bool → Int → Int → Gx → Prop} {P : Bool → Int → Int → Pkx → Prop} {wt : Pkx → Nat} (hP : Prot C M P wt) {k : Tk} {w : Nat} (h : KI C M P k w) {t : Int} (ht : k.now ≤ t) : KI C M P (k.tm t) w :=
 ⟨fun s => by rw [zSv]; exact (h.si s).mono ht (zB _), fun s => by rw [zSv, zSv]; exact hP.mM (h.m s) ht (wU _), fun s p hp => by rw [zTO] at hp; rw [zSv]; exact hP.mP (h.p s p hp) ht (wU _)⟩
theorem KI.le {C : Bool → Gx} {M : Bool → Int → Int → Gx → Prop} {P : Bool → Int → Int → Pkx → Prop} {k : Tk} {w w2 : Nat} (h : KI C M P k w) (hw : w ≤ w2) : KI C M P k w2 := ⟨fun s => (h.si s).mono (wU _) hw, h.m, h.p⟩
theorem KI.ev {C : Bool → Gx} {M : Bool → Int → Int → Gx → Prop} {P : Bool → Int → Int → Pkx → Prop} {wt : Pkx → Nat} (hP : Prot C M P wt) {k : Tk} {w w2 : Nat} (h : KI C M P k w) (hw : w ≤ w2) (s : Bool) {g : Gx} {v o : List Pkx} (hs : SI C s k.now w2 g) (hm : M s k.now (k.g !s).st g) (hst : (k.g s).st ≤ g.st) (hv : ∀ p ∈ v, p ∈ k.w s) (ho : ∀ x ∈ o, P (!s) k.now g.st x) : KI C M P (k.ev s g v o) w2 := by
 have hnot : ∀ t : Bool, t = s ∨ t = !s := by intro t; cases s <;> cases t <;> simp
 refine ⟨fun t => ?_, fun t => ?_, fun t p hp => ?_⟩
 ·rw [zSg];rcases hnot t with rfl | rfl;·rw [zS0]; exact hs
  ·rw [zSx]; exact (h.si _).mono (wU _) hw
 ·rw [zSg];rcases hnot t with rfl | rfl;·rw [zS0, zSx]; exact hm
  ·rw [zSx, Bool.not_not, zS0];have := h.m (!s);rw [Bool.not_not] at this;exact hP.mM this (wU _) hst
 ·rw [zSg];rcases hnot t with rfl | rfl
  ·rw [zTa] at hp;rw [zSx];exact h.p _ p (hv p hp)
  ·rw [zTS] at hp;rw [Bool.not_not, zS0];rcases List.mem_append.1 hp with hp | hp
   ·have := h.p (!s) p hp;rw [Bool.not_not] at this;exact hP.mP this (wU _) hst
   ·exact ho p hp
theorem KI.recv {C : Bool → Gx} {M : Bool → Int → Int → Gx → Prop} {P : Bool → Int → Int → Pkx → Prop} {wt : Pkx → Nat} (hP : Prot C M P wt) {k : Tk} {w : Nat} (h : KI C M P k w) (hn : 0 ≤ k.now ∧ k.now ≤ 60000) (s : Bool) {p : Pkx} (hp : p ∈ k.w s) {v : List Pkx} (hv : ∀ p ∈ v, p ∈ k.w s) :
  ∃ g o, zAa (k.g s) k.now 5 p = (g, o, 0) ∧ zIN k s v 5 p = some (k.ev s g v o) ∧ KI C M P (k.ev s g v o) w ∧ o.length ≤ 1 ∧ wts wt o < wt p ∧ (k.g s).st ≤ g.st := by
 have hs := h.si s;obtain ⟨tag, c, e, k1, k2, k3, k4⟩ := hP.kind hn (zJy hs.cor k.now) (by
  have := hs.ok;rw [zGf] at this ⊢;refine ⟨?_, this.2⟩;have h3 := this.1;rw [zKc] at h3 ⊢;exact ⟨h3.1, h3.2.1, h3.2.2.1, h3.2.2.2.1, h3.2.2.2.2.1, h3.2.2.2.2.2.1, (zB2 k.now).2 (by omega)⟩) (hP.ta k.now (h.m s)) (h.p s p hp)
 have hok := hP.ok (h.p s p hp);rw [e] at hok;obtain ⟨r1, r2⟩ := hs.recv hP.fit (by omega) hok;refine ⟨_, _, by rw [e]; exact r1, by rw [e]; exact zHi r1, h.ev hP (zB _) s r2 k1 k2 hv k3, (zAl r1).len, k4, k2⟩
theorem KI.tick {C : Bool → Gx} {M : Bool → Int → Int → Gx → Prop} {P : Bool → Int → Int → Pkx → Prop} {wt : Pkx → Nat} (hP : Prot C M P wt) {k : Tk} {w : Nat} (h : KI C M P k w) (hn : 0 ≤ k.now ∧ k.now ≤ 60000) (hw : w ≤ 6) (s : Bool) :
  ∃ g o, zAa (k.g s) k.now 4 pk0 = (g, o, 0) ∧ zIN k s (k.w s) 4 pk0 = some (k.ev s g (k.w s) o) ∧ KI C M P (k.ev s g (k.w s) o) (w + 1) ∧ o.length ≤ 1 ∧ (k.g s).st ≤ g.st := by
 have hs := h.si s;obtain ⟨r1, r2⟩ := hs.tick (p := pk0) (by omega) hw;refine ⟨_, _, r1, zHi r1, ?_, (zAl r1).len, ?_⟩;rotate_left
 ·rcases hs.tick_is hw with e | ⟨_, _, e⟩ <;> rw [e] <;> exact wU _
 rcases hs.tick_is hw with e | ⟨_, _, e⟩
 ·refine h.ev hP (by omega) s r2 ?_ ?_ (fun p hp => hp) ?_ <;> rw [e]
  ·exact hP.ta _ (h.m s)
  ·exact wU _
  ·simp
 ·refine h.ev hP (by omega) s r2 ?_ ?_ (fun p hp => hp) ?_ <;> rw [e]
  ·exact hP.tick (k.now + wtS (k.g s).tr) ((k.g s).tr + 1) (hP.ta k.now (h.m s))
  ·exact wU _
  ·exact hP.again (zJy hs.cor _) (hP.ta k.now (h.m s))
theorem zMV (k : Tk) (s : Bool) (g : Gx) (v o : List Pkx) : (k.ev s g v o).w0.length + (k.ev s g v o).w1.length + (k.w s).length = k.w0.length + k.w1.length + v.length + o.length := by
 cases s <;> simp [Tk.ev, Tk.w] <;> omega
theorem zPF {k : Tk} {s : Bool} {g : Gx} {v o : List Pkx} (h : (k.g s).st ≤ g.st) : ∀ u, (k.g u).st ≤ ((k.ev s g v o).g u).st := by
 intro u;cases s <;> cases u
 ·exact h
 ·exact wU _
 ·exact wU _
 ·exact h
theorem KI.move {C : Bool → Gx} {M : Bool → Int → Int → Gx → Prop} {P : Bool → Int → Int → Pkx → Prop} {wt : Pkx → Nat} (hP : Prot C M P wt) {k : Tk} {w : Nat} (h : KI C M P k w) (hw : w ≤ 5) {i : Nat} (hi : i < 12) (h0 : 0 ≤ k.now) (hn : k.now ≤ 255 * i + 6400 * w) (m : Mv) (hm : m.later ≤ 255) :
  ∃ k2 w2, mvS (k, w) m = some (k2, w2) ∧ KI C M P k2 w2 ∧ w2 ≤ 5 ∧ 0 ≤ k2.now ∧ k2.now ≤ 255 * (i + 1 : Nat) + 6400 * w2 ∧ k2.w0.length + k2.w1.length ≤ k.w0.length + k.w1.length + 1 ∧ ∀ u, (k.g u).st ≤ (k2.g u).st := by
 have hT := h.tm hP (t := k.now + m.later) (by omega);obtain ⟨s, hs⟩ : ∃ s, s = (m.which % 2 == 1) := ⟨_, rfl⟩;obtain ⟨K, hK⟩ : ∃ K, K = k.tm (k.now + m.later) := ⟨_, rfl⟩;have kn : K.now = k.now + m.later := by rw [hK]; rfl
 have kl : K.w0.length + K.w1.length = k.w0.length + k.w1.length := by rw [hK]; rfl
 have kst : ∀ u, (k.g u).st ≤ (K.g u).st := by intro u; rw [hK, zSv]; exact wU _
 unfold mvS;simp only [← hs, ← hK];rw [← hK] at hT;split
 ·split
  ·rename_i h5;exact ⟨_, _, rfl, hT, by omega, by omega, by omega, by omega, kst⟩
  ·rename_i h5;have hd := (hT.si s).due;obtain ⟨K2, hK2⟩ : ∃ K2, K2 = K.tm (max K.now (K.g s).due) := ⟨_, rfl⟩;have hT2 := hT.tm hP (t := max K.now (K.g s).due) (by omega);rw [← hK2] at hT2 ⊢;have kn2 : K2.now = max K.now (K.g s).due := by rw [hK2]; rfl
   have kw2 : K.w s = K2.w s := by rw [hK2, zTO]
   have kl2 : K2.w0.length + K2.w1.length = K.w0.length + K.w1.length := by rw [hK2]; rfl
   obtain ⟨g, o, e1, e2, e3, e4, e5⟩ := hT2.tick hP (by omega) (by omega) s;rw [kw2, e2];have el := zMV K2 s g (K2.w s) o;exact ⟨_, _, rfl, e3, by omega, by rw [zSg]; omega, by rw [zSg]; omega, by omega, fun u => Int.le_trans (kst u) (by have := zPF (v := K2.w s) (o := o) e5 u; rwa [hK2, zSv, ← hK2] at this)⟩
 ·unfold zJx;simp only;split;·exact ⟨_, _, rfl, hT, hw, by omega, by omega, by omega, kst⟩
  rename_i hne;have hlen : 0 < (K.w s).length := List.length_pos_iff.2 hne;obtain ⟨i', hi'⟩ : ∃ i', i' = m.which / 2 % (K.w s).length := ⟨_, rfl⟩;have hlt : i' < (K.w s).length := by rw [hi']; exact wY _ hlen
  rw [← hi'];obtain ⟨v, hv⟩ : ∃ v, v = if (m.what % 4 == 3) = true then K.w s else (K.w s).eraseIdx i' := ⟨_, rfl⟩
  have hvm : ∀ p ∈ v, p ∈ K.w s := by
   intro p hp;rw [hv] at hp;split at hp;·exact hp
   ·exact List.mem_of_mem_eraseIdx hp
  have hvl : v.length ≤ (K.w s).length := by
   rw [hv]; split;·exact zB _
   ·exact List.length_eraseIdx_le _ _
  rw [← hv];split
  ·have el := zMV K s (K.g s) v [];refine ⟨_, _, rfl, hT.ev hP (zB _) s (hT.si s) (hT.m s) (wU _) hvm (by simp), hw, by rw [zSg]; omega, by rw [zSg]; omega, by simp at el ⊢; omega, fun u => Int.le_trans (kst u) (zPF (wU _) u)⟩
  ·have hp : (K.w s).getD i' pk0 ∈ K.w s := by
    rw [zG, zO hlt];exact uU hlt
   obtain ⟨g, o, e1, e2, e3, e4, _, e6⟩ := hT.recv hP (by omega) s hp hvm;rw [e2];have el := zMV K s g v o;exact ⟨_, _, rfl, e3, hw, by rw [zSg]; omega, by rw [zSg]; omega, by omega, fun u => Int.le_trans (kst u) (zPF e6 u)⟩
theorem zPG {k : Tk} {s : Bool} (h1 : k.w0 = []) (h2 : k.w1 = []) (hd : 0 ≤ (k.g s).due) (hs0 : s = true → k.g0.due < 0) {g : Gx} {o : List Pkx} (hs : zAa (k.g s) (max k.now (k.g s).due) 4 pk0 = (g, o, 0)) (f : Nat) : qR (f + 1) k = qR f ((k.tm (max k.now (k.g s).due)).ev s g [] o) := by
 have e2 := zHi (k := k.tm (max k.now (k.g s).due)) (s := s) (v := []) (by rw [zSv]; exact hs);cases s with
 | false =>
  have hd : 0 ≤ k.g0.due := hd;rw [zMU];unfold qS;rw [if_neg (by unfold zPO; exact fun h => by omega), if_neg (by simp [h1]), if_neg (by simp [h2]), if_pos hd, h1];exact congrArg (fun r => Option.bind r (qR f)) e2
 | true =>
  have hd : 0 ≤ k.g1.due := hd;rw [zMU];unfold qS;rw [if_neg (by unfold zPO; exact fun h => by omega), if_neg (by simp [h1]), if_neg (by simp [h2]), if_neg (by have := hs0 rfl; omega), h2];exact congrArg (fun r => Option.bind r (qR f)) e2
def Ends (Q : Tk → Prop) (n : Nat) (k : Tk) : Prop := ∃ k2, (∀ f, n ≤ f → qR f k = some k2) ∧ Q k2
theorem Ends.step {Q : Tk → Prop} {n : Nat} {k k1 : Tk} (h : Ends Q n k1) (e : ∀ f, qR (f + 1) k = qR f k1) : Ends Q (n + 1) k := by
 obtain ⟨k2, h1, h2⟩ := h;refine ⟨k2, fun f hf => ?_, h2⟩;obtain ⟨f', rfl⟩ : ∃ f', f = f' + 1 := ⟨f - 1, by omega⟩;rw [e]; exact h1 f' (by omega)
theorem Ends.le {Q : Tk → Prop} {n m : Nat} {k : Tk} (h : Ends Q n k) (hm : n ≤ m) : Ends Q m k := by
 obtain ⟨k2, h1, h2⟩ := h;exact ⟨k2, fun f hf => h1 f (by omega), h2⟩
theorem zQ0 {k : Tk} {s : Bool} (h1 : k.w s = []) (h2 : k.w (!s) = []) : k.w0 = [] ∧ k.w1 = [] := by cases s <;> exact ⟨by assumption, by assumption⟩
theorem KI.due {C : Bool → Gx} {M : Bool → Int → Int → Gx → Prop} {P : Bool → Int → Int → Pkx → Prop} {wt : Pkx → Nat} (hP : Prot C M P wt) {k : Tk} {w : Nat} (h : KI C M P k w) (hn : 0 ≤ k.now ∧ k.now ≤ 50000) (hw : w ≤ 6) {s : Bool} (h1 : k.w s = []) (h2 : k.w (!s) = []) (hd : 0 ≤ (k.g s).due) (hs0 : s = true → k.g0.due < 0) {a : Pkx} (ha : ∀ t, zA2 { k.g s with ta := t } = [a]) :
  ∃ k1, (∀ f, qR (f + 1) k = qR f k1) ∧ KI C M P k1 (w + 1) ∧ k1.w s = [] ∧ k1.w (!s) = [a] ∧ (k1.g s).st = (k.g s).st ∧ k1.g (!s) = k.g (!s) ∧ (k1.g s).peer = (k.g s).peer ∧ 0 ≤ k1.now ∧ k1.now ≤ 60000 ∧ k.now ≤ k1.now := by
 have hdu := (h.si s).due;obtain ⟨z0, z1⟩ := zQ0 h1 h2;obtain ⟨T, hT⟩ : ∃ T, T = max k.now (k.g s).due := ⟨_, rfl⟩;obtain ⟨K, hK⟩ : ∃ K, K = k.tm T := ⟨_, rfl⟩;have hk := h.tm hP (t := T) (by omega);rw [← hK] at hk;have kn : K.now = T := by rw [hK]; rfl
 have kg : ∀ u, K.g u = k.g u := by intro u; rw [hK, zSv]
 have kw : ∀ u, K.w u = k.w u := by intro u; rw [hK, zTO]
 obtain ⟨g, o, e1, _, e3, _⟩ := hk.tick hP (by omega) hw s;obtain ⟨r1, _⟩ := (hk.si s).tick (p := pk0) (by omega) hw;have ti := (hk.si s).tick_is hw;rw [e1] at r1;rw [kg, kn] at r1 ti;have hgo : g = { k.g s with ta := T, due := T + wtS (k.g s).tr, tr := (k.g s).tr + 1 } ∧ o = [a] := by
  rcases ti with ti | ⟨_, _, ti⟩
  ·have : zDv { k.g s with ta := T } T = ({ k.g s with ta := T, due := T + wtS (k.g s).tr, tr := (k.g s).tr + 1 }, zA2 { k.g s with ta := T }) := by
    have := (h.si s).tr;unfold zDv;rw [if_neg (by show ¬ ((k.g s).due < 0 ∨ T < (k.g s).due); omega), if_neg (by show (k.g s).tr ≠ 8; omega)]
   rw [this, ha] at r1;simp only [zX, and_true] at r1;exact r1
  ·rw [ti, ha] at r1;simp only [zX, and_true] at r1;exact r1
 obtain ⟨hg, ho⟩ := hgo;rw [ho] at e1 e3;rw [kg, kn] at e1;rw [kw, h1] at e3;have q := zPG z0 z1 hd hs0 (by rw [← hT]; exact e1);rw [← hT, ← hK] at q;refine ⟨_, q, e3, zTa .., ?_, ?_, ?_, ?_, ?_, ?_, ?_⟩;·rw [zTS, kw, h2]; rfl
 ·rw [zS0, hg]
 ·rw [zSx, kg]
 ·rw [zS0, hg]
 ·rw [zSg]; omega
 ·rw [zSg]; omega
 ·rw [zSg]; omega
end Go.Proofs.YtifhjhbfhdcahaaGreat
end
section
namespace Go.Tx
theorem zTF {E : Env} {F : SF} {w : World} (h : HRel E F w) {a n : Nm} (hE : E n = none) {e : TypeId} {wd : Nat} {o p : Bool} {rs : List (List PV)} (ha : F a = some (.rows e wd o p rs)) {i : BI} (hi : E a = some i) :
  StepR E F w (E.set n i) ((F.set a .dead).set n (.rows e wd o p rs)) w := by
 have hle := zSc (i := i) hE;have hna : a ≠ n := fun hh => by rw [hh, hE] at hi; cases hi
 have hback : ∀ m b j, ((F.set a .dead).set n (.rows e wd o p rs)) m = some b → b.live = true → (E.set n i) m = some j → ∃ m', F m' = some b ∧ E m' = some j ∧ (m = n → m' = a) ∧ (m ≠ n → m' = m ∧ m ≠ a) := by
  intro m b j hm hb hj;unfold SF.set at hm;split at hm
  ·rename_i he;subst he;injection hm with hm; subst hm;rw [zSW] at hj;injection hj with hj; subst hj;exact ⟨a, ha, hi, fun _ => rfl, fun h => absurd rfl h⟩
  ·rename_i he;rw [zSX E _ he] at hj;split at hm;·injection hm with hm; subst hm; cases hb
   ·rename_i he2;exact ⟨m, hm, hj, fun h => absurd h he, fun _ => ⟨rfl, he2⟩⟩
 have hN : NewAt E F w (E.set n i) ((F.set a .dead).set n (.rows e wd o p rs)) w := by
  refine ⟨hle, rfl, rfl, rfl, zB _, fun _ _ _ => rfl, fun m b j hm ho hj hz => ?_⟩;obtain ⟨m', h1, h2, _⟩ := hback m b j hm (zAY ho) hj;exact .inr ⟨m', b, j, h1, ho, h2, hz, rfl⟩
 refine hN.step ⟨fun m b hm => ?_, fun m1 m2 b c j1 j2 h1 h2 h12 ho hl hj1 hj2 hz1 hz2 => ?_⟩
 ·unfold SF.set at hm;split at hm
  ·rename_i he;subst he;injection hm with hm; subst hm;have := (h.blk a _ ha).mono hN.ext fun _ _ _ => rfl
   obtain ⟨j, k1, k2⟩ := this;rw [hle _ _ hi] at k1;injection k1 with k1; subst k1;exact ⟨i, zSW _ _ _, k2⟩
  split at hm;·injection hm with hm; subst hm; trivial
  ·exact (h.blk m b hm).mono hN.ext fun _ _ _ => rfl
 ·obtain ⟨x1, a1, a2, a3, a4⟩ := hback m1 b j1 h1 (zAY ho) hj1;obtain ⟨x2, b1, b2, b3, b4⟩ := hback m2 c j2 h2 hl hj2;refine h.sep x1 x2 b c j1 j2 a1 b1 ?_ ho hl a2 b2 hz1 hz2;by_cases e1 : m1 = n
  ·by_cases e2 : m2 = n;·exact absurd (e1.trans e2.symm) h12
   ·rw [a3 e1, (b4 e2).1]; exact fun h => (b4 e2).2 h.symm
  ·by_cases e2 : m2 = n;·rw [(a4 e1).1, b3 e2]; exact (a4 e1).2
   ·rw [(a4 e1).1, (b4 e2).1]; exact h12
theorem zTY {L : Nat} {F0 : SF} {t : List (Option PV)} {H : List (Nm × SBlk)} {nx : Nat} (a n : Nm) {e e2 : TypeId} {wd wd2 : Nat} {o p o2 p2 : Bool} {row row1 : List PV} {rs : List (List PV)} (ha : look F0 H a = some (.rows e2 wd2 o2 p2 rs)) (hn : look F0 H n = some (.rows e wd o p [row])) (hna : n ≠ a) (hne : n ≠ ⟨L, nx⟩) (hl : row1.length = row.length)
  (hc : ∀ c : Nat, row1[c]? = row[c]? ∨ ∃ r l, row[c]? = some (PV.sl a r l) ∧ row1[c]? = some (PV.sl ⟨L, nx⟩ r l)) :
  Sub L F0 ⟨t, H, nx⟩ ⟨t, zAv H [(a, .dead), (⟨L, nx⟩, .rows e2 wd2 o2 p2 rs), (n, .rows e wd o false [row1])], nx + 1⟩ := by
 intro B E0 w0 E ac w hd0 hR;have hf := (hR.fresh hd0).1 nx (zB _);obtain ⟨i, hi, _⟩ := hR.step.rel.blk a _ ha;have hS := zTF hR.step.rel hf ha hi;have hle := hS.le;have hn1 : (((look F0 H).set a .dead).set ⟨L, nx⟩ (.rows e2 wd2 o2 p2 rs)) n = some (.rows e wd o p [row]) := by simp only [SF.set, if_neg hne, if_neg hna]; exact hn
 have hEE : Ext (EE (E.set ⟨L, nx⟩ i) p) w (Zn (E.set ⟨L, nx⟩ i) (((look F0 H).set a .dead).set ⟨L, nx⟩ (.rows e2 wd2 o2 p2 rs)) w) (E.set ⟨L, nx⟩ i) w (Zn (E.set ⟨L, nx⟩ i) (((look F0 H).set a .dead).set ⟨L, nx⟩ (.rows e2 wd2 o2 p2 rs)) w) := by
  refine ⟨?_, fun _ h => h, fun _ _ => rfl⟩;cases p;·exact Env.le.refl _
  ·intro k i hk; cases hk
 have hS2 := zSu hS.rel hn1 (rs1 := [row1]) rfl (by
   intro r row' row1' h1 h2;cases r with
   | zero => simp at h1 h2; subst h1; subst h2; exact hl
   | succ r => simp at h1) (by
   intro r row' row1' c x y u h1 h2 h3 h4 h5;cases r with
   | succ r => simp at h1
   | zero =>
    simp at h1 h2; subst h1; subst h2;rcases hc c with h | ⟨r, l, hx, hy⟩
    ·rw [h4, h3] at h; injection h with h; subst h;exact VR.mono hEE _ _ h5
    ·rw [h3] at hx; injection hx with hx; subst hx;rw [h4] at hy; injection hy with hy; subst hy;have h6 := VR.mono hEE _ _ h5;simp only [VR] at h6 ⊢;rw [hle _ _ hi] at h6;rw [zSW];exact h6)
 have hT := hS.trans hS2;have hlk : look F0 (zAv H [(a, SBlk.dead), (⟨L, nx⟩, SBlk.rows e2 wd2 o2 p2 rs), (n, .rows e wd o false [row1])]) = (((look F0 H).set a .dead).set ⟨L, nx⟩ (.rows e2 wd2 o2 p2 rs)).set n (.rows e wd o false [row1]) := by rw [zAN]; rfl
 refine ⟨E.set ⟨L, nx⟩ i, by rw [hlk]; exact hR.step.trans hT, ⟨by simpa using hR.tmps.size, fun j v hv => ?_⟩, by rw [hlk]; exact hR.marks.mono hT.ext, fun m h1 h2 => ?_⟩
 ·obtain ⟨v', a1, a2⟩ := hR.tmps.val j v hv;exact ⟨v', a1, by rw [hlk]; exact VR.mono hT.ext _ _ a2⟩
 ·by_cases he : m = ⟨L, nx⟩;·subst he; exact ⟨rfl, by simp⟩
  ·rw [zSX E _ he] at h2;have := hR.news m h1 h2;exact ⟨this.1, by simp only at this ⊢; omega⟩
end Go.Tx
end
section
namespace Go.Proofs.YtifhjhbfhdcahaaGreat
open Go.Tx
set_option maxRecDepth 100000
theorem Wy.ev {k : Tk} {n : Nat} (h : Wy k n) {s : Bool} {g : Gx} {v o : List Pkx} (hv : ∀ p ∈ v, p ∈ k.w s) (hl : v.length ≤ (k.w s).length) (ho : o = [] ∨ ∃ x, o = [x] ∧ x.sm) : Wy (k.ev s g v o) (n + 1) := by
 obtain ⟨a, b, c, d⟩ := h;have ho2 : o.length ≤ 1 ∧ ∀ p ∈ o, p.sm := by
  rcases ho with rfl | ⟨x, rfl, hx⟩;·simp
  ·refine ⟨by simp, fun p hp => ?_⟩;simp at hp; subst hp; exact hx
 cases s
 ·refine ⟨by show v.length ≤ _; have : v.length ≤ k.w0.length := hl; omega, by show (k.w1 ++ o).length ≤ _; rw [zQ]; omega, fun p hp => c p (hv p hp), fun p hp => ?_⟩;rcases List.mem_append.1 hp with hp | hp;·exact d p hp
  ·exact ho2.2 p hp
 ·refine ⟨by show (k.w0 ++ o).length ≤ _; rw [zQ]; omega, by show v.length ≤ _; have : v.length ≤ k.w1.length := hl; omega, fun p hp => ?_, fun p hp => d p (hv p hp)⟩;rcases List.mem_append.1 hp with hp | hp;·exact c p hp
  ·exact ho2.2 p hp
theorem Wy.tm {k : Tk} {n : Nat} (h : Wy k n) (t : Int) : Wy (k.tm t) n := h
def Mv.row (m : Mv) : List PV := [.int .u8 m.what, .int .u8 m.which, .int .u8 m.later]
def Mv.Ok (m : Mv) : Prop := m.what < 256 ∧ m.which < 256 ∧ m.later < 256
theorem Wy.le {k : Tk} {n n2 : Nat} (h : Wy k n) (hn : n ≤ n2) : Wy k n2 := ⟨by have := h.1; omega, by have := h.2.1; omega, h.2.2⟩
end Go.Proofs.YtifhjhbfhdcahaaGreat
end
section
namespace Go.Tx
theorem zTP {P : Program} {f : FuncId} {args : List PV} {F : SF} {L nx top : Nat} {v : PV} {upd : List (Nm × SBlk)} {rd : List Nm} {n : Nm} {e e2 : TypeId} {wd wd2 : Nat} {o p : Bool} {row row1 : List PV} (hwd : 0 < wd2) (hn : F n = some (.rows e wd o p [row])) (hnr : n ∈ rd) (hne : n ≠ ⟨L, nx⟩) (hl : row1.length = row.length)
  (hc : ∀ c : Nat, row1[c]? = row[c]? ∨ (row[c]? = some PV.nilS ∧ row1[c]? = some (PV.sl ⟨L, nx⟩ 0 0)))
  (h : Con P f args ((F.set ⟨L, nx⟩ (.rows e2 wd2 true true [])).set n (.rows e wd o false [row1])) L (nx + 1) top v upd (⟨L, nx⟩ :: rd)) :
  Con P f args F L nx top v ((⟨L, nx⟩, .rows e2 wd2 true true []) :: (n, .rows e wd o false [row1]) :: upd) rd := by
 refine ⟨by have := h.1; omega, fun F2 hF E w args' hR hf1 hf2 hv => ?_⟩;have htop := h.1;have hf := hf1 nx (zB _) (by omega);have hS := zSj hR hf e2 hwd true none;have hn2 : F2 n = some (.rows e wd o p [row]) := (hF n hnr).trans hn;have hn1 : (F2.set ⟨L, nx⟩ (.rows e2 wd2 true true [])) n = some (.rows e wd o p [row]) := by simp only [SF.set, if_neg hne]; exact hn2
 have hEE : Ext (EE (E.set ⟨L, nx⟩ ⟨0, 0, wd2, 0, true, none⟩) p) w (Zn (E.set ⟨L, nx⟩ ⟨0, 0, wd2, 0, true, none⟩) (F2.set ⟨L, nx⟩ (.rows e2 wd2 true true [])) w) (E.set ⟨L, nx⟩ ⟨0, 0, wd2, 0, true, none⟩) w (Zn (E.set ⟨L, nx⟩ ⟨0, 0, wd2, 0, true, none⟩) (F2.set ⟨L, nx⟩ (.rows e2 wd2 true true [])) w) := by
  refine ⟨?_, fun _ h => h, fun _ _ => rfl⟩;cases p;·exact Env.le.refl _
  ·intro k i hk; cases hk
 have hS2 := zSu hS.rel hn1 (rs1 := [row1]) rfl (by
   intro r row' row1' h1 h2;cases r with
   | zero => simp at h1 h2; subst h1; subst h2; exact hl
   | succ r => simp at h1) (by
   intro r row' row1' c x y u h1 h2 h3 h4 h5;cases r with
   | succ r => simp at h1
   | zero =>
    simp at h1 h2; subst h1; subst h2;rcases hc c with h | ⟨ha, hb⟩
    ·rw [h4, h3] at h; injection h with h; subst h;exact VR.mono hEE _ _ h5
    ·rw [h3] at ha; injection ha with ha; subst ha;rw [h4] at hb; injection hb with hb; subst hb;simp only [VR] at h5 ⊢;subst h5;exact ⟨_, zSW _ _ _, .inl ⟨rfl, trivial, rfl⟩⟩)
 have hT := hS.trans hS2;have hv2 := VRl.mono hT.ext _ _ hv;have key := h.2 ((F2.set ⟨L, nx⟩ (.rows e2 wd2 true true [])).set n (.rows e wd o false [row1])) (by
   intro m hm;simp only [SF.set];by_cases h1 : m = n;·rw [if_pos h1, if_pos h1]
   rw [if_neg h1, if_neg h1];by_cases h2 : m = ⟨L, nx⟩;·rw [if_pos h2, if_pos h2]
   rw [if_neg h2, if_neg h2];rcases List.mem_cons.1 hm with h3 | h3;·exact absurd h3 h2
   ·exact hF m h3) _ w args' hT.rel (by
   intro k h1 h2;rw [zSX E _ (by intro h; injection h with _ h; omega)];exact hf1 k (by omega) h2) (by
   intro m hm;rw [zSX E _ (by intro h; rw [h] at hm; exact absurd hm (Nat.lt_irrefl _))];exact hf2 m hm) hv2
 have conv : ∀ v' w', zBJ (E.set ⟨L, nx⟩ ⟨0, 0, wd2, 0, true, none⟩) ((F2.set ⟨L, nx⟩ (.rows e2 wd2 true true [])).set n (.rows e wd o false [row1])) w L (nx + 1) top v upd v' w' → zBJ E F2 w L nx top v ((⟨L, nx⟩, .rows e2 wd2 true true []) :: (n, .rows e wd o false [row1]) :: upd) v' w' := by
  rintro v' w' ⟨E2, a1, a2, a3⟩
  refine ⟨E2, a1, hT.trans a2, fun m h1 h2 => ?_⟩;by_cases h3 : m = ⟨L, nx⟩
  ·subst h3;exact ⟨rfl, zB _, by show nx < top; omega⟩
  ·have := a3 m (by rw [zSX E _ h3]; exact h1) h2;exact ⟨this.1, by omega, this.2.2⟩
 unfold zD7 Sx.zD7 at key ⊢;split at key;·exact conv _ _ key
 ·exact conv _ _ key
 ·intro cs;obtain ⟨e, w', fr, ⟨v', he, hK⟩, hrest⟩ := key cs;exact ⟨e, w', fr, ⟨v', he, conv _ _ hK⟩, hrest⟩
 ·exact key
end Go.Tx
end
