/- Lemmas for the walk: GD43, GD44, GK103, GK109, GD45, U47, GD49, GK108, GR52, GD46. -/
import Derived.Test.YtifhjhbfhdcahaaGreatP19
import Derived.Test.YtifhjhbfhdcahaaGreatP17
import Derived.Test.YtifhjhbfhdcahaaGreatP12
set_option linter.all false
section
namespace Go.Proofs.YtifhjhbfhdcahaaGreat
open Go.Tx
set_option maxRecDepth 100000
set_option maxHeartbeats 16000000
theorem zFK {g : Gx} {now : Int} {p : Pkx} (hg : g.ok = true) (ht : zGc now = true) (hta : g.ta ≤ now) (hp : p.ok = true) : zAY g now 5 p = ((zFm { g with ta := now } now p).1, (zFm { g with ta := now } now p).2, 0) := by
 unfold zAY gEv;rw [if_neg (by simp [hg]), if_neg (by simp [ht]; omega), if_neg (by simp [hp])];rfl
theorem zP7 {g : Gx} {now : Int} {p : Pkx} (hg : g.ok = true) (ht : zGc now = true) (hta : g.ta ≤ now) : zAY g now 4 p = ((zD4 { g with ta := now } now).1, (zD4 { g with ta := now } now).2, 0) := by
 unfold zAY gEv;rw [if_neg (by simp [hg]), if_neg (by simp [ht]; omega), if_neg (by simp)];rfl
theorem zM2 {g : Gx} {now : Int} {p : Pkx} (hg : g.ok = true) (ht : zGc now = true) (hta : g.ta ≤ now) (hst : g.st = 1) : zAY g now 1 p = (zAJ { g with ta := now } 2 now, zBI (zAJ { g with ta := now } 2 now) 0 ⟨1, 0, g.own.oct⟩, 0) := by
 unfold zAY gEv zOC;rw [if_neg (by simp [hg]), if_neg (by simp [ht]; omega), if_neg (by simp)];simp only [if_true, hst];rfl
theorem recv_kind {g : Gx} {now : Int} {tg : Int} {c : Ckx} : zFm g now ⟨g.tt, g.fr, tg, [c]⟩ = zAS g now tg c := by
 unfold zFm;rw [if_pos ⟨rfl, rfl⟩];rfl
theorem zGk {g : Gx} {now : Int} {d : Ini} (hd : zAh d = true) (hst : g.st ≤ 3) : zAS g now 0 ⟨1, 0, d.oct⟩ = (g, zBI g d.tag ⟨2, 0, Ini.oct { g.own with ck := ckS g d.oct now }⟩) := by
 obtain ⟨i1, i2⟩ := zIr hd;unfold zAS zEF;rw [if_pos rfl, if_pos ⟨i1, rfl, hst⟩, i2]
theorem zFL {g : Gx} {now : Int} {d : Ini} (hd : d.ok = true) (hc : d.ck ≠ []) (hst : g.st = 2) : zAS g now g.own.tag ⟨2, 0, d.oct⟩ = ({ zAJ g 3 now with ck := d.ck, peer := { d with ck := [] } }, zBI g d.tag ⟨10, 0, d.ck⟩) := by
 obtain ⟨i1, i2⟩ := zMx hd hc;unfold zAS zEG;rw [if_neg (by simp), if_neg (by simp), if_pos rfl, if_pos ⟨i1, hst⟩, i2];rfl
theorem zGl {g : Gx} {now : Int} {b : List UInt8} : zAS g now g.own.tag ⟨10, 0, b⟩ = zFF g now b := by
 unfold zAS;rw [if_neg (by simp), if_neg (by simp), if_neg (by simp), if_pos rfl]
theorem zIB {g : Gx} {now : Int} (hst : g.st = 3) : zAS g now g.own.tag ⟨11, 0, []⟩ = (zAW g 4, []) := by
 unfold zAS;rw [if_neg (by simp), if_neg (by simp), if_neg (by simp), if_neg (by simp), if_pos rfl, if_pos hst]
def exA : Ini := ⟨11, 1000, 1, 1, 5, []⟩
def exB : Ini := ⟨22, 1000, 1, 1, 7, []⟩
def exG (second : Bool) : Gx := if second then zLJ 2 1 (List.replicate 32 98) exB else zLJ 1 2 (List.replicate 32 97) exA
def pk0 : Pkx := ⟨0, 0, 0, []⟩
structure ExRun (a1 a2 a3 a4 : Gx) (p1 p2 p3 p5 pl q2 q3 : Pkx) (b1 a5 bl b5 a6 : Gx) (c2 c3 c5 cl : Ckx) : Prop where
 s1 : zAY (exG false) 0 1 pk0 = (a1, [p1], 0)
 a1s : a1.st = 2
 a1d : a1.due = 400
 p1t : p1.tg = 0
 f1 : zAY a1 399 4 pk0 = (a2, [], 0)
 a2d : a2.due = 400
 f2 : zAY a2 400 4 pk0 = (a3, [q2], 0)
 a3d : a3.due = 1200
 f3 : zAY a3 1200 4 pk0 = (a4, [q3], 0)
 a4d : a4.due = 2800
 s2 : zAY (exG true) 10 5 p1 = (b1, [p2], 0)
 b1s : b1.st = 1
 p2t : p2.tg = 11
 p2c : p2.cs = [c2]
 c2k : c2.kd = 2
 s3 : zAY a1 20 5 p2 = (a5, [p3], 0)
 a5s : a5.st = 3
 p3t : p3.tg = 22
 p3c : p3.cs = [c3]
 c3k : c3.kd = 10
 sl : zAY b1 60011 5 p3 = (bl, [pl], 0)
 bls : bl.st = 1
 plt : pl.tg = 11
 plc : pl.cs = [cl]
 clk : cl.kd = 6
 s4 : zAY b1 30 5 p3 = (b5, [p5], 0)
 b5s : b5.st = 4
 p5c : p5.cs = [c5]
 c5k : c5.kd = 11
 s5 : zAY a5 40 5 p5 = (a6, [], 0)
 a6s : a6.st = 4
 e1 : zAY a4 1200 2 pk0 = (zGx, [], 8)
 e2 : zAY a4 1200 1 pk0 = (zGx, [], 8)
theorem zR8 : ∃ a1 a2 a3 a4 p1 p2 p3 p5 pl q2 q3 b1 a5 bl b5 a6 c2 c3 c5 cl, ExRun a1 a2 a3 a4 p1 p2 p3 p5 pl q2 q3 b1 a5 bl b5 a6 c2 c3 c5 cl := by
 have s1 : zAY (exG false) 0 1 pk0 = (zAJ (exG false) 2 0, [⟨1, 2, 0, [⟨1, 0, exA.oct⟩]⟩], 0) := by kernel_rfl
 have G1 := zAg s1;have P1 := (G1.pk _ (List.mem_singleton.2 rfl)).1;have B0 : (exG true).ok = true := by kernel_rfl
 have hA : zAh exA = true := by kernel_rfl
 have hB : zAh exB = true := by kernel_rfl
 have s2 := zFK B0 (now := 10) (by kernel_rfl) (by decide) P1;rw [show (⟨1, 2, 0, [⟨1, 0, exA.oct⟩]⟩ : Pkx) = ⟨({ exG true with ta := 10 } : Gx).tt, ({ exG true with ta := 10 } : Gx).fr, 0, [⟨1, 0, exA.oct⟩]⟩ from rfl, recv_kind, zGk hA (by decide)] at s2;obtain ⟨C, hC⟩ : ∃ C, C = ckS { exG true with ta := 10 } exA.oct 10 := ⟨_, rfl⟩;have hC2 := hC;rw [← hC] at s2;have hCl : C.length = 62 := by rw [hC]; exact (zKU _ hA (by decide)).1
 have G2 := zAg s2;have P2 := (G2.pk _ (List.mem_singleton.2 rfl)).1;have G2o := G2.ok;have dok : ({ exB with ck := C } : Ini).ok = true := by
  have : exB.ok = true := by kernel_rfl
  unfold Ini.ok at this ⊢;simp [hCl, exB, zBP]
 have hCn : ({ exB with ck := C } : Ini).ck ≠ [] := by intro h; rw [show ({ exB with ck := C } : Ini).ck = C from rfl] at h; rw [h] at hCl; simp at hCl
 have r3 := recv_kind.trans (zFL (g := { zAJ (exG false) 2 0 with ta := 20 }) (now := 20) dok hCn rfl);have e3 : zFm { zAJ (exG false) 2 0 with ta := 20 } 20 ⟨2, 1, 11, [⟨2, 0, Ini.oct { exB with ck := C }⟩]⟩ = ({ zAJ { zAJ (exG false) 2 0 with ta := 20 } 3 20 with ck := C, peer := exB }, [⟨1, 2, 22, [⟨10, 0, C⟩]⟩]) := r3;rw [show (zBI { exG true with ta := 10 } exA.tag ⟨2, 0, Ini.oct { ({ exG true with ta := 10 } : Gx).own with ck := C }⟩) = [⟨2, 1, 11, [⟨2, 0, Ini.oct { exB with ck := C }⟩]⟩] from rfl] at s2;have s3' : zAY (zAJ (exG false) 2 0) 20 5 ⟨2, 1, 11, [⟨2, 0, Ini.oct { exB with ck := C }⟩]⟩ = ({ zAJ { zAJ (exG false) 2 0 with ta := 20 } 3 20 with ck := C, peer := exB }, [⟨1, 2, 22, [⟨10, 0, C⟩]⟩], 0) := by
  exact (zFK G1.ok (now := 20) (by kernel_rfl) (by rw [G1.ta]; decide) P2).trans (congrArg (fun r : Gx × List Pkx => (r.1, r.2, (0 : Int))) e3)
 have G3 := zAg s3';have P3 := (G3.pk _ (List.mem_singleton.2 rfl)).1;have bta : ({ exG true with ta := 10 } : Gx).ta = 10 := rfl;have rb : ∀ now : Int, zFm { ({ exG true with ta := 10 } : Gx) with ta := now } now ⟨1, 2, 22, [⟨10, 0, C⟩]⟩ = zFF { exG true with ta := now } now (ckS { exG true with ta := now } exA.oct 10) := by
  intro now;have h := (recv_kind (g := { exG true with ta := now }) (now := now) (tg := 22) (c := ⟨10, 0, C⟩)).trans (zGl (g := { exG true with ta := now }) (now := now) (b := C));rw [show ckS { exG true with ta := now } exA.oct 10 = C from (zIs rfl rfl rfl rfl _ _).trans hC2.symm];exact h
 have el := zFv { exG true with ta := 60011 } hA (t := 10) (by decide) 60011;rw [if_pos ⟨by decide, by decide⟩] at el;have e4 := zFv { exG true with ta := 30 } hA (t := 10) (by decide) 30;rw [if_neg (by decide), if_pos (by decide)] at e4;have sl : zAY { exG true with ta := 10 } 60011 5 ⟨1, 2, 22, [⟨10, 0, C⟩]⟩ = ({ exG true with ta := 60011 }, [⟨2, 1, 11, [⟨6, 0, []⟩]⟩], 0) := by
  exact (zFK G2o (by kernel_rfl) (show (10 : Int) ≤ 60011 by decide) P3).trans <| congrArg (fun r : Gx × List Pkx => (r.1, r.2, (0 : Int))) ((rb 60011).trans el)
 have s4 : zAY { exG true with ta := 10 } 30 5 ⟨1, 2, 22, [⟨10, 0, C⟩]⟩ = ({ zAW { exG true with ta := 30 } 4 with peer := exA }, [⟨2, 1, 11, [⟨11, 0, []⟩]⟩], 0) := by
  exact (zFK G2o (by kernel_rfl) (show (10 : Int) ≤ 30 by decide) P3).trans <| congrArg (fun r : Gx × List Pkx => (r.1, r.2, (0 : Int))) ((rb 30).trans e4)
 have P4 := ((zAg s4).pk _ (List.mem_singleton.2 rfl)).1;have s5 : zAY { zAJ { zAJ (exG false) 2 0 with ta := 20 } 3 20 with ck := C, peer := exB } 40 5 ⟨2, 1, 11, [⟨11, 0, []⟩]⟩ = (zAW { ({ zAJ { zAJ (exG false) 2 0 with ta := 20 } 3 20 with ck := C, peer := exB } : Gx) with ta := 40 } 4, [], 0) := by
  exact (zFK G3.ok (by kernel_rfl) (show (20 : Int) ≤ 40 by decide) P4).trans <| congrArg (fun r : Gx × List Pkx => (r.1, r.2, (0 : Int))) ((recv_kind (g := { ({ zAJ { zAJ (exG false) 2 0 with ta := 20 } 3 20 with ck := C, peer := exB } : Gx) with ta := 40 })).trans (zIB rfl))
 exact ⟨_, { zAJ (exG false) 2 0 with ta := 399 }, ⟨2, 1, 2, List.replicate 32 97, exA, zIni, [], 400, 1200, 2⟩, ⟨2, 1, 2, List.replicate 32 97, exA, zIni, [], 1200, 2800, 3⟩, _, _, _, _, _, ⟨1, 2, 0, [⟨1, 0, exA.oct⟩]⟩, ⟨1, 2, 0, [⟨1, 0, exA.oct⟩]⟩, _, _, _, _, _, _, _, _, _,
  { s1 := s1, a1s := rfl, a1d := rfl, p1t := rfl, f1 := by kernel_rfl, a2d := rfl, f2 := by kernel_rfl, a3d := rfl, f3 := by kernel_rfl, a4d := rfl, s2 := s2, b1s := rfl, p2t := rfl, p2c := rfl, c2k := rfl, s3 := s3', a5s := rfl, p3t := rfl, p3c := rfl, c3k := rfl, sl := sl, bls := rfl, plt := rfl, plc := rfl, clk := rfl, s4 := s4, b5s := rfl, p5c := rfl, c5k := rfl, s5 := s5, a6s := rfl, e1 := by kernel_rfl, e2 := by kernel_rfl }⟩
theorem zIC (s : Bool) {n : Nat} (h : n < 65536) : (zB0 s n).hd = true := by
 rw [zJm];have hp : zAh (zB0 s n).own = true := by
  unfold zAh Ini.ok zBP zB0;cases s <;> simp <;> omega
 refine ⟨?_, ?_, ?_, ?_, ?_, hp, by cases s <;> rfl⟩ <;> cases s <;> simp [zB0]
theorem zID (s : Bool) {n : Nat} (h : n < 65536) : (zB0 s n).ok = true := by
 rw [zFH];exact ⟨zIC s h, by cases s <;> rfl, by cases s <;> rfl⟩
def zOV (g : Gx) (i : Nat) (now at1 : Int) : Gx := { g with st := 2, ta := at1, due := now + wtS i, tr := (i : Int) + 1, ck := [], peer := zIni }
def zM3 (g : Gx) : Pkx := ⟨g.fr, g.tt, 0, [⟨1, 0, g.own.oct⟩]⟩
theorem zP8 (i : Nat) : 400 ≤ wtS i ∧ wtS i ≤ 6400 := by
 unfold wtS;have : (1 : Int) ≤ 2 ^ i := by exact_mod_cast Nat.one_le_two_pow
 have h : ((i : Int)).toNat = i := by omega
 rw [h];omega
theorem zSI {g : Gx} (hg : g.ok = true) (hst : g.st = 1) (hta : g.ta = 0) (hp : g.peer = zIni) {p : Pkx} : zAY g 0 1 p = (zOV g 0 0 0, [zM3 g], 0) := by
 rw [zM2 hg (by decide) (by omega) hst];unfold zAJ zOV zBI zM3;simp only [hp];rfl
def Pkx.sm (p : Pkx) : Prop := p.cs.length ≤ 1000000 ∧ ∀ c ∈ p.cs, c.bd.length ≤ 1000000
theorem zGm (w z : List Pkx) {i : Nat} (h : i < w.length) : (((w ++ z).map Pkx.row).take i) ++ (((w ++ z).map Pkx.row).drop (i + 1)).take (w.length - (i + 1)) = (w.eraseIdx i).map Pkx.row := by
 rw [← List.map_take, ← List.map_drop, ← List.map_take, ← uJ, uF (by omega), qE (by omega), uF (by simp), zW (l := List.drop _ _) (by simp), List.eraseIdx_eq_take_drop_succ]
theorem zIE {p : Pkx} (h : p.ok = true) : p.sm := by
 unfold Pkx.ok Pkx.hd at h;simp only [zG, decide_eq_true_eq, wC] at h;refine ⟨by omega, fun c hc => ?_⟩;have := h.1.2 c hc;unfold Ckx.ok at this; simp only [zG, decide_eq_true_eq] at this; omega
theorem zTV {P : Program} {f : FuncId} {args args2 : List PV} {F : SF} {L nx top : Nat} {K : PV → List (Nm × SBlk) → List Nm → Nat → Prop} {v : PV} {upd : List (Nm × SBlk)} {rd : List Nm} (hw : WkL F args args2) (h0 : zAu args args2 = []) (hc : Con P f args2 F L nx top v upd rd) (hk : K v upd rd top) : CallVC P f args F L nx K :=
 CallVC.gen hw (by rw [h0]; exact hc) (by rw [h0]; exact hk)
structure Mv where
 what : Nat
 which : Nat
 later : Nat
def Tk.g (k : Tk) (s : Bool) : Gx := match s with | false => k.g0 | true => k.g1
def Tk.w (k : Tk) (s : Bool) : List Pkx := match s with | false => k.w0 | true => k.w1
def Tk.ev (k : Tk) (s : Bool) (h : Gx) (v o : List Pkx) : Tk := match s with
 | false => ⟨h, k.g1, v, k.w1 ++ o, k.now⟩
 | true => ⟨k.g0, h, k.w0 ++ o, v, k.now⟩
def Tk.tm (k : Tk) (t : Int) : Tk := { k with now := t }
theorem zTg (k : Tk) (t : Int) (s : Bool) : (k.tm t).g s = k.g s := by cases s <;> rfl
theorem zTt (k : Tk) (t : Int) (s : Bool) : (k.tm t).w s = k.w s := by cases s <;> rfl
theorem zTU (k : Tk) (s : Bool) (h : Gx) (v o : List Pkx) : (k.ev s h v o).now = k.now := by cases s <;> rfl
theorem zTh (k : Tk) (s : Bool) (h : Gx) (v o : List Pkx) : (k.ev s h v o).g s = h := by cases s <;> rfl
theorem zTi (k : Tk) (s : Bool) (h : Gx) (v o : List Pkx) : (k.ev s h v o).g (!s) = k.g (!s) := by cases s <;> rfl
theorem zTp (k : Tk) (s : Bool) (h : Gx) (v o : List Pkx) : (k.ev s h v o).w s = v := by cases s <;> rfl
theorem zTn (k : Tk) (s : Bool) (h : Gx) (v o : List Pkx) : (k.ev s h v o).w (!s) = k.w (!s) ++ o := by cases s <;> rfl
def zG3 (k : Tk) (s : Bool) (v : List Pkx) (kind : Int) (p : Pkx) : Option Tk :=
 match zAY (k.g s) k.now kind p with
 | (h, o, e) => if e = 0 then some (k.ev s h v o) else none
def zDS (k : Tk) (s : Bool) (which : Nat) (kept lost : Bool) : Option Tk :=
 if k.w s = [] then some k else
 let i := which % (k.w s).length
 let v := if kept then k.w s else (k.w s).eraseIdx i
 if lost then some (k.ev s (k.g s) v []) else zG3 k s v 5 ((k.w s).getD i pk0)
def mvS (x : Tk × Nat) (m : Mv) : Option (Tk × Nat) :=
 let s := m.which % 2 == 1
 let k := x.1.tm (x.1.now + m.later)
 if m.what % 4 = 0 then
  if x.2 = 5 then some (k, x.2) else (zG3 (k.tm (max k.now (k.g s).due)) s (k.w s) 4 pk0).map fun k' => (k', x.2 + 1)
 else (zDS k s (m.which / 2) (m.what % 4 == 3) (m.what % 4 == 2)).map fun k' => (k', x.2)
def mvR : List Mv → Tk × Nat → Option (Tk × Nat)
 | [], x => some x
 | m :: l, x => (mvS x m).bind (mvR l)
def qS (k : Tk) : Option Tk :=
 if k.w0 ≠ [] then zDS k false 0 false false
 else if k.w1 ≠ [] then zDS k true 0 false false
 else if 0 ≤ k.g0.due then zG3 (k.tm (max k.now k.g0.due)) false k.w0 4 pk0
 else zG3 (k.tm (max k.now k.g1.due)) true k.w1 4 pk0
def zLB (k : Tk) : Prop := k.w0 = [] ∧ k.w1 = [] ∧ k.g0.due < 0 ∧ k.g1.due < 0
instance (k : Tk) : Decidable (zLB k) := by unfold zLB; infer_instance
def qR : Nat → Tk → Option Tk
 | 0, _ => none
 | f + 1, k => if zLB k then some k else (qS k).bind (qR f)
theorem zDk (f : Nat) (k : Tk) : qR (f + 1) k = if zLB k then some k else (qS k).bind (qR f) := rfl
theorem zFw {k : Tk} {s : Bool} {v : List Pkx} {kind : Int} {p : Pkx} {h : Gx} {o : List Pkx} (hs : zAY (k.g s) k.now kind p = (h, o, 0)) : zG3 k s v kind p = some (k.ev s h v o) := by
 unfold zG3;simp only [hs, if_true]
theorem zEs {k k' : Tk} {s : Bool} {v : List Pkx} {kind : Int} {p : Pkx} (h : zG3 k s v kind p = some k') : ∃ h o, zAY (k.g s) k.now kind p = (h, o, 0) ∧ k' = k.ev s h v o := by
 unfold zG3 at h;split at h;rename_i g o e he;split at h
 ·rename_i h0;subst h0;injection h with h;exact ⟨g, o, he, h.symm⟩
 ·cases h
def Wy (k : Tk) (n : Nat) : Prop := k.w0.length ≤ n ∧ k.w1.length ≤ n ∧ (∀ p ∈ k.w0, p.sm) ∧ (∀ p ∈ k.w1, p.sm)
theorem Wy.w {k : Tk} {n : Nat} (h : Wy k n) (s : Bool) : (k.w s).length ≤ n ∧ ∀ p ∈ k.w s, p.sm := by
 cases s;·exact ⟨h.1, h.2.2.1⟩
 ·exact ⟨h.2.1, h.2.2.2⟩
theorem Wy.of {k : Tk} {n : Nat} (h : ∀ s, (k.w s).length ≤ n ∧ ∀ p ∈ k.w s, p.sm) : Wy k n := ⟨(h false).1, (h true).1, (h false).2, (h true).2⟩
structure Cor (c g : Gx) : Prop where
 fr : g.fr = c.fr
 tt : g.tt = c.tt
 sec : g.sec = c.sec
 own : g.own = c.own
structure Fit (C : Bool → Gx) : Prop where
 hd : ∀ s, (C s).hd = true
 pt : ∀ s, (C s).tt = (C !s).fr
theorem Fit.tf {C : Bool → Gx} (h : Fit C) (s : Bool) : (C s).fr = (C !s).tt := by
 have := h.pt (!s); rw [wY] at this; exact this.symm
theorem Fit.own {C : Bool → Gx} (h : Fit C) (s : Bool) : zAh (C s).own = true := ((zJm _).1 (h.hd s)).2.2.2.2.2.1
theorem Fit.tag {C : Bool → Gx} (h : Fit C) (s : Bool) : 0 < (C s).own.tag ∧ (C s).own.tag < 4294967296 := by
 have := zIq (zCA (h.own s)).1; omega
def pTo (C : Bool → Gx) (s : Bool) (tag : Int) (c : Ckx) : Pkx := ⟨(C !s).fr, (C !s).tt, tag, [c]⟩
theorem zIt {C : Bool → Gx} (h : Fit C) (s : Bool) {tag : Int} (ht : 0 ≤ tag ∧ tag < 4294967296) {c : Ckx} (hc : 0 ≤ c.kd ∧ c.kd < 256) (hf : c.fl = 0) (hb : c.bd.length ≤ 300) : (pTo C s tag c).ok = true :=
 (zHT (h.hd !s) ht hc hf hb _ (List.mem_singleton.2 rfl)).1
theorem zBU {C : Bool → Gx} {s : Bool} {g : Gx} (h : Cor (C s) g) (tag : Int) (c : Ckx) : zBI g tag c = [pTo C (!s) tag c] := by
 unfold zBI pTo;rw [wY, h.fr, h.tt]
theorem zOW {C : Bool → Gx} (hC : Fit C) {s : Bool} {g : Gx} (h : Cor (C s) g) (now tag : Int) (c : Ckx) : zFm g now (pTo C s tag c) = zAS g now tag c := by
 have : pTo C s tag c = ⟨g.tt, g.fr, tag, [c]⟩ := by
  unfold pTo;rw [h.fr, h.tt, hC.pt s, hC.tf s]
 rw [this, recv_kind]
theorem zKW {c g : Gx} (h : Cor c g) (b : List UInt8) (t : Int) : ckS g b t = ckS c b t := zIs (by rw [h.own]) h.fr h.tt h.sec b t
theorem zP9 {C : Bool → Gx} (hC : Fit C) {s : Bool} {g : Gx} (h : Cor (C s) g) (hg : g.ok = true) {now : Int} (hn : 0 ≤ now ∧ now ≤ 1099511627776) (hta : g.ta ≤ now) {tag : Int} {c : Ckx} (hp : (pTo C s tag c).ok = true) :
  zAY g now 5 (pTo C s tag c) = ((zAS { g with ta := now } now tag c).1, (zAS { g with ta := now } now tag c).2, 0) := by
 rw [zFK hg ((zB8 now).2 hn) hta hp];have := zOW hC (s := s) (g := { g with ta := now }) ⟨h.fr, h.tt, h.sec, h.own⟩ now tag c;rw [this]
theorem zC3 {c g : Gx} (h : Cor c g) (t : Int) : Cor c { g with ta := t } := ⟨h.fr, h.tt, h.sec, h.own⟩
structure SI (C : Bool → Gx) (s : Bool) (now : Int) (w : Nat) (g : Gx) : Prop where
 ok : g.ok = true
 cor : Cor (C s) g
 ta : g.ta ≤ now
 due : g.due ≤ now + 6400
 tr : g.tr ≤ 1 + w
theorem SI.mono {C : Bool → Gx} {s : Bool} {now : Int} {w : Nat} {g : Gx} (h : SI C s now w g) {now2 : Int} (hn : now ≤ now2) {w2 : Nat} (hw : w ≤ w2) : SI C s now2 w2 g :=
 ⟨h.ok, h.cor, by have := h.ta; omega, by have := h.due; omega, by have := h.tr; omega⟩
theorem zOX {c g : Gx} (h : Cor c g) (now tag : Int) (x : Ckx) : Cor c (zAS g now tag x).1 := by
 unfold zAS;split
 ·unfold zEF; split <;> exact h
 split;·exact h
 split
 ·unfold zEG; split <;> exact ⟨h.fr, h.tt, h.sec, h.own⟩
 split
 ·unfold zFF; simp only; split
  ·split;·exact h
   split;·exact ⟨h.fr, h.tt, h.sec, h.own⟩
   split <;> exact h
  ·exact h
 split
 ·split <;> exact ⟨h.fr, h.tt, h.sec, h.own⟩
 split
 ·unfold zGd; split;·exact ⟨h.fr, h.tt, h.sec, h.own⟩
  split <;> exact h
 split
 ·unfold zEH; split <;> exact ⟨h.fr, h.tt, h.sec, h.own⟩
 split
 ·split <;> exact ⟨h.fr, h.tt, h.sec, h.own⟩
 split
 ·split <;> exact ⟨h.fr, h.tt, h.sec, h.own⟩
 ·exact h
theorem zOY {g : Gx} {now : Int} {w : Nat} (h1 : g.due ≤ now + 6400) (h2 : g.tr ≤ 1 + w) (h0 : 0 ≤ now) (tag : Int) (x : Ckx) : (zAS g now tag x).1.due ≤ now + 6400 ∧ (zAS g now tag x).1.tr ≤ 1 + w := by
 have hb : ∀ s, (zAJ g s now).due ≤ now + 6400 ∧ (zAJ g s now).tr ≤ 1 + w := fun s => ⟨by unfold zAJ; simp only; omega, by unfold zAJ; simp only; omega⟩
 have hr : ∀ s, (zAW g s).due ≤ now + 6400 ∧ (zAW g s).tr ≤ 1 + w := fun s => ⟨by unfold zAW; simp only; omega, by unfold zAW; simp only; omega⟩
 have hg : g.due ≤ now + 6400 ∧ g.tr ≤ 1 + w := ⟨h1, h2⟩;unfold zAS;split
 ·unfold zEF; split <;> exact hg
 split;·exact hg
 split
 ·unfold zEG; split;·exact hb 3
  ·exact hg
 split
 ·unfold zFF; simp only; split
  ·split;·exact hg
   split;·exact hr 4
   split <;> exact hg
  ·exact hg
 split
 ·split;·exact hr 4
  ·exact hg
 split
 ·unfold zGd; split;·exact hb 6
  split <;> exact hg
 split
 ·unfold zEH; split;·exact hr 7
  ·exact hg
 split
 ·split;·exact hr 7
  ·exact hg
 split
 ·split;·exact hg
  ·exact hr 7
 ·exact hg
theorem SI.recv {C : Bool → Gx} (hC : Fit C) {s : Bool} {now : Int} {w : Nat} {g : Gx} (h : SI C s now w g) (hn : 0 ≤ now ∧ now ≤ 1099511627776) {tag : Int} {c : Ckx} (hp : (pTo C s tag c).ok = true) :
  zAY g now 5 (pTo C s tag c) = ((zAS { g with ta := now } now tag c).1, (zAS { g with ta := now } now tag c).2, 0) ∧ SI C s now w (zAS { g with ta := now } now tag c).1 := by
 have hs := zP9 hC h.cor h.ok hn h.ta hp;have G := zAg hs;have hd := zOY (g := { g with ta := now }) h.due h.tr hn.1 tag c;exact ⟨hs, G.ok, zOX (zC3 h.cor now) now tag c, by rw [G.ta]; exact wQ _, hd.1, hd.2⟩
theorem SI.tick {C : Bool → Gx} {s : Bool} {now : Int} {w : Nat} {g : Gx} (h : SI C s now w g) (hn : 0 ≤ now ∧ now ≤ 1099511627776) {p : Pkx} (hw : w ≤ 6) :
  zAY g now 4 p = ((zD4 { g with ta := now } now).1, (zD4 { g with ta := now } now).2, 0) ∧ SI C s now (w + 1) (zD4 { g with ta := now } now).1 := by
 have hs := zP7 (p := p) h.ok ((zB8 now).2 hn) h.ta;have G := zAg hs;have h1 := h.due;have h2 := h.tr;refine ⟨hs, G.ok, ?_, by rw [G.ta]; exact wQ _, ?_, ?_⟩ <;> unfold zD4 <;> split
 ·exact zC3 h.cor now
 ·split <;> exact ⟨h.cor.fr, h.cor.tt, h.cor.sec, h.cor.own⟩
 ·show g.due ≤ now + 6400; exact h1
 ·split;·show (-1 : Int) ≤ now + 6400; omega
  ·have := zMm g.tr;show now + wtS g.tr ≤ now + 6400; omega
 ·show g.tr ≤ 1 + ((w + 1 : Nat) : Int); omega
 ·split;·show (0 : Int) ≤ 1 + ((w + 1 : Nat) : Int); omega
  ·show g.tr + 1 ≤ 1 + ((w + 1 : Nat) : Int); omega
theorem SI.tick_is {C : Bool → Gx} {s : Bool} {now : Int} {w : Nat} {g : Gx} (h : SI C s now w g) (hw : w ≤ 6) :
  zD4 { g with ta := now } now = ({ g with ta := now }, []) ∨ (0 ≤ g.due ∧ g.due ≤ now ∧ zD4 { g with ta := now } now = ({ g with ta := now, due := now + wtS g.tr, tr := g.tr + 1 }, zAl { g with ta := now })) := by
 have h2 := h.tr;unfold zD4;split;·exact .inl rfl
 rename_i hd;refine .inr ⟨?_, ?_, ?_⟩
 ·by_cases h0 : 0 ≤ g.due;·exact h0
  ·exact absurd (.inl (by show g.due < 0; omega)) hd
 ·by_cases h0 : g.due ≤ now;·exact h0
  ·exact absurd (.inr (by show now < g.due; omega)) hd
 rw [if_neg (by show g.tr ≠ 8; omega)]
def wts (wt : Pkx → Nat) (l : List Pkx) : Nat := (l.map wt).sum
structure Prot (C : Bool → Gx) (M : Bool → Int → Int → Gx → Prop) (P : Bool → Int → Int → Pkx → Prop) (wt : Pkx → Nat) : Prop where
 fit : Fit C
 mM : ∀ {s now st g now2 st2}, M s now st g → now ≤ now2 → st ≤ st2 → M s now2 st2 g
 mP : ∀ {s now st p now2 st2}, P s now st p → now ≤ now2 → st ≤ st2 → P s now2 st2 p
 ok : ∀ {s now st p}, P s now st p → p.ok = true
 ta : ∀ {s now st g} (t : Int), M s now st g → M s now st { g with ta := t }
 tick : ∀ {s now st g} (d n : Int), M s now st g → M s now st { g with due := d, tr := n }
 wt4 : ∀ p, wt p ≤ 4
 kind : ∀ {s now st g p}, (0 ≤ now ∧ now ≤ 60000) → Cor (C s) g → g.ok = true → M s now st g → P s now st p →
  ∃ tag c, p = pTo C s tag c ∧ M s now st (zAS g now tag c).1 ∧ g.st ≤ (zAS g now tag c).1.st ∧ (∀ x ∈ (zAS g now tag c).2, P (!s) now (zAS g now tag c).1.st x) ∧ wts wt (zAS g now tag c).2 < wt p
 again : ∀ {s now st g}, Cor (C s) g → M s now st g → ∀ x ∈ zAl g, P (!s) now g.st x
structure KI (C : Bool → Gx) (M : Bool → Int → Int → Gx → Prop) (P : Bool → Int → Int → Pkx → Prop) (k : Tk) (w : Nat) : Prop where
 si : ∀ s, SI C s k.now w (k.g s)
 m : ∀ s, M s k.now (k.g !s).st (k.g s)
 p : ∀ s, ∀ p ∈ k.w s, P s k.now (k.g !s).st p
theorem KI.tm {C : Bool → Gx} {M : Bool → Int → Int → Gx → Prop} {P : Bool → Int → Int → Pkx → Prop} {wt : Pkx → Nat} (hP : Prot C M P wt) {k : Tk} {w : Nat} (h : KI C M P k w) {t : Int} (ht : k.now ≤ t) : KI C M P (k.tm t) w :=
 ⟨fun s => by rw [zTg]; exact (h.si s).mono ht (zA _), fun s => by rw [zTg, zTg]; exact hP.mM (h.m s) ht (wQ _), fun s p hp => by rw [zTt] at hp; rw [zTg]; exact hP.mP (h.p s p hp) ht (wQ _)⟩
theorem KI.le {C : Bool → Gx} {M : Bool → Int → Int → Gx → Prop} {P : Bool → Int → Int → Pkx → Prop} {k : Tk} {w w2 : Nat} (h : KI C M P k w) (hw : w ≤ w2) : KI C M P k w2 := ⟨fun s => (h.si s).mono (wQ _) hw, h.m, h.p⟩
theorem KI.ev {C : Bool → Gx} {M : Bool → Int → Int → Gx → Prop} {P : Bool → Int → Int → Pkx → Prop} {wt : Pkx → Nat} (hP : Prot C M P wt) {k : Tk} {w w2 : Nat} (h : KI C M P k w) (hw : w ≤ w2) (s : Bool) {g : Gx} {v o : List Pkx} (hs : SI C s k.now w2 g) (hm : M s k.now (k.g !s).st g) (hst : (k.g s).st ≤ g.st) (hv : ∀ p ∈ v, p ∈ k.w s) (ho : ∀ x ∈ o, P (!s) k.now g.st x) : KI C M P (k.ev s g v o) w2 := by
 have hnot : ∀ t : Bool, t = s ∨ t = !s := by intro t; cases s <;> cases t <;> simp
 refine ⟨fun t => ?_, fun t => ?_, fun t p hp => ?_⟩
 ·rw [zTU];rcases hnot t with rfl | rfl;·rw [zTh]; exact hs
  ·rw [zTi]; exact (h.si _).mono (wQ _) hw
 ·rw [zTU];rcases hnot t with rfl | rfl;·rw [zTh, zTi]; exact hm
  ·rw [zTi, wY, zTh];have := h.m (!s);rw [wY] at this;exact hP.mM this (wQ _) hst
 ·rw [zTU];rcases hnot t with rfl | rfl
  ·rw [zTp] at hp;rw [zTi];exact h.p _ p (hv p hp)
  ·rw [zTn] at hp;rw [wY, zTh];rcases List.mem_append.1 hp with hp | hp
   ·have := h.p (!s) p hp;rw [wY] at this;exact hP.mP this (wQ _) hst
   ·exact ho p hp
theorem KI.recv {C : Bool → Gx} {M : Bool → Int → Int → Gx → Prop} {P : Bool → Int → Int → Pkx → Prop} {wt : Pkx → Nat} (hP : Prot C M P wt) {k : Tk} {w : Nat} (h : KI C M P k w) (hn : 0 ≤ k.now ∧ k.now ≤ 60000) (s : Bool) {p : Pkx} (hp : p ∈ k.w s) {v : List Pkx} (hv : ∀ p ∈ v, p ∈ k.w s) :
  ∃ g o, zAY (k.g s) k.now 5 p = (g, o, 0) ∧ zG3 k s v 5 p = some (k.ev s g v o) ∧ KI C M P (k.ev s g v o) w ∧ o.length ≤ 1 ∧ wts wt o < wt p ∧ (k.g s).st ≤ g.st := by
 have hs := h.si s;obtain ⟨tag, c, e, k1, k2, k3, k4⟩ := hP.kind hn (zC3 hs.cor k.now) (by
  have := hs.ok;rw [zFH] at this ⊢;refine ⟨?_, this.2⟩;have h3 := this.1;rw [zJm] at h3 ⊢;exact ⟨h3.1, h3.2.1, h3.2.2.1, h3.2.2.2.1, h3.2.2.2.2.1, h3.2.2.2.2.2.1, (zB8 k.now).2 (by omega)⟩) (hP.ta k.now (h.m s)) (h.p s p hp)
 have hok := hP.ok (h.p s p hp);rw [e] at hok;obtain ⟨r1, r2⟩ := hs.recv hP.fit (by omega) hok;refine ⟨_, _, by rw [e]; exact r1, by rw [e]; exact zFw r1, h.ev hP (zA _) s r2 k1 k2 hv k3, (zAg r1).len, k4, k2⟩
theorem KI.tick {C : Bool → Gx} {M : Bool → Int → Int → Gx → Prop} {P : Bool → Int → Int → Pkx → Prop} {wt : Pkx → Nat} (hP : Prot C M P wt) {k : Tk} {w : Nat} (h : KI C M P k w) (hn : 0 ≤ k.now ∧ k.now ≤ 60000) (hw : w ≤ 6) (s : Bool) :
  ∃ g o, zAY (k.g s) k.now 4 pk0 = (g, o, 0) ∧ zG3 k s (k.w s) 4 pk0 = some (k.ev s g (k.w s) o) ∧ KI C M P (k.ev s g (k.w s) o) (w + 1) ∧ o.length ≤ 1 ∧ (k.g s).st ≤ g.st := by
 have hs := h.si s;obtain ⟨r1, r2⟩ := hs.tick (p := pk0) (by omega) hw;refine ⟨_, _, r1, zFw r1, ?_, (zAg r1).len, ?_⟩;rotate_left
 ·rcases hs.tick_is hw with e | ⟨_, _, e⟩ <;> rw [e] <;> exact wQ _
 rcases hs.tick_is hw with e | ⟨_, _, e⟩
 ·refine h.ev hP (by omega) s r2 ?_ ?_ (fun p hp => hp) ?_ <;> rw [e]
  ·exact hP.ta _ (h.m s)
  ·exact wQ _
  ·simp
 ·refine h.ev hP (by omega) s r2 ?_ ?_ (fun p hp => hp) ?_ <;> rw [e]
  ·exact hP.tick (k.now + wtS (k.g s).tr) ((k.g s).tr + 1) (hP.ta k.now (h.m s))
  ·exact wQ _
  ·exact hP.again (zC3 hs.cor _) (hP.ta k.now (h.m s))
theorem zM4 (k : Tk) (s : Bool) (g : Gx) (v o : List Pkx) : (k.ev s g v o).w0.length + (k.ev s g v o).w1.length + (k.w s).length = k.w0.length + k.w1.length + v.length + o.length := by
 cases s <;> simp [Tk.ev, Tk.w] <;> omega
theorem zM5 {k : Tk} {s : Bool} {g : Gx} {v o : List Pkx} (h : (k.g s).st ≤ g.st) : ∀ u, (k.g u).st ≤ ((k.ev s g v o).g u).st := by
 intro u;cases s <;> cases u
 ·exact h
 ·exact wQ _
 ·exact wQ _
 ·exact h
theorem KI.move {C : Bool → Gx} {M : Bool → Int → Int → Gx → Prop} {P : Bool → Int → Int → Pkx → Prop} {wt : Pkx → Nat} (hP : Prot C M P wt) {k : Tk} {w : Nat} (h : KI C M P k w) (hw : w ≤ 5) {i : Nat} (hi : i < 12) (h0 : 0 ≤ k.now) (hn : k.now ≤ 255 * i + 6400 * w) (m : Mv) (hm : m.later ≤ 255) :
  ∃ k2 w2, mvS (k, w) m = some (k2, w2) ∧ KI C M P k2 w2 ∧ w2 ≤ 5 ∧ 0 ≤ k2.now ∧ k2.now ≤ 255 * (i + 1 : Nat) + 6400 * w2 ∧ k2.w0.length + k2.w1.length ≤ k.w0.length + k.w1.length + 1 ∧ ∀ u, (k.g u).st ≤ (k2.g u).st := by
 have hT := h.tm hP (t := k.now + m.later) (by omega);obtain ⟨s, hs⟩ : ∃ s, s = (m.which % 2 == 1) := ⟨_, rfl⟩;obtain ⟨K, hK⟩ : ∃ K, K = k.tm (k.now + m.later) := ⟨_, rfl⟩;have kn : K.now = k.now + m.later := by rw [hK]; rfl
 have kl : K.w0.length + K.w1.length = k.w0.length + k.w1.length := by rw [hK]; rfl
 have kst : ∀ u, (k.g u).st ≤ (K.g u).st := by intro u; rw [hK, zTg]; exact wQ _
 unfold mvS;simp only [← hs, ← hK];rw [← hK] at hT;split
 ·split
  ·rename_i h5;exact ⟨_, _, rfl, hT, by omega, by omega, by omega, by omega, kst⟩
  ·rename_i h5;have hd := (hT.si s).due;obtain ⟨K2, hK2⟩ : ∃ K2, K2 = K.tm (max K.now (K.g s).due) := ⟨_, rfl⟩;have hT2 := hT.tm hP (t := max K.now (K.g s).due) (by omega);rw [← hK2] at hT2 ⊢;have kn2 : K2.now = max K.now (K.g s).due := by rw [hK2]; rfl
   have kw2 : K.w s = K2.w s := by rw [hK2, zTt]
   have kl2 : K2.w0.length + K2.w1.length = K.w0.length + K.w1.length := by rw [hK2]; rfl
   obtain ⟨g, o, e1, e2, e3, e4, e5⟩ := hT2.tick hP (by omega) (by omega) s;rw [kw2, e2];have el := zM4 K2 s g (K2.w s) o;exact ⟨_, _, rfl, e3, by omega, by rw [zTU]; omega, by rw [zTU]; omega, by omega, fun u => Int.le_trans (kst u) (by have := zM5 (v := K2.w s) (o := o) e5 u; rwa [hK2, zTg, ← hK2] at this)⟩
 ·unfold zDS;simp only;split;·exact ⟨_, _, rfl, hT, hw, by omega, by omega, by omega, kst⟩
  rename_i hne;have hlen : 0 < (K.w s).length := List.length_pos_iff.2 hne;obtain ⟨i', hi'⟩ : ∃ i', i' = m.which / 2 % (K.w s).length := ⟨_, rfl⟩;have hlt : i' < (K.w s).length := by rw [hi']; exact vB _ hlen
  rw [← hi'];obtain ⟨v, hv⟩ : ∃ v, v = if (m.what % 4 == 3) = true then K.w s else (K.w s).eraseIdx i' := ⟨_, rfl⟩
  have hvm : ∀ p ∈ v, p ∈ K.w s := by
   intro p hp;rw [hv] at hp;split at hp;·exact hp
   ·exact List.mem_of_mem_eraseIdx hp
  have hvl : v.length ≤ (K.w s).length := by
   rw [hv]; split;·exact zA _
   ·exact List.length_eraseIdx_le _ _
  rw [← hv];split
  ·have el := zM4 K s (K.g s) v [];refine ⟨_, _, rfl, hT.ev hP (zA _) s (hT.si s) (hT.m s) (wQ _) hvm (by simp), hw, by rw [zTU]; omega, by rw [zTU]; omega, by simp at el ⊢; omega, fun u => Int.le_trans (kst u) (zM5 (wQ _) u)⟩
  ·have hp : (K.w s).getD i' pk0 ∈ K.w s := by
    rw [zH, zN hlt];exact uT hlt
   obtain ⟨g, o, e1, e2, e3, e4, _, e6⟩ := hT.recv hP (by omega) s hp hvm;rw [e2];have el := zM4 K s g v o;exact ⟨_, _, rfl, e3, hw, by rw [zTU]; omega, by rw [zTU]; omega, by omega, fun u => Int.le_trans (kst u) (zM5 e6 u)⟩
theorem KI.moves {C : Bool → Gx} {M : Bool → Int → Int → Gx → Prop} {P : Bool → Int → Int → Pkx → Prop} {wt : Pkx → Nat} (hP : Prot C M P wt) (ms : List Mv) (hm : ∀ m ∈ ms, m.later ≤ 255) : ∀ {k : Tk} {w : Nat} {i : Nat}, KI C M P k w → w ≤ 5 → i + ms.length ≤ 12 → 0 ≤ k.now → k.now ≤ 255 * i + 6400 * w →
  ∃ k2 w2, mvR ms (k, w) = some (k2, w2) ∧ KI C M P k2 w2 ∧ w2 ≤ 5 ∧ 0 ≤ k2.now ∧ k2.now ≤ 255 * (i + ms.length : Nat) + 6400 * w2 ∧ k2.w0.length + k2.w1.length ≤ k.w0.length + k.w1.length + ms.length ∧ ∀ u, (k.g u).st ≤ (k2.g u).st := by
 induction ms with
 | nil => intro k w i h hw hi h0 hn; exact ⟨_, _, rfl, h, hw, h0, hn, zA _, fun u => wQ _⟩
 | cons m l ih =>
  intro k w i h hw hi h0 hn;simp only [wK] at hi;obtain ⟨k1, w1, e1, e2, e3, e4, e5, e6, e7⟩ := h.move hP hw (i := i) (by omega) h0 hn m (hm m (vI ..));obtain ⟨k2, w2, f1, f2, f3, f4, f5, f6, f7⟩ := ih (fun x hx => hm x (uR _ hx)) (i := i + 1) e2 e3 (by omega) e4 e5;refine ⟨k2, w2, ?_, f2, f3, f4, ?_, ?_, fun u => Int.le_trans (e7 u) (f7 u)⟩;·show (mvS (k, w) m).bind (mvR l) = _; rw [e1]; exact f1
  ·simp only [wK];rw [show i + (l.length + 1) = i + 1 + l.length by omega]; exact f5
  ·simp only [wK]; omega
theorem zFx (wt : Pkx → Nat) (p : Pkx) (l : List Pkx) : wts wt (p :: l) = wt p + wts wt l := by simp [wts]
theorem zM6 (wt : Pkx → Nat) (a b : List Pkx) : wts wt (a ++ b) = wts wt a + wts wt b := by simp [wts]
theorem zO1 {wt : Pkx → Nat} (h : ∀ p, wt p ≤ 4) (l : List Pkx) : wts wt l ≤ 4 * l.length := by
 induction l with
 | nil => simp [wts]
 | cons p l ih => have := h p; rw [zFx, wK]; omega
theorem KI.drain {C : Bool → Gx} {M : Bool → Int → Int → Gx → Prop} {P : Bool → Int → Int → Pkx → Prop} {wt : Pkx → Nat} (hP : Prot C M P wt) {w : Nat} : ∀ (n : Nat) {k : Tk}, wts wt k.w0 + wts wt k.w1 ≤ n → KI C M P k w → 0 ≤ k.now ∧ k.now ≤ 60000 →
  ∃ j k2, j ≤ n ∧ KI C M P k2 w ∧ k2.w0 = [] ∧ k2.w1 = [] ∧ k2.now = k.now ∧ (∀ f, qR (j + f) k = qR f k2) ∧ ∀ u, (k.g u).st ≤ (k2.g u).st := by
 intro n;induction n with
 | zero =>
  intro k hn h h0;have z : ∀ l : List Pkx, (∀ p ∈ l, 0 < wt p) → wts wt l = 0 → l = [] := by
   intro l hp hl;cases l with
   | nil => rfl
   | cons p l => have := hp p (vI ..); rw [zFx] at hl; omega
  have hpos : ∀ s, ∀ p ∈ k.w s, 0 < wt p := by
   intro s p hp;obtain ⟨g, o, _, _, _, _, e, _⟩ := h.recv hP h0 s hp (v := []) (by simp);omega
  exact ⟨0, k, zA _, h, z _ (hpos false) (by omega), z _ (hpos true) (by omega), rfl, fun f => by rw [zM], fun u => wQ _⟩
 | succ n ih =>
  intro k hn h h0;by_cases hw0 : k.w0 = []
  ·by_cases hw1 : k.w1 = [];·exact ⟨0, k, by omega, h, hw0, hw1, rfl, fun f => by rw [zM], fun u => wQ _⟩
   ·obtain ⟨p, l, hl⟩ : ∃ p l, k.w1 = p :: l := List.exists_cons_of_ne_nil hw1;have hwl : k.w true = p :: l := hl;obtain ⟨g, o, e1, e2, e3, e4, e5, e6⟩ := h.recv hP h0 true (p := p) (by rw [hwl]; exact vI ..) (v := l) (by rw [hwl]; exact fun x hx => uR _ hx);obtain ⟨j, k2, f1, f2, f3, f4, f5, f6, f7⟩ := ih (k := k.ev true g l o) (by
     show wts wt (k.w0 ++ o) + wts wt l ≤ n;rw [zM6]; rw [hl, zFx] at hn; omega) e3 (by rw [zTU]; exact h0)
    refine ⟨j + 1, k2, by omega, f2, f3, f4, by rw [f5, zTU], fun f => ?_, fun u => Int.le_trans (zM5 e6 u) (f7 u)⟩;rw [show j + 1 + f = (j + f) + 1 by omega];rw [zDk];unfold qS zDS;rw [if_neg (by unfold zLB; exact fun h => hw1 h.2.1), if_neg (by simp [hw0]), if_pos hw1];simp only [hwl, List.cons_ne_nil, if_false, Nat.zero_mod, List.eraseIdx_zero, List.tail_cons, zV, uE, e2, uN];exact f6 f
  ·obtain ⟨p, l, hl⟩ : ∃ p l, k.w0 = p :: l := List.exists_cons_of_ne_nil hw0;have hwl : k.w false = p :: l := hl;obtain ⟨g, o, e1, e2, e3, e4, e5, e6⟩ := h.recv hP h0 false (p := p) (by rw [hwl]; exact vI ..) (v := l) (by rw [hwl]; exact fun x hx => uR _ hx);obtain ⟨j, k2, f1, f2, f3, f4, f5, f6, f7⟩ := ih (k := k.ev false g l o) (by
    show wts wt l + wts wt (k.w1 ++ o) ≤ n;rw [zM6]; rw [hl, zFx] at hn; omega) e3 (by rw [zTU]; exact h0)
   refine ⟨j + 1, k2, by omega, f2, f3, f4, by rw [f5, zTU], fun f => ?_, fun u => Int.le_trans (zM5 e6 u) (f7 u)⟩;rw [show j + 1 + f = (j + f) + 1 by omega];rw [zDk];unfold qS zDS;rw [if_neg (by unfold zLB; exact fun h => hw0 h.1), if_pos hw0];simp only [hwl, List.cons_ne_nil, if_false, Nat.zero_mod, List.eraseIdx_zero, List.tail_cons, zV, uE, e2, uN];exact f6 f
theorem zGn {k : Tk} {s : Bool} {p : Pkx} (h1 : k.w s = [p]) (h2 : k.w (!s) = []) {g : Gx} {o : List Pkx} (hs : zAY (k.g s) k.now 5 p = (g, o, 0)) (f : Nat) : qR (f + 1) k = qR f (k.ev s g [] o) := by
 have e2 := zFw (v := []) hs;cases s with
 | false =>
  have hw0 : k.w0 ≠ [] := by rw [show k.w0 = [p] from h1]; simp
  rw [zDk];unfold qS zDS;rw [if_neg (by unfold zLB; exact fun h => hw0 h.1), if_pos hw0];simp only [h1, List.cons_ne_nil, if_false, List.length_singleton, Nat.zero_mod, List.eraseIdx_zero, List.tail_cons, zV, uE, e2, uN]
 | true =>
  have hw1 : k.w1 ≠ [] := by rw [show k.w1 = [p] from h1]; simp
  have hw0 : k.w0 = [] := h2;rw [zDk];unfold qS zDS;rw [if_neg (by unfold zLB; exact fun h => hw1 h.2.1), if_neg (by simp [hw0]), if_pos hw1];simp only [h1, List.cons_ne_nil, if_false, List.length_singleton, Nat.zero_mod, List.eraseIdx_zero, List.tail_cons, zV, uE, e2, uN]
theorem zRE {k : Tk} (h : zLB k) (f : Nat) : qR (f + 1) k = some k := by rw [zDk, if_pos h]
theorem zQA {k : Tk} {s : Bool} (h1 : k.w0 = []) (h2 : k.w1 = []) (hd : 0 ≤ (k.g s).due) (hs0 : s = true → k.g0.due < 0) {g : Gx} {o : List Pkx} (hs : zAY (k.g s) (max k.now (k.g s).due) 4 pk0 = (g, o, 0)) (f : Nat) : qR (f + 1) k = qR f ((k.tm (max k.now (k.g s).due)).ev s g [] o) := by
 have e2 := zFw (k := k.tm (max k.now (k.g s).due)) (s := s) (v := []) (by rw [zTg]; exact hs);cases s with
 | false =>
  have hd : 0 ≤ k.g0.due := hd;rw [zDk];unfold qS;rw [if_neg (by unfold zLB; exact fun h => by omega), if_neg (by simp [h1]), if_neg (by simp [h2]), if_pos hd, h1];exact congrArg (fun r => Option.bind r (qR f)) e2
 | true =>
  have hd : 0 ≤ k.g1.due := hd;rw [zDk];unfold qS;rw [if_neg (by unfold zLB; exact fun h => by omega), if_neg (by simp [h1]), if_neg (by simp [h2]), if_neg (by have := hs0 rfl; omega), h2];exact congrArg (fun r => Option.bind r (qR f)) e2
theorem KI.recvK {C : Bool → Gx} {M : Bool → Int → Int → Gx → Prop} {P : Bool → Int → Int → Pkx → Prop} {wt : Pkx → Nat} (hP : Prot C M P wt) {k : Tk} {w : Nat} (h : KI C M P k w) (hn : 0 ≤ k.now ∧ k.now ≤ 60000) (s : Bool) {tag : Int} {c : Ckx} (hp : pTo C s tag c ∈ k.w s) {v : List Pkx} (hv : ∀ p ∈ v, p ∈ k.w s) {g : Gx} {o : List Pkx} (he : zAS { k.g s with ta := k.now } k.now tag c = (g, o)) :
  zAY (k.g s) k.now 5 (pTo C s tag c) = (g, o, 0) ∧ KI C M P (k.ev s g v o) w := by
 obtain ⟨g', o', e1, _, e3, _⟩ := h.recv hP hn s hp hv;have r := ((h.si s).recv hP.fit (by omega) (hP.ok (h.p s _ hp))).1;rw [he] at r;rw [r] at e1;simp only [zU, and_true] at e1;obtain ⟨rfl, rfl⟩ := e1;exact ⟨r, e3⟩
def Ends (Q : Tk → Prop) (n : Nat) (k : Tk) : Prop := ∃ k2, (∀ f, n ≤ f → qR f k = some k2) ∧ Q k2
theorem Ends.step {Q : Tk → Prop} {n : Nat} {k k1 : Tk} (h : Ends Q n k1) (e : ∀ f, qR (f + 1) k = qR f k1) : Ends Q (n + 1) k := by
 obtain ⟨k2, h1, h2⟩ := h;refine ⟨k2, fun f hf => ?_, h2⟩;obtain ⟨f', rfl⟩ : ∃ f', f = f' + 1 := ⟨f - 1, by omega⟩;rw [e]; exact h1 f' (by omega)
theorem Ends.drain {Q : Tk → Prop} {n j : Nat} {k k1 : Tk} (h : Ends Q n k1) (e : ∀ f, qR (j + f) k = qR f k1) : Ends Q (j + n) k := by
 obtain ⟨k2, h1, h2⟩ := h;refine ⟨k2, fun f hf => ?_, h2⟩;obtain ⟨f', rfl⟩ : ∃ f', f = j + f' := ⟨f - j, by omega⟩;rw [e]; exact h1 f' (by omega)
theorem Ends.le {Q : Tk → Prop} {n m : Nat} {k : Tk} (h : Ends Q n k) (hm : n ≤ m) : Ends Q m k := by
 obtain ⟨k2, h1, h2⟩ := h;exact ⟨k2, fun f hf => h1 f (by omega), h2⟩
theorem Ends.end {Q : Tk → Prop} {k : Tk} (h : zLB k) (hq : Q k) : Ends Q 1 k := by
 refine ⟨k, fun f hf => ?_, hq⟩;obtain ⟨f', rfl⟩ : ∃ f', f = f' + 1 := ⟨f - 1, by omega⟩;exact zRE h f'
theorem zUF (k : Tk) (s : Bool) (h : Gx) (v o : List Pkx) : (k.ev (!s) h v o).w s = k.w s ++ o := by cases s <;> rfl
theorem zUG (k : Tk) (s : Bool) (h : Gx) (v o : List Pkx) : (k.ev (!s) h v o).g s = k.g s := by cases s <;> rfl
theorem zOZ {k : Tk} {s : Bool} (h1 : k.w s = []) (h2 : k.w (!s) = []) : k.w0 = [] ∧ k.w1 = [] := by cases s <;> exact ⟨by assumption, by assumption⟩
theorem zQB {k : Tk} {Q : Gx → Prop} {s : Bool} (h1 : Q (k.g s)) (h2 : Q (k.g !s)) : ∀ u, Q (k.g u) := by intro u; cases s <;> cases u <;> assumption
theorem zEt {g : Gx} (h : g.ok = true) (hs : g.st = 4 ∨ g.st = 7) : g.due = -1 := by
 have hm := ((zFH g).1 h).2.1;unfold Gx.mid Gx.rest at hm;rcases hs with hs | hs <;> simp [hs] at hm <;> omega
theorem zIF {g : Gx} (h : g.ok = true) (hs : g.st = 2 ∨ g.st = 3 ∨ g.st = 5 ∨ g.st = 6) : 0 ≤ g.due ∧ g.tr ≤ 8 := by
 have hm := ((zFH g).1 h).2.1;unfold Gx.mid Gx.tries at hm;rcases hs with hs | hs | hs | hs <;> simp [hs] at hm <;> omega
theorem KI.due {C : Bool → Gx} {M : Bool → Int → Int → Gx → Prop} {P : Bool → Int → Int → Pkx → Prop} {wt : Pkx → Nat} (hP : Prot C M P wt) {k : Tk} {w : Nat} (h : KI C M P k w) (hn : 0 ≤ k.now ∧ k.now ≤ 50000) (hw : w ≤ 6) {s : Bool} (h1 : k.w s = []) (h2 : k.w (!s) = []) (hd : 0 ≤ (k.g s).due) (hs0 : s = true → k.g0.due < 0) {a : Pkx} (ha : ∀ t, zAl { k.g s with ta := t } = [a]) :
  ∃ k1, (∀ f, qR (f + 1) k = qR f k1) ∧ KI C M P k1 (w + 1) ∧ k1.w s = [] ∧ k1.w (!s) = [a] ∧ (k1.g s).st = (k.g s).st ∧ k1.g (!s) = k.g (!s) ∧ (k1.g s).peer = (k.g s).peer ∧ 0 ≤ k1.now ∧ k1.now ≤ 60000 ∧ k.now ≤ k1.now := by
 have hdu := (h.si s).due;obtain ⟨z0, z1⟩ := zOZ h1 h2;obtain ⟨T, hT⟩ : ∃ T, T = max k.now (k.g s).due := ⟨_, rfl⟩;obtain ⟨K, hK⟩ : ∃ K, K = k.tm T := ⟨_, rfl⟩;have hk := h.tm hP (t := T) (by omega);rw [← hK] at hk;have kn : K.now = T := by rw [hK]; rfl
 have kg : ∀ u, K.g u = k.g u := by intro u; rw [hK, zTg]
 have kw : ∀ u, K.w u = k.w u := by intro u; rw [hK, zTt]
 obtain ⟨g, o, e1, _, e3, _⟩ := hk.tick hP (by omega) hw s;obtain ⟨r1, _⟩ := (hk.si s).tick (p := pk0) (by omega) hw;have ti := (hk.si s).tick_is hw;rw [e1] at r1;rw [kg, kn] at r1 ti;have hgo : g = { k.g s with ta := T, due := T + wtS (k.g s).tr, tr := (k.g s).tr + 1 } ∧ o = [a] := by
  rcases ti with ti | ⟨_, _, ti⟩
  ·have : zD4 { k.g s with ta := T } T = ({ k.g s with ta := T, due := T + wtS (k.g s).tr, tr := (k.g s).tr + 1 }, zAl { k.g s with ta := T }) := by
    have := (h.si s).tr;unfold zD4;rw [if_neg (by show ¬ ((k.g s).due < 0 ∨ T < (k.g s).due); omega), if_neg (by show (k.g s).tr ≠ 8; omega)]
   rw [this, ha] at r1;simp only [zU, and_true] at r1;exact r1
  ·rw [ti, ha] at r1;simp only [zU, and_true] at r1;exact r1
 obtain ⟨hg, ho⟩ := hgo;rw [ho] at e1 e3;rw [kg, kn] at e1;rw [kw, h1] at e3;have q := zQA z0 z1 hd hs0 (by rw [← hT]; exact e1);rw [← hT, ← hK] at q;refine ⟨_, q, e3, zTp .., ?_, ?_, ?_, ?_, ?_, ?_, ?_⟩;·rw [zTn, kw, h2]; rfl
 ·rw [zTh, hg]
 ·rw [zTi, kg]
 ·rw [zTh, hg]
 ·rw [zTU]; omega
 ·rw [zTU]; omega
 ·rw [zTU]; omega
end Go.Proofs.YtifhjhbfhdcahaaGreat
end
section
namespace Go.Tx
theorem zUH {E : Env} {F : SF} {w : World} (h : HRel E F w) {a n : Nm} (hE : E n = none) {e : TypeId} {wd : Nat} {o p : Bool} {rs : List (List PV)} (ha : F a = some (.rows e wd o p rs)) {i : BI} (hi : E a = some i) :
  StepR E F w (E.set n i) ((F.set a .dead).set n (.rows e wd o p rs)) w := by
 have hle := zTY (i := i) hE;have hna : a ≠ n := fun hh => by rw [hh, hE] at hi; cases hi
 have hback : ∀ m b j, ((F.set a .dead).set n (.rows e wd o p rs)) m = some b → b.live = true → (E.set n i) m = some j → ∃ m', F m' = some b ∧ E m' = some j ∧ (m = n → m' = a) ∧ (m ≠ n → m' = m ∧ m ≠ a) := by
  intro m b j hm hb hj;unfold SF.set at hm;split at hm
  ·rename_i he;subst he;injection hm with hm; subst hm;rw [zTR] at hj;injection hj with hj; subst hj;exact ⟨a, ha, hi, fun _ => rfl, fun h => absurd rfl h⟩
  ·rename_i he;rw [zTS E _ he] at hj;split at hm;·injection hm with hm; subst hm; cases hb
   ·rename_i he2;exact ⟨m, hm, hj, fun h => absurd h he, fun _ => ⟨rfl, he2⟩⟩
 have hN : NewAt E F w (E.set n i) ((F.set a .dead).set n (.rows e wd o p rs)) w := by
  refine ⟨hle, rfl, rfl, rfl, zA _, fun _ _ _ => rfl, fun m b j hm ho hj hz => ?_⟩;obtain ⟨m', h1, h2, _⟩ := hback m b j hm (zAb ho) hj;exact .inr ⟨m', b, j, h1, ho, h2, hz, rfl⟩
 refine hN.step ⟨fun m b hm => ?_, fun m1 m2 b c j1 j2 h1 h2 h12 ho hl hj1 hj2 hz1 hz2 => ?_⟩
 ·unfold SF.set at hm;split at hm
  ·rename_i he;subst he;injection hm with hm; subst hm;have := (h.blk a _ ha).mono hN.ext fun _ _ _ => rfl
   obtain ⟨j, k1, k2⟩ := this;rw [hle _ _ hi] at k1;injection k1 with k1; subst k1;exact ⟨i, zTR _ _ _, k2⟩
  split at hm;·injection hm with hm; subst hm; trivial
  ·exact (h.blk m b hm).mono hN.ext fun _ _ _ => rfl
 ·obtain ⟨x1, a1, a2, a3, a4⟩ := hback m1 b j1 h1 (zAb ho) hj1;obtain ⟨x2, b1, b2, b3, b4⟩ := hback m2 c j2 h2 hl hj2;refine h.sep x1 x2 b c j1 j2 a1 b1 ?_ ho hl a2 b2 hz1 hz2;by_cases e1 : m1 = n
  ·by_cases e2 : m2 = n;·exact absurd (e1.trans e2.symm) h12
   ·rw [a3 e1, (b4 e2).1]; exact fun h => (b4 e2).2 h.symm
  ·by_cases e2 : m2 = n;·rw [(a4 e1).1, b3 e2]; exact (a4 e1).2
   ·rw [(a4 e1).1, (b4 e2).1]; exact h12
theorem zTq {L : Nat} {F0 : SF} {t : List (Option PV)} {H : List (Nm × SBlk)} {nx : Nat} (a n : Nm) {e e2 : TypeId} {wd wd2 : Nat} {o p o2 p2 : Bool} {row row1 : List PV} {rs : List (List PV)} (ha : look F0 H a = some (.rows e2 wd2 o2 p2 rs)) (hn : look F0 H n = some (.rows e wd o p [row])) (hna : n ≠ a) (hne : n ≠ ⟨L, nx⟩) (hl : row1.length = row.length)
  (hc : ∀ c : Nat, row1[c]? = row[c]? ∨ ∃ r l, row[c]? = some (PV.sl a r l) ∧ row1[c]? = some (PV.sl ⟨L, nx⟩ r l)) :
  Sub L F0 ⟨t, H, nx⟩ ⟨t, zAs H [(a, .dead), (⟨L, nx⟩, .rows e2 wd2 o2 p2 rs), (n, .rows e wd o false [row1])], nx + 1⟩ := by
 intro B E0 w0 E ac w hd0 hR;have hf := (hR.fresh hd0).1 nx (zA _);obtain ⟨i, hi, _⟩ := hR.step.rel.blk a _ ha;have hS := zUH hR.step.rel hf ha hi;have hle := hS.le;have hn1 : (((look F0 H).set a .dead).set ⟨L, nx⟩ (.rows e2 wd2 o2 p2 rs)) n = some (.rows e wd o p [row]) := by simp only [SF.set, if_neg hne, if_neg hna]; exact hn
 have hEE : Ext (EE (E.set ⟨L, nx⟩ i) p) w (Zn (E.set ⟨L, nx⟩ i) (((look F0 H).set a .dead).set ⟨L, nx⟩ (.rows e2 wd2 o2 p2 rs)) w) (E.set ⟨L, nx⟩ i) w (Zn (E.set ⟨L, nx⟩ i) (((look F0 H).set a .dead).set ⟨L, nx⟩ (.rows e2 wd2 o2 p2 rs)) w) := by
  refine ⟨?_, fun _ h => h, fun _ _ => rfl⟩;cases p;·exact Env.le.refl _
  ·intro k i hk; cases hk
 have hS2 := zTx hS.rel hn1 (rs1 := [row1]) rfl (by
   intro r row' row1' h1 h2;cases r with
   | zero => simp at h1 h2; subst h1; subst h2; exact hl
   | succ r => simp at h1) (by
   intro r row' row1' c x y u h1 h2 h3 h4 h5;cases r with
   | succ r => simp at h1
   | zero =>
    simp at h1 h2; subst h1; subst h2;rcases hc c with h | ⟨r, l, hx, hy⟩
    ·rw [h4, h3] at h; injection h with h; subst h;exact VR.mono hEE _ _ h5
    ·rw [h3] at hx; injection hx with hx; subst hx;rw [h4] at hy; injection hy with hy; subst hy;have h6 := VR.mono hEE _ _ h5;simp only [VR] at h6 ⊢;rw [hle _ _ hi] at h6;rw [zTR];exact h6)
 have hT := hS.trans hS2;have hlk : look F0 (zAs H [(a, SBlk.dead), (⟨L, nx⟩, SBlk.rows e2 wd2 o2 p2 rs), (n, .rows e wd o false [row1])]) = (((look F0 H).set a .dead).set ⟨L, nx⟩ (.rows e2 wd2 o2 p2 rs)).set n (.rows e wd o false [row1]) := by rw [zAN]; rfl
 refine ⟨E.set ⟨L, nx⟩ i, by rw [hlk]; exact hR.step.trans hT, ⟨by simpa using hR.tmps.size, fun j v hv => ?_⟩, by rw [hlk]; exact hR.marks.mono hT.ext, fun m h1 h2 => ?_⟩
 ·obtain ⟨v', a1, a2⟩ := hR.tmps.val j v hv;exact ⟨v', a1, by rw [hlk]; exact VR.mono hT.ext _ _ a2⟩
 ·by_cases he : m = ⟨L, nx⟩;·subst he; exact ⟨rfl, by simp⟩
  ·rw [zTS E _ he] at h2;have := hR.news m h1 h2;exact ⟨this.1, by simp only at this ⊢; omega⟩
end Go.Tx
end
section
namespace Go.Proofs.YtifhjhbfhdcahaaGreat
open Go.Tx
set_option maxRecDepth 100000
theorem zFM {k k' : Tk} {s : Bool} {which : Nat} {kept : Bool} (h : zDS k s which kept false = some k') : (k.w s = [] ∧ k' = k) ∨ ∃ i p g o, i = which % (k.w s).length ∧ i < (k.w s).length ∧ (k.w s)[i]? = some p ∧ zAY (k.g s) k.now 5 p = (g, o, 0) ∧ k' = k.ev s g (if kept then k.w s else (k.w s).eraseIdx i) o := by
 unfold zDS at h;split at h;·injection h with h; exact .inl ⟨by assumption, h.symm⟩
 ·rename_i hne;have hlen : 0 < (k.w s).length := List.length_pos_iff.2 hne;have hlt := vB which hlen;simp only [zV, if_false] at h;obtain ⟨g, o, h1, h2⟩ := zEs h;refine .inr ⟨_, (k.w s).getD (which % (k.w s).length) pk0, g, o, rfl, hlt, ?_, h1, h2⟩;rw [zH, zN hlt];rfl
theorem zOa {k k1 : Tk} (h : qS k = some k1) :
  (∃ p l g o, k.w0 = p :: l ∧ zAY k.g0 k.now 5 p = (g, o, 0) ∧ k1 = k.ev false g l o) ∨
  (k.w0 = [] ∧ ∃ p l g o, k.w1 = p :: l ∧ zAY k.g1 k.now 5 p = (g, o, 0) ∧ k1 = k.ev true g l o) ∨
  (k.w0 = [] ∧ k.w1 = [] ∧ 0 ≤ k.g0.due ∧ ∃ g o, zAY k.g0 (max k.now k.g0.due) 4 pk0 = (g, o, 0) ∧ k1 = (k.tm (max k.now k.g0.due)).ev false g k.w0 o) ∨
  (k.w0 = [] ∧ k.w1 = [] ∧ k.g0.due < 0 ∧ ∃ g o, zAY k.g1 (max k.now k.g1.due) 4 pk0 = (g, o, 0) ∧ k1 = (k.tm (max k.now k.g1.due)).ev true g k.w1 o) := by
 unfold qS at h;split at h
 ·rename_i h0;obtain ⟨p, l, hl⟩ := List.exists_cons_of_ne_nil h0;have hw : k.w false = p :: l := hl;rcases zFM h with ⟨h1, _⟩ | ⟨i, q, g, o, h1, h2, h3, h4, h5⟩;·exact absurd h1 h0
  ·rw [hw] at h1 h3 h5;rw [Nat.zero_mod] at h1;subst h1;simp at h3; subst h3;exact .inl ⟨p, l, g, o, hl, h4, h5⟩
 rename_i h0;have h0 : k.w0 = [] := by simpa using h0
 split at h
 ·rename_i h1;obtain ⟨p, l, hl⟩ := List.exists_cons_of_ne_nil h1;have hw : k.w true = p :: l := hl;rcases zFM h with ⟨h1', _⟩ | ⟨i, q, g, o, h1', h2, h3, h4, h5⟩;·exact absurd h1' h1
  ·rw [hw] at h1' h3 h5;rw [Nat.zero_mod] at h1';subst h1';simp at h3; subst h3;exact .inr (.inl ⟨h0, p, l, g, o, hl, h4, h5⟩)
 rename_i h1;have h1 : k.w1 = [] := by simpa using h1
 split at h
 ·rename_i hd;obtain ⟨g, o, a1, a2⟩ := zEs h;exact .inr (.inr (.inl ⟨h0, h1, hd, g, o, a1, a2⟩))
 ·rename_i hd;obtain ⟨g, o, a1, a2⟩ := zEs h;exact .inr (.inr (.inr ⟨h0, h1, by omega, g, o, a1, a2⟩))
theorem zHV {g : Gx} {now kind : Int} {p : Pkx} {h : Gx} {o : List Pkx} (hs : zAY g now kind p = (h, o, 0)) : (o = [] ∨ ∃ x, o = [x] ∧ x.sm) := by
 have G := zAg hs;have hl := G.len;cases o with
 | nil => exact .inl rfl
 | cons x l =>
  cases l with
  | nil => exact .inr ⟨x, rfl, zIE (G.pk x (vI ..)).1⟩
  | cons y l => simp at hl
theorem Wy.ev {k : Tk} {n : Nat} (h : Wy k n) {s : Bool} {g : Gx} {v o : List Pkx} (hv : ∀ p ∈ v, p ∈ k.w s) (hl : v.length ≤ (k.w s).length) (ho : o = [] ∨ ∃ x, o = [x] ∧ x.sm) : Wy (k.ev s g v o) (n + 1) := by
 obtain ⟨a, b, c, d⟩ := h;have ho2 : o.length ≤ 1 ∧ ∀ p ∈ o, p.sm := by
  rcases ho with rfl | ⟨x, rfl, hx⟩;·simp
  ·refine ⟨by simp, fun p hp => ?_⟩;simp at hp; subst hp; exact hx
 cases s
 ·refine ⟨by show v.length ≤ _; have : v.length ≤ k.w0.length := hl; omega, by show (k.w1 ++ o).length ≤ _; rw [zQ]; omega, fun p hp => c p (hv p hp), fun p hp => ?_⟩;rcases List.mem_append.1 hp with hp | hp;·exact d p hp
  ·exact ho2.2 p hp
 ·refine ⟨by show (k.w0 ++ o).length ≤ _; rw [zQ]; omega, by show v.length ≤ _; have : v.length ≤ k.w1.length := hl; omega, fun p hp => ?_, fun p hp => d p (hv p hp)⟩;rcases List.mem_append.1 hp with hp | hp;·exact c p hp
  ·exact ho2.2 p hp
theorem Wy.tm {k : Tk} {n : Nat} (h : Wy k n) (t : Int) : Wy (k.tm t) n := h
theorem zM7 {k k1 : Tk} {w w1 : Nat} {m : Mv} (h : mvS (k, w) m = some (k1, w1)) {s : Bool} (hs : (m.which % 2 == 1) = s) :
  (m.what % 4 = 0 ∧ w = 5 ∧ k1 = k.tm (k.now + m.later) ∧ w1 = w) ∨
  (m.what % 4 = 0 ∧ w ≠ 5 ∧ w1 = w + 1 ∧ ∃ g o, zAY (k.g s) (max (k.now + m.later) (k.g s).due) 4 pk0 = (g, o, 0) ∧ k1 = (k.tm (max (k.now + m.later) (k.g s).due)).ev s g (k.w s) o) ∨
  (m.what % 4 ≠ 0 ∧ k.w s = [] ∧ w1 = w ∧ k1 = k.tm (k.now + m.later)) ∨
  (m.what % 4 = 2 ∧ w1 = w ∧ (m.which / 2) % (k.w s).length < (k.w s).length ∧ (∃ p, (k.w s)[(m.which / 2) % (k.w s).length]? = some p) ∧ k1 = (k.tm (k.now + m.later)).ev s (k.g s) ((k.w s).eraseIdx ((m.which / 2) % (k.w s).length)) []) ∨
  ((m.what % 4 = 1 ∨ m.what % 4 = 3) ∧ w1 = w ∧ ∃ i p g o, i = (m.which / 2) % (k.w s).length ∧ i < (k.w s).length ∧ (k.w s)[i]? = some p ∧ zAY (k.g s) (k.now + m.later) 5 p = (g, o, 0) ∧ k1 = (k.tm (k.now + m.later)).ev s g (if m.what % 4 = 3 then k.w s else (k.w s).eraseIdx i) o) := by
 unfold mvS at h;simp only [hs] at h;split at h
 ·rename_i h0;split at h
  ·rename_i h5;simp only [zR, zU] at h;exact .inl ⟨h0, h5, h.1.symm, h.2.symm⟩
  ·rename_i h5;simp only [zP, zU] at h;obtain ⟨k2, h1, h2, h3⟩ := h;obtain ⟨g, o, a1, a2⟩ := zEs h1;rw [zTg, zTg] at a1;rw [zTg, zTt] at a2;refine .inr (.inl ⟨h0, h5, h3.symm, g, o, a1, ?_⟩);rw [← h2, a2]; rfl
 ·rename_i h0;simp only [zP, zU] at h;obtain ⟨k2, h1, h2, h3⟩ := h;subst h2;by_cases hw : k.w s = []
  ·refine .inr (.inr (.inl ⟨h0, hw, h3.symm, ?_⟩));unfold zDS at h1;rw [if_pos (by rw [zTt]; exact hw)] at h1;exact (Option.some.inj h1).symm
  have hlt := vB (m.which / 2) (List.length_pos_iff.2 hw);by_cases h2 : m.what % 4 = 2
  ·refine .inr (.inr (.inr (.inl ⟨h2, h3.symm, hlt, ⟨_, zN hlt⟩, ?_⟩)));unfold zDS at h1;rw [if_neg (by rw [zTt]; exact hw)] at h1;simp only [h2, zTt, zTg, Nat.reduceBEq, zV, if_false, beq_self_eq_true, if_true] at h1;exact (Option.some.inj h1).symm
  ·have e2 : (m.what % 4 == 2) = false := by simp [h2]
   rw [e2] at h1;rcases zFM h1 with ⟨a1, _⟩ | ⟨i, p, g, o, a1, a2, a3, a4, a5⟩;·rw [zTt] at a1; exact absurd a1 hw
   ·rw [zTt] at a1 a2 a3 a5;rw [zTg] at a4;refine .inr (.inr (.inr (.inr ⟨by omega, h3.symm, i, p, g, o, a1, a2, a3, a4, ?_⟩)));rw [a5];simp only [beq_iff_eq]
def Mv.row (m : Mv) : List PV := [.int .u8 m.what, .int .u8 m.which, .int .u8 m.later]
def Mv.Ok (m : Mv) : Prop := m.what < 256 ∧ m.which < 256 ∧ m.later < 256
theorem zOb {g : Gx} {now kind : Int} {p : Pkx} {h : Gx} {o : List Pkx} (he : zAY g now kind p = (h, o, 0)) : 0 ≤ now ∧ now ≤ 1099511627776 := by
 unfold zAY at he;split at he;·simp at he
 split at he;·simp at he
 rename_i h2;have : zGc now = true := by
  cases h : zGc now;·exact absurd (.inl h) h2
  ·rfl
 exact (zB8 now).1 this
theorem Wy.le {k : Tk} {n n2 : Nat} (h : Wy k n) (hn : n ≤ n2) : Wy k n2 := ⟨by have := h.1; omega, by have := h.2.1; omega, h.2.2⟩
end Go.Proofs.YtifhjhbfhdcahaaGreat
end
section
namespace Go.Proofs.YtifhjhbfhdcahaaGreat
open Go.ChangeShapes Go.WideShapes Go.ChangeAt Go.RowKit Go.Tx
set_option maxRecDepth 100000
theorem zG4 {P : Program} {H : Type} {enc : TypeId × Value → H} {w : World} {base : Nat} {spare : TypeId → Bool} {held : Bool} {t0 t1 t2 : TypeId} {args : Array Value} {ds : List (DataW H)} {ps : List MemPlace} (h : DataW.TrodAll enc P w base spare held [t0, t1, t2] args.toList ds ps) :
  ∃ v0 v1 v2 d0 d1 d2 p0 p1 p2, args = #[v0, v1, v2] ∧ ds = [d0, d1, d2] ∧ ps = p0 ++ p1 ++ p2 ∧ DataW.Trod enc P w base spare held t0 v0 d0 p0 ∧ DataW.Trod enc P w base spare held t1 v1 d1 p1 ∧ DataW.Trod enc P w base spare held t2 v2 d2 p2 := by
 obtain ⟨v0, vs0, d0, ds0, p0, q0, hargs, rfl, rfl, hd0, h⟩ := trodAll_cons h;obtain ⟨v1, vs1, d1, ds1, p1, q1, rfl, rfl, rfl, hd1, h⟩ := trodAll_cons h;obtain ⟨v2, vs2, d2, ds2, p2, q2, rfl, rfl, rfl, hd2, h⟩ := trodAll_cons h;obtain ⟨rfl, rfl, rfl⟩ := trodAll_nil h;exact ⟨v0, v1, v2, d0, d1, d2, p0, p1, p2, by cases args; simp_all, rfl, by simp, hd0, hd1, hd2⟩
theorem zRF : Tryz.prog.underlying 23 = some (.slice 60) := by kernel_rfl
theorem rowsOf {α : Type} {p : List PV → Prop} {f : α → List PV} {ok : α → Prop} (hp : ∀ xs, p xs → ∃ a, xs = f a ∧ ok a) : ∀ (rs : List (List PV)), (∀ r ∈ rs, p r) → ∃ l : List α, rs = l.map f ∧ ∀ a ∈ l, ok a
 | [], _ => ⟨[], rfl, by simp⟩
 | r :: rs, h => by
  obtain ⟨l, e, hl⟩ := rowsOf hp rs (fun x hx => h x (by simp [hx]));obtain ⟨a, ha, ho⟩ := hp r (h r (by simp));refine ⟨a :: l, by rw [e, ha]; rfl, fun x hx => ?_⟩;rcases List.mem_cons.1 hx with rfl | hx;·exact ho
  ·exact hl x hx
theorem zOc {W : World} {Z : Nat → Prop} {E : Env} {x : PV} {v : Value} (h : VRl W Z E [x] [v]) : VR W Z E x v := by
 simp only [VRl] at h;obtain ⟨v', t, h1, h2, h3⟩ := h;simp at h1;rw [h1.1]; exact h2
theorem zR9 {n : Nat} {xs : List PV} (h : Shp tys (n + 4) 60 xs) : ∃ m : Mv, xs = m.row ∧ m.Ok := by
 have h := Shp.struct g60 h;simp only [List.foldr] at h;obtain ⟨_, _, rfl, h1, _, _, rfl, h2, _, _, rfl, h3, rfl⟩ := h;obtain ⟨_, rfl, w1⟩ := Shp.int g5 h1;obtain ⟨_, rfl, w2⟩ := Shp.int g5 h2;obtain ⟨_, rfl, w3⟩ := Shp.int g5 h3;obtain ⟨a1, rfl, b1⟩ := wf8 w1;obtain ⟨a2, rfl, b2⟩ := wf8 w2;obtain ⟨a3, rfl, b3⟩ := wf8 w3;exact ⟨⟨a1, a2, a3⟩, rfl, b1, b2, b3⟩
theorem zRG {n : Nat} {xs : List PV} (h : Shp tys (n + 5) 23 xs) : ∃ l : List Mv, xs = [.fs 3 (l.map Mv.row)] ∧ (∀ m ∈ l, m.Ok) ∧ l.length ≤ maxLen := by
 obtain ⟨wd, rs, h1, h2, h3, h4⟩ := Shp.slice g23 h;have hwd : wd = 3 := by
  have : (tys.get 60).map (·.size) = some 3 := by kernel_rfl
  rw [this] at h3; exact (Option.some.inj h3).symm
 subst hwd;obtain ⟨l, hl, ho⟩ := rowsOf (f := Mv.row) (ok := Mv.Ok) (fun xs hx => zR9 hx) rs h4;refine ⟨l, ?_, ho, ?_⟩;·rw [h1, hl]
 ·rw [hl] at h2; simpa using h2
end Go.Proofs.YtifhjhbfhdcahaaGreat
end
section
namespace Go.Proofs.YtifhjhbfhdcahaaGreat
open Go.Tx
set_option maxRecDepth 100000
def zQC (C : Bool → Gx) (s : Bool) (t : Int) : List UInt8 := Ini.oct { (C !s).own with ck := ckS (C !s) (C s).own.oct t }
inductive PkM (C : Bool → Gx) (s : Bool) (now st : Int) : Pkx → Prop
 | init : PkM C s now st (pTo C s 0 ⟨1, 0, (C !s).own.oct⟩)
 | initA (t : Int) (h : 0 ≤ t ∧ t ≤ now) : PkM C s now st (pTo C s (C s).own.tag ⟨2, 0, zQC C s t⟩)
 | echo (t : Int) (h : 0 ≤ t ∧ t ≤ now) (h2 : 3 ≤ st) : PkM C s now st (pTo C s (C s).own.tag ⟨10, 0, ckS (C s) (C !s).own.oct t⟩)
 | ack (h2 : 4 ≤ st) : PkM C s now st (pTo C s (C s).own.tag ⟨11, 0, []⟩)
theorem PkM.mono {C : Bool → Gx} {s : Bool} {now st : Int} {p : Pkx} (h : PkM C s now st p) {now2 st2 : Int} (hn : now ≤ now2) (hs : st ≤ st2) : PkM C s now2 st2 p := by
 cases h with
 | init => exact .init
 | initA t h => exact .initA t (by omega)
 | echo t h h2 => exact .echo t (by omega) (by omega)
 | ack h2 => exact .ack (by omega)
theorem zIG {C : Bool → Gx} (hC : Fit C) (s : Bool) (t : Int) : ({ (C !s).own with ck := ckS (C !s) (C s).own.oct t } : Ini).ok = true ∧ (ckS (C !s) (C s).own.oct t).length = 62 := by
 have hl : (ckS (C !s) (C s).own.oct t).length = 62 := by
  have := zHS (C s).own;rw [(zCA (hC.own s)).2] at this;rw [zH9, this]; rfl
 exact ⟨zJk (zCA (hC.own !s)).1 (by omega), hl⟩
theorem PkM.ok {C : Bool → Gx} (hC : Fit C) {s : Bool} {now st : Int} {p : Pkx} (h : PkM C s now st p) : p.ok = true := by
 have ht := hC.tag s;cases h with
 | init =>
  refine zIt hC s (by omega) (by simp) rfl ?_;have := zHS (C !s).own;rw [(zCA (hC.own !s)).2] at this;simp only [this]; simp
 | initA t h =>
  refine zIt hC s (by omega) (by simp) rfl ?_;have h2 := (zIG hC s t).2;simp only [zQC, zHS, h2]; omega
 | echo t h h2 =>
  refine zIt hC s (by omega) (by simp) rfl ?_;have := (zIG hC (!s) t).2;rw [wY] at this;simp only [this]; omega
 | ack h2 => exact zIt hC s (by omega) (by simp) rfl (by simp)
def Pkx.wt (p : Pkx) : Nat := if p.hdC.kd = 1 then 4 else if p.hdC.kd = 2 then 3 else if p.hdC.kd = 10 then 2 else 1
theorem zEu (C : Bool → Gx) (s : Bool) (tag : Int) (c : Ckx) : (pTo C s tag c).wt = if c.kd = 1 then 4 else if c.kd = 2 then 3 else if c.kd = 10 then 2 else 1 := rfl
structure MI (C : Bool → Gx) (s : Bool) (now st : Int) (g : Gx) : Prop where
 rng : 1 ≤ g.st ∧ g.st ≤ 4
 peer : 3 ≤ g.st → g.peer = (C !s).own
 ck : g.st = 3 → ∃ t, (0 ≤ t ∧ t ≤ now) ∧ g.ck = ckS (C !s) (C s).own.oct t
 o : g.st = 4 → 3 ≤ st
theorem MI.mono {C : Bool → Gx} {s : Bool} {now st : Int} {g : Gx} (h : MI C s now st g) {now2 st2 : Int} (hn : now ≤ now2) (hs : st ≤ st2) : MI C s now2 st2 g :=
 ⟨h.rng, h.peer, fun h3 => by obtain ⟨t, ht, e⟩ := h.ck h3; exact ⟨t, by omega, e⟩, fun h4 => by have := h.o h4; omega⟩
theorem MI.ta {C : Bool → Gx} {s : Bool} {now st : Int} {g : Gx} (h : MI C s now st g) (t : Int) : MI C s now st { g with ta := t } := ⟨h.rng, h.peer, h.ck, h.o⟩
theorem zM8 {C : Bool → Gx} (hC : Fit C) {s : Bool} {now st : Int} (hn : 0 ≤ now ∧ now ≤ 60000) {g : Gx} (hc : Cor (C s) g) (h : MI C s now st g) {p : Pkx} (hp : PkM C s now st p) :
  ∃ tag c, p = pTo C s tag c ∧ MI C s now st (zAS g now tag c).1 ∧ g.st ≤ (zAS g now tag c).1.st ∧ (∀ x ∈ (zAS g now tag c).2, PkM C (!s) now (zAS g now tag c).1.st x) ∧ wts Pkx.wt (zAS g now tag c).2 < p.wt := by
 have hr := h.rng;have hw1 : ∀ c : Ckx, c.kd = 2 → wts Pkx.wt [pTo C (!s) (C !s).own.tag c] = 3 := fun c hk => by simp [wts, zEu, hk]
 cases hp with
 | init =>
  refine ⟨_, _, rfl, ?_⟩;by_cases h3 : g.st ≤ 3
  ·rw [zGk (hC.own !s) h3, zBU hc];refine ⟨h, by simp, ?_, ?_⟩
   ·intro x hx;simp only [zS, wH, or_false] at hx;subst hx;rw [zKW hc, hc.own];have := PkM.initA (C := C) (s := !s) (now := now) (st := g.st) now (by omega);unfold zQC at this;rw [wY] at this;exact this
   ·simp [wts, zEu]
  ·have : zAS g now 0 ⟨1, 0, (C !s).own.oct⟩ = (g, []) := by
    unfold zAS zEF;rw [if_pos rfl, if_neg (by omega)]
   rw [this];exact ⟨h, by simp, by simp, by simp [wts, zEu]⟩
 | initA t ht =>
  refine ⟨_, _, rfl, ?_⟩;obtain ⟨e1, e2⟩ := zIG hC s t;by_cases h2 : g.st = 2
  ·have hk := zFL (g := g) (now := now) e1 (by intro h; rw [show ckS (C !s) (C s).own.oct t = [] from h] at e2; simp at e2) h2;rw [hc.own] at hk;unfold zQC;rw [hk, zBU hc];have pl : ({ (C !s).own with ck := [] } : Ini) = (C !s).own := by
    have := (zCA (hC.own !s)).2;cases hx : (C !s).own;rw [hx] at this;simp only at this;rw [this]
   refine ⟨⟨by simp [zAJ], ?_, ?_, by simp [zAJ]⟩, by simp [zAJ]; omega, ?_, ?_⟩;·intro _; exact pl
   ·intro _; exact ⟨t, ht, rfl⟩
   ·intro x hx;simp only [zS, wH, or_false] at hx;subst hx;have := PkM.echo (C := C) (s := !s) (now := now) (st := 3) t ht (by omega);rw [wY] at this;exact this
   ·simp [wts, zEu]
  ·have hk : zAS g now (C s).own.tag ⟨2, 0, zQC C s t⟩ = (g, []) := by
    unfold zAS zEG;rw [if_neg (by simp), if_neg (by rw [hc.own]; simp), if_pos rfl, if_neg (by omega)]
   rw [hk];exact ⟨h, by simp, by simp, by simp [wts, zEu]⟩
 | echo t ht hst =>
  refine ⟨_, _, rfl, ?_⟩;have he := zFv g (hC.own !s) (t := t) (by omega) now;rw [zKW hc] at he;have hk := zGl (g := g) (now := now) (b := ckS (C s) (C !s).own.oct t);rw [hc.own, he] at hk;rw [hk, if_neg (by omega)];by_cases h3 : g.st ≤ 3
  ·rw [if_pos h3];have : zAr { zAW g 4 with peer := (C !s).own } 11 = [pTo C (!s) (C !s).own.tag ⟨11, 0, []⟩] := by
    unfold zAr;exact zBU ⟨hc.fr, hc.tt, hc.sec, hc.own⟩ _ _
   rw [this];refine ⟨⟨by simp [zAW], fun _ => rfl, by simp [zAW], fun _ => hst⟩, by simp [zAW]; omega, ?_, by simp [wts, zEu]⟩;intro x hx;simp only [zS, wH, or_false] at hx;subst hx;exact PkM.ack (by simp [zAW])
  ·rw [if_neg h3, if_pos ⟨by omega, (h.peer (by omega)).symm⟩];have : zAr g 11 = [pTo C (!s) (C !s).own.tag ⟨11, 0, []⟩] := by
    unfold zAr;rw [h.peer (by omega)];exact zBU hc _ _
   rw [this];refine ⟨h, by simp, ?_, by simp [wts, zEu]⟩;intro x hx;simp only [zS, wH, or_false] at hx;subst hx;exact PkM.ack (by show 4 ≤ g.st; omega)
 | ack hst =>
  refine ⟨_, _, rfl, ?_⟩;by_cases h3 : g.st = 3
  ·have hk := zIB (g := g) (now := now) h3;rw [hc.own] at hk;rw [hk];exact ⟨⟨by simp [zAW], fun _ => h.peer (by omega), by simp [zAW], fun _ => by omega⟩, by simp [zAW]; omega, by simp, by simp [wts, zEu]⟩
  ·have hk : zAS g now (C s).own.tag ⟨11, 0, []⟩ = (g, []) := by
    unfold zAS;rw [if_neg (by simp), if_neg (by rw [hc.own]; simp), if_neg (by simp), if_neg (by simp), if_pos rfl, if_neg h3]
   rw [hk];exact ⟨h, by simp, by simp, by simp [wts, zEu]⟩
theorem zLC {C : Bool → Gx} (hC : Fit C) {s : Bool} {now st : Int} {g : Gx} (hc : Cor (C s) g) (h : MI C s now st g) : ∀ x ∈ zAl g, PkM C (!s) now g.st x := by
 have hr := h.rng;intro x hx;unfold zAl at hx;split at hx
 ·rw [zBU hc, hc.own] at hx;simp only [zS, wH, or_false] at hx;subst hx;have := PkM.init (C := C) (s := !s) (now := now) (st := g.st);rw [wY] at this;exact this
 split at hx
 ·rename_i h3;rw [zBU hc, h.peer (by omega)] at hx;obtain ⟨t, ht, e⟩ := h.ck h3;rw [e] at hx;simp only [zS, wH, or_false] at hx;subst hx;have := PkM.echo (C := C) (s := !s) (now := now) (st := g.st) t ht (by omega);rw [wY] at this;exact this
 split at hx;·omega
 split at hx;·omega
 ·cases hx
theorem zD0 {C : Bool → Gx} (hC : Fit C) : Prot C (MI C) (PkM C) Pkx.wt where
 fit := hC
 mM h hn hs := h.mono hn hs
 mP h hn hs := h.mono hn hs
 ok h := h.ok hC
 ta t h := h.ta t
 tick d n h := ⟨h.rng, h.peer, h.ck, h.o⟩
 wt4 p := by unfold Pkx.wt; split <;> (try split) <;> (try split) <;> omega
 kind hn hc _ h hp := zM8 hC hn hc h hp
 again hc h := zLC hC hc h
def Met (C : Bool → Gx) (w : Nat) (now : Int) (k : Tk) : Prop := KI C (MI C) (PkM C) k w ∧ (∀ u, (k.g u).st = 4) ∧ k.w0 = [] ∧ k.w1 = [] ∧ k.now = now
theorem zRH {C : Bool → Gx} (hC : Fit C) {k : Tk} {w : Nat} (h : KI C (MI C) (PkM C) k w) (hn : 0 ≤ k.now ∧ k.now ≤ 60000) {s : Bool} (h3 : (k.g s).st = 3) (h4 : (k.g !s).st = 4) (h1 : k.w s = [pTo C s (C s).own.tag ⟨11, 0, []⟩]) (h2 : k.w (!s) = []) : Ends (Met C w k.now) 2 k := by
 have hP := zD0 hC;have hc := (h.si s).cor;have e := zIB (g := { k.g s with ta := k.now }) (now := k.now) h3;rw [show ({ k.g s with ta := k.now } : Gx).own = (C s).own from hc.own] at e;obtain ⟨r1, r2⟩ := h.recvK hP hn s (by rw [h1]; exact vI ..) (v := []) (by simp) e;refine Ends.step (Ends.end ?_ ?_) (fun f => zGn h1 h2 r1 f)
 ·have w1 : ((k.ev s (zAW { k.g s with ta := k.now } 4) [] []).w s) = [] := zTp ..;have w2 : ((k.ev s (zAW { k.g s with ta := k.now } 4) [] []).w (!s)) = [] := by rw [zTn, h2]; rfl
  obtain ⟨z0, z1⟩ := zOZ w1 w2;have hd : ∀ u, ((k.ev s (zAW { k.g s with ta := k.now } 4) [] []).g u).due < 0 := by
   refine zQB (Q := fun g => g.due < 0) (s := s) ?_ ?_
   ·show Gx.due (Tk.g _ s) < 0; rw [zTh]; show (-1 : Int) < 0; omega
   ·show Gx.due (Tk.g _ !s) < 0; rw [zTi]; have := zEt (h.si (!s)).ok (.inl h4); omega
  exact ⟨z0, z1, hd false, hd true⟩
 ·have w1 : ((k.ev s (zAW { k.g s with ta := k.now } 4) [] []).w s) = [] := zTp ..;have w2 : ((k.ev s (zAW { k.g s with ta := k.now } 4) [] []).w (!s)) = [] := by rw [zTn, h2]; rfl
  obtain ⟨z0, z1⟩ := zOZ w1 w2;refine ⟨r2, zQB (Q := fun g => g.st = 4) (s := s) ?_ ?_, z0, z1, zTU ..⟩;·show Gx.st (Tk.g _ s) = 4; rw [zTh]; rfl
  ·show Gx.st (Tk.g _ !s) = 4; rw [zTi]; exact h4
theorem zSA {C : Bool → Gx} (hC : Fit C) {s : Bool} {now st : Int} (hn : 0 ≤ now ∧ now ≤ 60000) {g : Gx} (hc : Cor (C s) g) (h : MI C s now st g) {t : Int} (ht : 0 ≤ t ∧ t ≤ now) :
  ∃ x, zAS g now (C s).own.tag ⟨10, 0, ckS (C s) (C !s).own.oct t⟩ = (x, [pTo C (!s) (C !s).own.tag ⟨11, 0, []⟩]) ∧ x.st = 4 := by
 have hr := h.rng;have he := zFv g (hC.own !s) (t := t) (by omega) now;rw [zKW hc] at he;have hk := zGl (g := g) (now := now) (b := ckS (C s) (C !s).own.oct t);rw [hc.own, he] at hk;rw [hk, if_neg (by omega)];by_cases h3 : g.st ≤ 3
 ·rw [if_pos h3];refine ⟨_, ?_, (rfl : ({ zAW g 4 with peer := (C !s).own } : Gx).st = 4)⟩;unfold zAr;rw [zBU (C := C) (s := s) (g := { zAW g 4 with peer := (C !s).own }) ⟨hc.fr, hc.tt, hc.sec, hc.own⟩]
 ·rw [if_neg h3, if_pos ⟨by omega, (h.peer (by omega)).symm⟩];refine ⟨_, ?_, (by omega : g.st = 4)⟩;unfold zAr;rw [h.peer (by omega), zBU hc]
theorem zRI {C : Bool → Gx} (hC : Fit C) {k : Tk} {w : Nat} (h : KI C (MI C) (PkM C) k w) (hn : 0 ≤ k.now ∧ k.now ≤ 60000) {s : Bool} (h3 : (k.g s).st = 3) {t : Int} (ht : 0 ≤ t ∧ t ≤ k.now) (h1 : k.w (!s) = [pTo C (!s) (C !s).own.tag ⟨10, 0, ckS (C !s) (C s).own.oct t⟩]) (h2 : k.w s = []) : Ends (Met C w k.now) 3 k := by
 have hP := zD0 hC;obtain ⟨g, e1, e2⟩ := zSA hC hn (zC3 (h.si (!s)).cor k.now) (hP.ta k.now (h.m (!s))) ht;rw [wY] at e1;obtain ⟨r1, r2⟩ := h.recvK hP hn (!s) (by rw [h1]; exact vI ..) (v := []) (by simp) e1;have := zRH hC r2 (by rw [zTU]; exact hn) (s := s) (by rw [zUG]; exact h3) (by rw [zTh]; exact e2) (by rw [zUF, h2]; rfl) (zTp ..);rw [zTU] at this;exact this.step (fun f => zGn h1 (by rw [wY]; exact h2) r1 f)
theorem zRJ {C : Bool → Gx} (hC : Fit C) {k : Tk} {w : Nat} (h : KI C (MI C) (PkM C) k w) (hn : 0 ≤ k.now ∧ k.now ≤ 60000) {s : Bool} (h2s : (k.g s).st = 2) {t : Int} (ht : 0 ≤ t ∧ t ≤ k.now) (h1 : k.w s = [pTo C s (C s).own.tag ⟨2, 0, zQC C s t⟩]) (h2 : k.w (!s) = []) : Ends (Met C w k.now) 4 k := by
 have hP := zD0 hC;have hc := (h.si s).cor;obtain ⟨e1, e2⟩ := zIG hC s t;have hk := zFL (g := { k.g s with ta := k.now }) (now := k.now) e1 (by intro h; rw [show ckS (C !s) (C s).own.oct t = [] from h] at e2; simp at e2) h2s;rw [show ({ k.g s with ta := k.now } : Gx).own = (C s).own from hc.own, zBU (zC3 hc k.now)] at hk;obtain ⟨r1, r2⟩ := h.recvK hP hn s (c := ⟨2, 0, zQC C s t⟩) (by rw [h1]; exact vI ..) (v := []) (by simp) hk;have := zRI hC r2 (by rw [zTU]; exact hn) (s := s) (t := t) (by rw [zTh]; rfl) (by rw [zTU]; exact ht) (by rw [zTn, h2]; rfl) (zTp ..);rw [zTU] at this;exact this.step (fun f => zGn h1 h2 r1 f)
theorem zRK {C : Bool → Gx} (hC : Fit C) {k : Tk} {w : Nat} (h : KI C (MI C) (PkM C) k w) (hn : 0 ≤ k.now ∧ k.now ≤ 60000) {s : Bool} (h2s : (k.g s).st = 2) (h4 : (k.g !s).st ≤ 3) (h1 : k.w (!s) = [pTo C (!s) 0 ⟨1, 0, (C s).own.oct⟩]) (h2 : k.w s = []) : Ends (Met C w k.now) 5 k := by
 have hP := zD0 hC;have hc := (h.si (!s)).cor;have hk := zGk (g := { k.g (!s) with ta := k.now }) (now := k.now) (hC.own s) h4;rw [show ({ k.g (!s) with ta := k.now } : Gx).own = (C !s).own from hc.own, zBU (zC3 hc k.now), wY, zKW (zC3 hc k.now)] at hk;obtain ⟨r1, r2⟩ := h.recvK hP hn (!s) (by rw [h1]; exact vI ..) (v := []) (by simp) hk;have := zRJ hC r2 (by rw [zTU]; exact hn) (s := s) (t := k.now) (by rw [zUG]; exact h2s) (by rw [zTU]; omega) (by rw [zUF, h2]; rfl) (zTp ..);rw [zTU] at this;exact this.step (fun f => zGn h1 (by rw [wY]; exact h2) r1 f)
theorem Ends.mono {Q R : Tk → Prop} {n : Nat} {k : Tk} (h : Ends Q n k) (hq : ∀ k, Q k → R k) : Ends R n k := by
 obtain ⟨k2, h1, h2⟩ := h;exact ⟨k2, h1, hq _ h2⟩
theorem zRL {g : Gx} (h : g.st = 5) : zAl g = zAr g 7 := by unfold zAl; rw [if_neg (by omega), if_neg (by omega), if_pos h]
theorem zRM {g : Gx} (h : g.st = 6) : zAl g = zAr g 8 := by unfold zAl; rw [if_neg (by omega), if_neg (by omega), if_neg (by omega), if_pos h]
end Go.Proofs.YtifhjhbfhdcahaaGreat
end
