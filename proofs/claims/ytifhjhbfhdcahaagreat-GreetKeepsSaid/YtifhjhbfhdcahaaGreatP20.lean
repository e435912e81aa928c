/- Lemmas for the walk: GD43, GD44, GK103, GK109, GD45, U47, GD49, GK108, GR52, GD46, GD47, GD48, GD50, U49. -/
import Derived.Test.YtifhjhbfhdcahaaGreatP19
import Derived.Test.YtifhjhbfhdcahaaGreatP17
import Derived.Test.YtifhjhbfhdcahaaGreatP12
set_option linter.all false
section
namespace Go.Proofs.YtifhjhbfhdcahaaGreat
open Go.Tx
set_option maxRecDepth 100000
set_option maxHeartbeats 16000000
theorem zFA {g : Gx} {now : Int} {p : Pkx} (hg : g.ok = true) (ht : zGS now = true) (hta : g.ta ≤ now) (hp : p.ok = true) : zAh g now 5 p = ((zFb { g with ta := now } now p).1, (zFb { g with ta := now } now p).2, 0) := by
 unfold zAh gEv;rw [if_neg (by simp [hg]), if_neg (by simp [ht]; omega), if_neg (by simp [hp])];rfl
theorem zPZ {g : Gx} {now : Int} {p : Pkx} (hg : g.ok = true) (ht : zGS now = true) (hta : g.ta ≤ now) : zAh g now 4 p = ((zDy { g with ta := now } now).1, (zDy { g with ta := now } now).2, 0) := by
 unfold zAh gEv;rw [if_neg (by simp [hg]), if_neg (by simp [ht]; omega), if_neg (by simp)];rfl
theorem zMm {g : Gx} {now : Int} {p : Pkx} (hg : g.ok = true) (ht : zGS now = true) (hta : g.ta ≤ now) (hst : g.st = 1) : zAh g now 1 p = (zAK { g with ta := now } 2 now, zBM (zAK { g with ta := now } 2 now) 0 ⟨1, 0, g.own.oct⟩, 0) := by
 unfold zAh gEv zNn;rw [if_neg (by simp [hg]), if_neg (by simp [ht]; omega), if_neg (by simp)];simp only [if_true, hst];rfl
theorem recv_kind {g : Gx} {now : Int} {tg : Int} {c : Ckx} : zFb g now ⟨g.tt, g.fr, tg, [c]⟩ = zAm g now tg c := by
 unfold zFb;rw [if_pos ⟨rfl, rfl⟩];rfl
theorem zIe {g : Gx} {now : Int} {d : Ini} (hd : zAa d = true) (hst : g.st ≤ 3) : zAm g now 0 ⟨1, 0, d.oct⟩ = (g, zBM g d.tag ⟨2, 0, Ini.oct { g.own with ck := ckS g d.oct now }⟩) := by
 obtain ⟨i1, i2⟩ := zIb hd;unfold zAm zEf;rw [if_pos rfl, if_pos ⟨i1, rfl, hst⟩, i2]
theorem zKz {g : Gx} {now : Int} {d : Ini} (hd : d.ok = true) (hc : d.ck ≠ []) (hst : g.st = 2) : zAm g now g.own.tag ⟨2, 0, d.oct⟩ = ({ zAK g 3 now with ck := d.ck, peer := { d with ck := [] } }, zBM g d.tag ⟨10, 0, d.ck⟩) := by
 obtain ⟨i1, i2⟩ := zIc hd hc;unfold zAm zEg;rw [if_neg (by simp), if_neg (by simp), if_pos rfl, if_pos ⟨i1, hst⟩, i2];rfl
theorem zGa {g : Gx} {now : Int} {b : List UInt8} : zAm g now g.own.tag ⟨10, 0, b⟩ = zDR g now b := by
 unfold zAm;rw [if_neg (by simp), if_neg (by simp), if_neg (by simp), if_pos rfl]
theorem zN5 {g : Gx} {now : Int} (hst : g.st = 3) : zAm g now g.own.tag ⟨11, 0, []⟩ = (zAl g 4, []) := by
 unfold zAm;rw [if_neg (by simp), if_neg (by simp), if_neg (by simp), if_neg (by simp), if_pos rfl, if_pos hst]
def exA : Ini := ⟨11, 1000, 1, 1, 5, []⟩
def exB : Ini := ⟨22, 1000, 1, 1, 7, []⟩
def exG (second : Bool) : Gx := if second then zK2 2 1 (List.replicate 32 98) exB else zK2 1 2 (List.replicate 32 97) exA
def pk0 : Pkx := ⟨0, 0, 0, []⟩
structure ExRun (a1 a2 a3 a4 : Gx) (p1 p2 p3 p5 pl q2 q3 : Pkx) (b1 a5 bl b5 a6 : Gx) (c2 c3 c5 cl : Ckx) : Prop where
 s1 : zAh (exG false) 0 1 pk0 = (a1, [p1], 0)
 a1s : a1.st = 2
 a1d : a1.due = 400
 p1t : p1.tg = 0
 f1 : zAh a1 399 4 pk0 = (a2, [], 0)
 a2d : a2.due = 400
 f2 : zAh a2 400 4 pk0 = (a3, [q2], 0)
 a3d : a3.due = 1200
 f3 : zAh a3 1200 4 pk0 = (a4, [q3], 0)
 a4d : a4.due = 2800
 s2 : zAh (exG true) 10 5 p1 = (b1, [p2], 0)
 b1s : b1.st = 1
 p2t : p2.tg = 11
 p2c : p2.cs = [c2]
 c2k : c2.kd = 2
 s3 : zAh a1 20 5 p2 = (a5, [p3], 0)
 a5s : a5.st = 3
 p3t : p3.tg = 22
 p3c : p3.cs = [c3]
 c3k : c3.kd = 10
 sl : zAh b1 60011 5 p3 = (bl, [pl], 0)
 bls : bl.st = 1
 plt : pl.tg = 11
 plc : pl.cs = [cl]
 clk : cl.kd = 6
 s4 : zAh b1 30 5 p3 = (b5, [p5], 0)
 b5s : b5.st = 4
 p5c : p5.cs = [c5]
 c5k : c5.kd = 11
 s5 : zAh a5 40 5 p5 = (a6, [], 0)
 a6s : a6.st = 4
 e1 : zAh a4 1200 2 pk0 = (zGx, [], 8)
 e2 : zAh a4 1200 1 pk0 = (zGx, [], 8)
theorem zRR : ∃ a1 a2 a3 a4 p1 p2 p3 p5 pl q2 q3 b1 a5 bl b5 a6 c2 c3 c5 cl, ExRun a1 a2 a3 a4 p1 p2 p3 p5 pl q2 q3 b1 a5 bl b5 a6 c2 c3 c5 cl := by
 have s1 : zAh (exG false) 0 1 pk0 = (zAK (exG false) 2 0, [⟨1, 2, 0, [⟨1, 0, exA.oct⟩]⟩], 0) := by kernel_rfl
 have G1 := zAi s1;have P1 := (G1.pk _ (List.mem_singleton.2 rfl)).1;have B0 : (exG true).ok = true := by kernel_rfl
 have hA : zAa exA = true := by kernel_rfl
 have hB : zAa exB = true := by kernel_rfl
 have s2 := zFA B0 (now := 10) (by kernel_rfl) (by decide) P1;rw [show (⟨1, 2, 0, [⟨1, 0, exA.oct⟩]⟩ : Pkx) = ⟨({ exG true with ta := 10 } : Gx).tt, ({ exG true with ta := 10 } : Gx).fr, 0, [⟨1, 0, exA.oct⟩]⟩ from rfl, recv_kind, zIe hA (by decide)] at s2;obtain ⟨C, hC⟩ : ∃ C, C = ckS { exG true with ta := 10 } exA.oct 10 := ⟨_, rfl⟩;have hC2 := hC;rw [← hC] at s2;have hCl : C.length = 62 := by rw [hC]; exact (zHq _ hA (by decide)).1
 have G2 := zAi s2;have P2 := (G2.pk _ (List.mem_singleton.2 rfl)).1;have G2o := G2.ok;have dok : ({ exB with ck := C } : Ini).ok = true := by
  have : exB.ok = true := by kernel_rfl
  unfold Ini.ok at this ⊢;simp [hCl, exB, zBQ]
 have hCn : ({ exB with ck := C } : Ini).ck ≠ [] := by intro h; rw [show ({ exB with ck := C } : Ini).ck = C from rfl] at h; rw [h] at hCl; simp at hCl
 have r3 := recv_kind.trans (zKz (g := { zAK (exG false) 2 0 with ta := 20 }) (now := 20) dok hCn rfl);have e3 : zFb { zAK (exG false) 2 0 with ta := 20 } 20 ⟨2, 1, 11, [⟨2, 0, Ini.oct { exB with ck := C }⟩]⟩ = ({ zAK { zAK (exG false) 2 0 with ta := 20 } 3 20 with ck := C, peer := exB }, [⟨1, 2, 22, [⟨10, 0, C⟩]⟩]) := r3;rw [show (zBM { exG true with ta := 10 } exA.tag ⟨2, 0, Ini.oct { ({ exG true with ta := 10 } : Gx).own with ck := C }⟩) = [⟨2, 1, 11, [⟨2, 0, Ini.oct { exB with ck := C }⟩]⟩] from rfl] at s2;have s3' : zAh (zAK (exG false) 2 0) 20 5 ⟨2, 1, 11, [⟨2, 0, Ini.oct { exB with ck := C }⟩]⟩ = ({ zAK { zAK (exG false) 2 0 with ta := 20 } 3 20 with ck := C, peer := exB }, [⟨1, 2, 22, [⟨10, 0, C⟩]⟩], 0) := by
  exact (zFA G1.ok (now := 20) (by kernel_rfl) (by rw [G1.ta]; decide) P2).trans (congrArg (fun r : Gx × List Pkx => (r.1, r.2, (0 : Int))) e3)
 have G3 := zAi s3';have P3 := (G3.pk _ (List.mem_singleton.2 rfl)).1;have bta : ({ exG true with ta := 10 } : Gx).ta = 10 := rfl;have rb : ∀ now : Int, zFb { ({ exG true with ta := 10 } : Gx) with ta := now } now ⟨1, 2, 22, [⟨10, 0, C⟩]⟩ = zDR { exG true with ta := now } now (ckS { exG true with ta := now } exA.oct 10) := by
  intro now;have h := (recv_kind (g := { exG true with ta := now }) (now := now) (tg := 22) (c := ⟨10, 0, C⟩)).trans (zGa (g := { exG true with ta := now }) (now := now) (b := C));rw [show ckS { exG true with ta := now } exA.oct 10 = C from (zId rfl rfl rfl rfl _ _).trans hC2.symm];exact h
 have el := zHr { exG true with ta := 60011 } hA (t := 10) (by decide) 60011;rw [if_pos ⟨by decide, by decide⟩] at el;have e4 := zHr { exG true with ta := 30 } hA (t := 10) (by decide) 30;rw [if_neg (by decide), if_pos (by decide)] at e4;have sl : zAh { exG true with ta := 10 } 60011 5 ⟨1, 2, 22, [⟨10, 0, C⟩]⟩ = ({ exG true with ta := 60011 }, [⟨2, 1, 11, [⟨6, 0, []⟩]⟩], 0) := by
  exact (zFA G2o (by kernel_rfl) (show (10 : Int) ≤ 60011 by decide) P3).trans <| congrArg (fun r : Gx × List Pkx => (r.1, r.2, (0 : Int))) ((rb 60011).trans el)
 have s4 : zAh { exG true with ta := 10 } 30 5 ⟨1, 2, 22, [⟨10, 0, C⟩]⟩ = ({ zAl { exG true with ta := 30 } 4 with peer := exA }, [⟨2, 1, 11, [⟨11, 0, []⟩]⟩], 0) := by
  exact (zFA G2o (by kernel_rfl) (show (10 : Int) ≤ 30 by decide) P3).trans <| congrArg (fun r : Gx × List Pkx => (r.1, r.2, (0 : Int))) ((rb 30).trans e4)
 have P4 := ((zAi s4).pk _ (List.mem_singleton.2 rfl)).1;have s5 : zAh { zAK { zAK (exG false) 2 0 with ta := 20 } 3 20 with ck := C, peer := exB } 40 5 ⟨2, 1, 11, [⟨11, 0, []⟩]⟩ = (zAl { ({ zAK { zAK (exG false) 2 0 with ta := 20 } 3 20 with ck := C, peer := exB } : Gx) with ta := 40 } 4, [], 0) := by
  exact (zFA G3.ok (by kernel_rfl) (show (20 : Int) ≤ 40 by decide) P4).trans <| congrArg (fun r : Gx × List Pkx => (r.1, r.2, (0 : Int))) ((recv_kind (g := { ({ zAK { zAK (exG false) 2 0 with ta := 20 } 3 20 with ck := C, peer := exB } : Gx) with ta := 40 })).trans (zN5 rfl))
 exact ⟨_, { zAK (exG false) 2 0 with ta := 399 }, ⟨2, 1, 2, List.replicate 32 97, exA, zIni, [], 400, 1200, 2⟩, ⟨2, 1, 2, List.replicate 32 97, exA, zIni, [], 1200, 2800, 3⟩, _, _, _, _, _, ⟨1, 2, 0, [⟨1, 0, exA.oct⟩]⟩, ⟨1, 2, 0, [⟨1, 0, exA.oct⟩]⟩, _, _, _, _, _, _, _, _, _,
  { s1 := s1, a1s := rfl, a1d := rfl, p1t := rfl, f1 := by kernel_rfl, a2d := rfl, f2 := by kernel_rfl, a3d := rfl, f3 := by kernel_rfl, a4d := rfl, s2 := s2, b1s := rfl, p2t := rfl, p2c := rfl, c2k := rfl, s3 := s3', a5s := rfl, p3t := rfl, p3c := rfl, c3k := rfl, sl := sl, bls := rfl, plt := rfl, plc := rfl, clk := rfl, s4 := s4, b5s := rfl, p5c := rfl, c5k := rfl, s5 := s5, a6s := rfl, e1 := by kernel_rfl, e2 := by kernel_rfl }⟩
theorem zHs (s : Bool) {n : Nat} (h : n < 65536) : (zAe s n).hd = true := by
 rw [zIZ];have hp : zAa (zAe s n).own = true := by
  unfold zAa Ini.ok zBQ zAe;cases s <;> simp <;> omega
 refine ⟨?_, ?_, ?_, ?_, ?_, hp, by cases s <;> rfl⟩ <;> cases s <;> simp [zAe]
theorem zHt (s : Bool) {n : Nat} (h : n < 65536) : (zAe s n).ok = true := by
 rw [zFc];exact ⟨zHs s h, by cases s <;> rfl, by cases s <;> rfl⟩
def zQr (g : Gx) (i : Nat) (now at1 : Int) : Gx := { g with st := 2, ta := at1, due := now + wtS i, tr := (i : Int) + 1, ck := [], peer := zIni }
def zPm (g : Gx) : Pkx := ⟨g.fr, g.tt, 0, [⟨1, 0, g.own.oct⟩]⟩
theorem zSj {g : Gx} (hg : g.ok = true) (hst : g.st = 1) (hta : g.ta = 0) (hp : g.peer = zIni) {p : Pkx} : zAh g 0 1 p = (zQr g 0 0 0, [zPm g], 0) := by
 rw [zMm hg (by decide) (by omega) hst];unfold zAK zQr zBM zPm;simp only [hp];rfl
def Pkx.sm (p : Pkx) : Prop := p.cs.length ≤ 1000000 ∧ ∀ c ∈ p.cs, c.bd.length ≤ 1000000
theorem zIf (w z : List Pkx) {i : Nat} (h : i < w.length) : (((w ++ z).map Pkx.row).take i) ++ (((w ++ z).map Pkx.row).drop (i + 1)).take (w.length - (i + 1)) = (w.eraseIdx i).map Pkx.row := by
 rw [← List.map_take, ← List.map_drop, ← List.map_take, ← vW, uH (by omega), qC (by omega), uH (by simp), zU (l := List.drop _ _) (by simp), List.eraseIdx_eq_take_drop_succ]
theorem zJY {p : Pkx} (h : p.ok = true) : p.sm := by
 unfold Pkx.ok Pkx.hd at h;simp only [zF, decide_eq_true_eq, zY] at h;refine ⟨by omega, fun c hc => ?_⟩;have := h.1.2 c hc;unfold Ckx.ok at this; simp only [zF, decide_eq_true_eq] at this; omega
theorem zSp {P : Program} {f : FuncId} {args args2 : List PV} {F : SF} {L nx top : Nat} {K : PV → List (Nm × SBlk) → List Nm → Nat → Prop} {v : PV} {upd : List (Nm × SBlk)} {rd : List Nm} (hw : WkL F args args2) (h0 : zAt args args2 = []) (hc : Con P f args2 F L nx top v upd rd) (hk : K v upd rd top) : CallVC P f args F L nx K :=
 CallVC.gen hw (by rw [h0]; exact hc) (by rw [h0]; exact hk)
structure Mv where
 what : Nat
 which : Nat
 later : Nat
def Tk.g (k : Tk) (s : Bool) : Gx := match s with | false => k.g0 | true => k.g1
def Tk.w (k : Tk) (s : Bool) : List Pkx := match s with | false => k.w0 | true => k.w1
def Tk.ev (k : Tk) (s : Bool) (h : Gx) (v o : List Pkx) : Tk := match s with
 | false => ⟨h, k.g1, v, k.w1 ++ o, k.now⟩
 | true => ⟨k.g0, h, k.w0 ++ o, v, k.now⟩
def Tk.tm (k : Tk) (t : Int) : Tk := { k with now := t }
theorem zS9 (k : Tk) (t : Int) (s : Bool) : (k.tm t).g s = k.g s := by cases s <;> rfl
theorem zTe (k : Tk) (t : Int) (s : Bool) : (k.tm t).w s = k.w s := by cases s <;> rfl
theorem zSu (k : Tk) (s : Bool) (h : Gx) (v o : List Pkx) : (k.ev s h v o).now = k.now := by cases s <;> rfl
theorem zTF (k : Tk) (s : Bool) (h : Gx) (v o : List Pkx) : (k.ev s h v o).g s = h := by cases s <;> rfl
theorem zTC (k : Tk) (s : Bool) (h : Gx) (v o : List Pkx) : (k.ev s h v o).g (!s) = k.g (!s) := by cases s <;> rfl
theorem zTp (k : Tk) (s : Bool) (h : Gx) (v o : List Pkx) : (k.ev s h v o).w s = v := by cases s <;> rfl
theorem zTi (k : Tk) (s : Bool) (h : Gx) (v o : List Pkx) : (k.ev s h v o).w (!s) = k.w (!s) ++ o := by cases s <;> rfl
def zIg (k : Tk) (s : Bool) (v : List Pkx) (kind : Int) (p : Pkx) : Option Tk :=
 match zAh (k.g s) k.now kind p with
 | (h, o, e) => if e = 0 then some (k.ev s h v o) else none
def zKF (k : Tk) (s : Bool) (which : Nat) (kept lost : Bool) : Option Tk :=
 if k.w s = [] then some k else
 let i := which % (k.w s).length
 let v := if kept then k.w s else (k.w s).eraseIdx i
 if lost then some (k.ev s (k.g s) v []) else zIg k s v 5 ((k.w s).getD i pk0)
def mvS (x : Tk × Nat) (m : Mv) : Option (Tk × Nat) :=
 let s := m.which % 2 == 1
 let k := x.1.tm (x.1.now + m.later)
 if m.what % 4 = 0 then
  if x.2 = 5 then some (k, x.2) else (zIg (k.tm (max k.now (k.g s).due)) s (k.w s) 4 pk0).map fun k' => (k', x.2 + 1)
 else (zKF k s (m.which / 2) (m.what % 4 == 3) (m.what % 4 == 2)).map fun k' => (k', x.2)
def qS (k : Tk) : Option Tk :=
 if k.w0 ≠ [] then zKF k false 0 false false
 else if k.w1 ≠ [] then zKF k true 0 false false
 else if 0 ≤ k.g0.due then zIg (k.tm (max k.now k.g0.due)) false k.w0 4 pk0
 else zIg (k.tm (max k.now k.g1.due)) true k.w1 4 pk0
def zPn (k : Tk) : Prop := k.w0 = [] ∧ k.w1 = [] ∧ k.g0.due < 0 ∧ k.g1.due < 0
instance (k : Tk) : Decidable (zPn k) := by unfold zPn; infer_instance
def qR : Nat → Tk → Option Tk
 | 0, _ => none
 | f + 1, k => if zPn k then some k else (qS k).bind (qR f)
theorem zMn (f : Nat) (k : Tk) : qR (f + 1) k = if zPn k then some k else (qS k).bind (qR f) := rfl
theorem zHu {k : Tk} {s : Bool} {v : List Pkx} {kind : Int} {p : Pkx} {h : Gx} {o : List Pkx} (hs : zAh (k.g s) k.now kind p = (h, o, 0)) : zIg k s v kind p = some (k.ev s h v o) := by
 unfold zIg;simp only [hs, if_true]
def Wy (k : Tk) (n : Nat) : Prop := k.w0.length ≤ n ∧ k.w1.length ≤ n ∧ (∀ p ∈ k.w0, p.sm) ∧ (∀ p ∈ k.w1, p.sm)
theorem Wy.w {k : Tk} {n : Nat} (h : Wy k n) (s : Bool) : (k.w s).length ≤ n ∧ ∀ p ∈ k.w s, p.sm := by
 cases s;·exact ⟨h.1, h.2.2.1⟩
 ·exact ⟨h.2.1, h.2.2.2⟩
theorem Wy.of {k : Tk} {n : Nat} (h : ∀ s, (k.w s).length ≤ n ∧ ∀ p ∈ k.w s, p.sm) : Wy k n := ⟨(h false).1, (h true).1, (h false).2, (h true).2⟩
structure Cor (c g : Gx) : Prop where
 fr : g.fr = c.fr
 tt : g.tt = c.tt
 sec : g.sec = c.sec
 own : g.own = c.own
structure Fit (C : Bool → Gx) : Prop where
 hd : ∀ s, (C s).hd = true
 pt : ∀ s, (C s).tt = (C !s).fr
theorem Fit.tf {C : Bool → Gx} (h : Fit C) (s : Bool) : (C s).fr = (C !s).tt := by
 have := h.pt (!s); rw [Bool.not_not] at this; exact this.symm
theorem Fit.own {C : Bool → Gx} (h : Fit C) (s : Bool) : zAa (C s).own = true := ((zIZ _).1 (h.hd s)).2.2.2.2.2.1
theorem Fit.tag {C : Bool → Gx} (h : Fit C) (s : Bool) : 0 < (C s).own.tag ∧ (C s).own.tag < 4294967296 := by
 have := zIa (zCL (h.own s)).1; omega
def pTo (C : Bool → Gx) (s : Bool) (tag : Int) (c : Ckx) : Pkx := ⟨(C !s).fr, (C !s).tt, tag, [c]⟩
theorem zHB {C : Bool → Gx} (h : Fit C) (s : Bool) {tag : Int} (ht : 0 ≤ tag ∧ tag < 4294967296) {c : Ckx} (hc : 0 ≤ c.kd ∧ c.kd < 256) (hf : c.fl = 0) (hb : c.bd.length ≤ 300) : (pTo C s tag c).ok = true :=
 (zG9 (h.hd !s) ht hc hf hb _ (List.mem_singleton.2 rfl)).1
theorem zN6 {C : Bool → Gx} {s : Bool} {g : Gx} (h : Cor (C s) g) (tag : Int) (c : Ckx) : zBM g tag c = [pTo C (!s) tag c] := by
 unfold zBM pTo;rw [Bool.not_not, h.fr, h.tt]
theorem zN7 {C : Bool → Gx} (hC : Fit C) {s : Bool} {g : Gx} (h : Cor (C s) g) (now tag : Int) (c : Ckx) : zFb g now (pTo C s tag c) = zAm g now tag c := by
 have : pTo C s tag c = ⟨g.tt, g.fr, tag, [c]⟩ := by
  unfold pTo;rw [h.fr, h.tt, hC.pt s, hC.tf s]
 rw [this, recv_kind]
theorem zKG {c g : Gx} (h : Cor c g) (b : List UInt8) (t : Int) : ckS g b t = ckS c b t := zId (by rw [h.own]) h.fr h.tt h.sec b t
theorem zFB {C : Bool → Gx} (hC : Fit C) {s : Bool} {g : Gx} (h : Cor (C s) g) (hg : g.ok = true) {now : Int} (hn : 0 ≤ now ∧ now ≤ 1099511627776) (hta : g.ta ≤ now) {tag : Int} {c : Ckx} (hp : (pTo C s tag c).ok = true) :
  zAh g now 5 (pTo C s tag c) = ((zAm { g with ta := now } now tag c).1, (zAm { g with ta := now } now tag c).2, 0) := by
 rw [zFA hg ((zBm now).2 hn) hta hp];have := zN7 hC (s := s) (g := { g with ta := now }) ⟨h.fr, h.tt, h.sec, h.own⟩ now tag c;rw [this]
theorem zHC {c g : Gx} (h : Cor c g) (t : Int) : Cor c { g with ta := t } := ⟨h.fr, h.tt, h.sec, h.own⟩
structure SI (C : Bool → Gx) (s : Bool) (now : Int) (w : Nat) (g : Gx) : Prop where
 ok : g.ok = true
 cor : Cor (C s) g
 ta : g.ta ≤ now
 due : g.due ≤ now + 6400
 tr : g.tr ≤ 1 + w
theorem SI.mono {C : Bool → Gx} {s : Bool} {now : Int} {w : Nat} {g : Gx} (h : SI C s now w g) {now2 : Int} (hn : now ≤ now2) {w2 : Nat} (hw : w ≤ w2) : SI C s now2 w2 g :=
 ⟨h.ok, h.cor, by have := h.ta; omega, by have := h.due; omega, by have := h.tr; omega⟩
theorem zN8 {c g : Gx} (h : Cor c g) (now tag : Int) (x : Ckx) : Cor c (zAm g now tag x).1 := by
 unfold zAm;split
 ·unfold zEf; split <;> exact h
 split;·exact h
 split
 ·unfold zEg; split <;> exact ⟨h.fr, h.tt, h.sec, h.own⟩
 split
 ·unfold zDR; simp only; split
  ·split;·exact h
   split;·exact ⟨h.fr, h.tt, h.sec, h.own⟩
   split <;> exact h
  ·exact h
 split
 ·split <;> exact ⟨h.fr, h.tt, h.sec, h.own⟩
 split
 ·unfold zIQ; split;·exact ⟨h.fr, h.tt, h.sec, h.own⟩
  split <;> exact h
 split
 ·unfold zFP; split <;> exact ⟨h.fr, h.tt, h.sec, h.own⟩
 split
 ·split <;> exact ⟨h.fr, h.tt, h.sec, h.own⟩
 split
 ·split <;> exact ⟨h.fr, h.tt, h.sec, h.own⟩
 ·exact h
theorem zN9 {g : Gx} {now : Int} {w : Nat} (h1 : g.due ≤ now + 6400) (h2 : g.tr ≤ 1 + w) (h0 : 0 ≤ now) (tag : Int) (x : Ckx) : (zAm g now tag x).1.due ≤ now + 6400 ∧ (zAm g now tag x).1.tr ≤ 1 + w := by
 have hb : ∀ s, (zAK g s now).due ≤ now + 6400 ∧ (zAK g s now).tr ≤ 1 + w := fun s => ⟨by unfold zAK; simp only; omega, by unfold zAK; simp only; omega⟩
 have hr : ∀ s, (zAl g s).due ≤ now + 6400 ∧ (zAl g s).tr ≤ 1 + w := fun s => ⟨by unfold zAl; simp only; omega, by unfold zAl; simp only; omega⟩
 have hg : g.due ≤ now + 6400 ∧ g.tr ≤ 1 + w := ⟨h1, h2⟩;unfold zAm;split
 ·unfold zEf; split <;> exact hg
 split;·exact hg
 split
 ·unfold zEg; split;·exact hb 3
  ·exact hg
 split
 ·unfold zDR; simp only; split
  ·split;·exact hg
   split;·exact hr 4
   split <;> exact hg
  ·exact hg
 split
 ·split;·exact hr 4
  ·exact hg
 split
 ·unfold zIQ; split;·exact hb 6
  split <;> exact hg
 split
 ·unfold zFP; split;·exact hr 7
  ·exact hg
 split
 ·split;·exact hr 7
  ·exact hg
 split
 ·split;·exact hg
  ·exact hr 7
 ·exact hg
theorem SI.recv {C : Bool → Gx} (hC : Fit C) {s : Bool} {now : Int} {w : Nat} {g : Gx} (h : SI C s now w g) (hn : 0 ≤ now ∧ now ≤ 1099511627776) {tag : Int} {c : Ckx} (hp : (pTo C s tag c).ok = true) :
  zAh g now 5 (pTo C s tag c) = ((zAm { g with ta := now } now tag c).1, (zAm { g with ta := now } now tag c).2, 0) ∧ SI C s now w (zAm { g with ta := now } now tag c).1 := by
 have hs := zFB hC h.cor h.ok hn h.ta hp;have G := zAi hs;have hd := zN9 (g := { g with ta := now }) h.due h.tr hn.1 tag c;exact ⟨hs, G.ok, zN8 (zHC h.cor now) now tag c, by rw [G.ta]; exact wK _, hd.1, hd.2⟩
theorem SI.tick {C : Bool → Gx} {s : Bool} {now : Int} {w : Nat} {g : Gx} (h : SI C s now w g) (hn : 0 ≤ now ∧ now ≤ 1099511627776) {p : Pkx} (hw : w ≤ 6) :
  zAh g now 4 p = ((zDy { g with ta := now } now).1, (zDy { g with ta := now } now).2, 0) ∧ SI C s now (w + 1) (zDy { g with ta := now } now).1 := by
 have hs := zPZ (p := p) h.ok ((zBm now).2 hn) h.ta;have G := zAi hs;have h1 := h.due;have h2 := h.tr;refine ⟨hs, G.ok, ?_, by rw [G.ta]; exact wK _, ?_, ?_⟩ <;> unfold zDy <;> split
 ·exact zHC h.cor now
 ·split <;> exact ⟨h.cor.fr, h.cor.tt, h.cor.sec, h.cor.own⟩
 ·show g.due ≤ now + 6400; exact h1
 ·split;·show (-1 : Int) ≤ now + 6400; omega
  ·have := zMW g.tr;show now + wtS g.tr ≤ now + 6400; omega
 ·show g.tr ≤ 1 + ((w + 1 : Nat) : Int); omega
 ·split;·show (0 : Int) ≤ 1 + ((w + 1 : Nat) : Int); omega
  ·show g.tr + 1 ≤ 1 + ((w + 1 : Nat) : Int); omega
theorem SI.tick_is {C : Bool → Gx} {s : Bool} {now : Int} {w : Nat} {g : Gx} (h : SI C s now w g) (hw : w ≤ 6) :
  zDy { g with ta := now } now = ({ g with ta := now }, []) ∨ (0 ≤ g.due ∧ g.due ≤ now ∧ zDy { g with ta := now } now = ({ g with ta := now, due := now + wtS g.tr, tr := g.tr + 1 }, zA4 { g with ta := now })) := by
 have h2 := h.tr;unfold zDy;split;·exact .inl rfl
 rename_i hd;refine .inr ⟨?_, ?_, ?_⟩
 ·by_cases h0 : 0 ≤ g.due;·exact h0
  ·exact absurd (.inl (by show g.due < 0; omega)) hd
 ·by_cases h0 : g.due ≤ now;·exact h0
  ·exact absurd (.inr (by show now < g.due; omega)) hd
 rw [if_neg (by show g.tr ≠ 8; omega)]
def wts (wt : Pkx → Nat) (l : List Pkx) : Nat := (l.map wt).sum
structure Prot (C : Bool → Gx) (M : Bool → Int → Int → Gx → Prop) (P : Bool → Int → Int → Pkx → Prop) (wt : Pkx → Nat) : Prop where
 fit : Fit C
 mM : ∀ {s now st g now2 st2}, M s now st g → now ≤ now2 → st ≤ st2 → M s now2 st2 g
 mP : ∀ {s now st p now2 st2}, P s now st p → now ≤ now2 → st ≤ st2 → P s now2 st2 p
 ok : ∀ {s now st p}, P s now st p → p.ok = true
 ta : ∀ {s now st g} (t : Int), M s now st g → M s now st { g with ta := t }
 tick : ∀ {s now st g} (d n : Int), M s now st g → M s now st { g with due := d, tr := n }
 wt4 : ∀ p, wt p ≤ 4
 kind : ∀ {s now st g p}, (0 ≤ now ∧ now ≤ 60000) → Cor (C s) g → g.ok = true → M s now st g → P s now st p →
  ∃ tag c, p = pTo C s tag c ∧ M s now st (zAm g now tag c).1 ∧ g.st ≤ (zAm g now tag c).1.st ∧ (∀ x ∈ (zAm g now tag c).2, P (!s) now (zAm g now tag c).1.st x) ∧ wts wt (zAm g now tag c).2 < wt p
 again : ∀ {s now st g}, Cor (C s) g → M s now st g → ∀ x ∈ zA4 g, P (!s) now g.st x
structure KI (C : Bool → Gx) (M : Bool → Int → Int → Gx → Prop) (P : Bool → Int → Int → Pkx → Prop) (k : Tk) (w : Nat) : Prop where
 si : ∀ s, SI C s k.now w (k.g s)
 m : ∀ s, M s k.now (k.g !s).st (k.g s)
 p : ∀ s, ∀ p ∈ k.w s, P s k.now (k.g !s).st p
theorem KI.tm {C : Bool → Gx} {M : Bool → Int → Int → Gx → Prop} {P : Bool → Int → Int → Pkx → Prop} {wt : Pkx → Nat} (hP : Prot C M P wt) {k : Tk} {w : Nat} (h : KI C M P k w) {t : Int} (ht : k.now ≤ t) : KI C M P (k.tm t) w :=
 ⟨fun s => by rw [zS9]; exact (h.si s).mono ht (zD _), fun s => by rw [zS9, zS9]; exact hP.mM (h.m s) ht (wK _), fun s p hp => by rw [zTe] at hp; rw [zS9]; exact hP.mP (h.p s p hp) ht (wK _)⟩
theorem KI.le {C : Bool → Gx} {M : Bool → Int → Int → Gx → Prop} {P : Bool → Int → Int → Pkx → Prop} {k : Tk} {w w2 : Nat} (h : KI C M P k w) (hw : w ≤ w2) : KI C M P k w2 := ⟨fun s => (h.si s).mono (wK _) hw, h.m, h.p⟩
theorem KI.ev {C : Bool → Gx} {M : Bool → Int → Int → Gx → Prop} {P : Bool → Int → Int → Pkx → Prop} {wt : Pkx → Nat} (hP : Prot C M P wt) {k : Tk} {w w2 : Nat} (h : KI C M P k w) (hw : w ≤ w2) (s : Bool) {g : Gx} {v o : List Pkx} (hs : SI C s k.now w2 g) (hm : M s k.now (k.g !s).st g) (hst : (k.g s).st ≤ g.st) (hv : ∀ p ∈ v, p ∈ k.w s) (ho : ∀ x ∈ o, P (!s) k.now g.st x) : KI C M P (k.ev s g v o) w2 := by
 have hnot : ∀ t : Bool, t = s ∨ t = !s := by intro t; cases s <;> cases t <;> simp
 refine ⟨fun t => ?_, fun t => ?_, fun t p hp => ?_⟩
 ·rw [zSu];rcases hnot t with rfl | rfl;·rw [zTF]; exact hs
  ·rw [zTC]; exact (h.si _).mono (wK _) hw
 ·rw [zSu];rcases hnot t with rfl | rfl;·rw [zTF, zTC]; exact hm
  ·rw [zTC, Bool.not_not, zTF];have := h.m (!s);rw [Bool.not_not] at this;exact hP.mM this (wK _) hst
 ·rw [zSu];rcases hnot t with rfl | rfl
  ·rw [zTp] at hp;rw [zTC];exact h.p _ p (hv p hp)
  ·rw [zTi] at hp;rw [Bool.not_not, zTF];rcases List.mem_append.1 hp with hp | hp
   ·have := h.p (!s) p hp;rw [Bool.not_not] at this;exact hP.mP this (wK _) hst
   ·exact ho p hp
theorem KI.recv {C : Bool → Gx} {M : Bool → Int → Int → Gx → Prop} {P : Bool → Int → Int → Pkx → Prop} {wt : Pkx → Nat} (hP : Prot C M P wt) {k : Tk} {w : Nat} (h : KI C M P k w) (hn : 0 ≤ k.now ∧ k.now ≤ 60000) (s : Bool) {p : Pkx} (hp : p ∈ k.w s) {v : List Pkx} (hv : ∀ p ∈ v, p ∈ k.w s) :
  ∃ g o, zAh (k.g s) k.now 5 p = (g, o, 0) ∧ zIg k s v 5 p = some (k.ev s g v o) ∧ KI C M P (k.ev s g v o) w ∧ o.length ≤ 1 ∧ wts wt o < wt p ∧ (k.g s).st ≤ g.st := by
 have hs := h.si s;obtain ⟨tag, c, e, k1, k2, k3, k4⟩ := hP.kind hn (zHC hs.cor k.now) (by
  have := hs.ok;rw [zFc] at this ⊢;refine ⟨?_, this.2⟩;have h3 := this.1;rw [zIZ] at h3 ⊢;exact ⟨h3.1, h3.2.1, h3.2.2.1, h3.2.2.2.1, h3.2.2.2.2.1, h3.2.2.2.2.2.1, (zBm k.now).2 (by omega)⟩) (hP.ta k.now (h.m s)) (h.p s p hp)
 have hok := hP.ok (h.p s p hp);rw [e] at hok;obtain ⟨r1, r2⟩ := hs.recv hP.fit (by omega) hok;refine ⟨_, _, by rw [e]; exact r1, by rw [e]; exact zHu r1, h.ev hP (zD _) s r2 k1 k2 hv k3, (zAi r1).len, k4, k2⟩
theorem KI.tick {C : Bool → Gx} {M : Bool → Int → Int → Gx → Prop} {P : Bool → Int → Int → Pkx → Prop} {wt : Pkx → Nat} (hP : Prot C M P wt) {k : Tk} {w : Nat} (h : KI C M P k w) (hn : 0 ≤ k.now ∧ k.now ≤ 60000) (hw : w ≤ 6) (s : Bool) :
  ∃ g o, zAh (k.g s) k.now 4 pk0 = (g, o, 0) ∧ zIg k s (k.w s) 4 pk0 = some (k.ev s g (k.w s) o) ∧ KI C M P (k.ev s g (k.w s) o) (w + 1) ∧ o.length ≤ 1 ∧ (k.g s).st ≤ g.st := by
 have hs := h.si s;obtain ⟨r1, r2⟩ := hs.tick (p := pk0) (by omega) hw;refine ⟨_, _, r1, zHu r1, ?_, (zAi r1).len, ?_⟩;rotate_left
 ·rcases hs.tick_is hw with e | ⟨_, _, e⟩ <;> rw [e] <;> exact wK _
 rcases hs.tick_is hw with e | ⟨_, _, e⟩
 ·refine h.ev hP (by omega) s r2 ?_ ?_ (fun p hp => hp) ?_ <;> rw [e]
  ·exact hP.ta _ (h.m s)
  ·exact wK _
  ·simp
 ·refine h.ev hP (by omega) s r2 ?_ ?_ (fun p hp => hp) ?_ <;> rw [e]
  ·exact hP.tick (k.now + wtS (k.g s).tr) ((k.g s).tr + 1) (hP.ta k.now (h.m s))
  ·exact wK _
  ·exact hP.again (zHC hs.cor _) (hP.ta k.now (h.m s))
theorem zMo (k : Tk) (s : Bool) (g : Gx) (v o : List Pkx) : (k.ev s g v o).w0.length + (k.ev s g v o).w1.length + (k.w s).length = k.w0.length + k.w1.length + v.length + o.length := by
 cases s <;> simp [Tk.ev, Tk.w] <;> omega
theorem zPa {k : Tk} {s : Bool} {g : Gx} {v o : List Pkx} (h : (k.g s).st ≤ g.st) : ∀ u, (k.g u).st ≤ ((k.ev s g v o).g u).st := by
 intro u;cases s <;> cases u
 ·exact h
 ·exact wK _
 ·exact wK _
 ·exact h
theorem KI.move {C : Bool → Gx} {M : Bool → Int → Int → Gx → Prop} {P : Bool → Int → Int → Pkx → Prop} {wt : Pkx → Nat} (hP : Prot C M P wt) {k : Tk} {w : Nat} (h : KI C M P k w) (hw : w ≤ 5) {i : Nat} (hi : i < 12) (h0 : 0 ≤ k.now) (hn : k.now ≤ 255 * i + 6400 * w) (m : Mv) (hm : m.later ≤ 255) :
  ∃ k2 w2, mvS (k, w) m = some (k2, w2) ∧ KI C M P k2 w2 ∧ w2 ≤ 5 ∧ 0 ≤ k2.now ∧ k2.now ≤ 255 * (i + 1 : Nat) + 6400 * w2 ∧ k2.w0.length + k2.w1.length ≤ k.w0.length + k.w1.length + 1 ∧ ∀ u, (k.g u).st ≤ (k2.g u).st := by
 have hT := h.tm hP (t := k.now + m.later) (by omega);obtain ⟨s, hs⟩ : ∃ s, s = (m.which % 2 == 1) := ⟨_, rfl⟩;obtain ⟨K, hK⟩ : ∃ K, K = k.tm (k.now + m.later) := ⟨_, rfl⟩;have kn : K.now = k.now + m.later := by rw [hK]; rfl
 have kl : K.w0.length + K.w1.length = k.w0.length + k.w1.length := by rw [hK]; rfl
 have kst : ∀ u, (k.g u).st ≤ (K.g u).st := by intro u; rw [hK, zS9]; exact wK _
 unfold mvS;simp only [← hs, ← hK];rw [← hK] at hT;split
 ·split
  ·rename_i h5;exact ⟨_, _, rfl, hT, by omega, by omega, by omega, by omega, kst⟩
  ·rename_i h5;have hd := (hT.si s).due;obtain ⟨K2, hK2⟩ : ∃ K2, K2 = K.tm (max K.now (K.g s).due) := ⟨_, rfl⟩;have hT2 := hT.tm hP (t := max K.now (K.g s).due) (by omega);rw [← hK2] at hT2 ⊢;have kn2 : K2.now = max K.now (K.g s).due := by rw [hK2]; rfl
   have kw2 : K.w s = K2.w s := by rw [hK2, zTe]
   have kl2 : K2.w0.length + K2.w1.length = K.w0.length + K.w1.length := by rw [hK2]; rfl
   obtain ⟨g, o, e1, e2, e3, e4, e5⟩ := hT2.tick hP (by omega) (by omega) s;rw [kw2, e2];have el := zMo K2 s g (K2.w s) o;exact ⟨_, _, rfl, e3, by omega, by rw [zSu]; omega, by rw [zSu]; omega, by omega, fun u => Int.le_trans (kst u) (by have := zPa (v := K2.w s) (o := o) e5 u; rwa [hK2, zS9, ← hK2] at this)⟩
 ·unfold zKF;simp only;split;·exact ⟨_, _, rfl, hT, hw, by omega, by omega, by omega, kst⟩
  rename_i hne;have hlen : 0 < (K.w s).length := List.length_pos_iff.2 hne;obtain ⟨i', hi'⟩ : ∃ i', i' = m.which / 2 % (K.w s).length := ⟨_, rfl⟩;have hlt : i' < (K.w s).length := by rw [hi']; exact wX _ hlen
  rw [← hi'];obtain ⟨v, hv⟩ : ∃ v, v = if (m.what % 4 == 3) = true then K.w s else (K.w s).eraseIdx i' := ⟨_, rfl⟩
  have hvm : ∀ p ∈ v, p ∈ K.w s := by
   intro p hp;rw [hv] at hp;split at hp;·exact hp
   ·exact List.mem_of_mem_eraseIdx hp
  have hvl : v.length ≤ (K.w s).length := by
   rw [hv]; split;·exact zD _
   ·exact List.length_eraseIdx_le _ _
  rw [← hv];split
  ·have el := zMo K s (K.g s) v [];refine ⟨_, _, rfl, hT.ev hP (zD _) s (hT.si s) (hT.m s) (wK _) hvm (by simp), hw, by rw [zSu]; omega, by rw [zSu]; omega, by simp at el ⊢; omega, fun u => Int.le_trans (kst u) (zPa (wK _) u)⟩
  ·have hp : (K.w s).getD i' pk0 ∈ K.w s := by
    rw [zG, zO hlt];exact uX hlt
   obtain ⟨g, o, e1, e2, e3, e4, _, e6⟩ := hT.recv hP (by omega) s hp hvm;rw [e2];have el := zMo K s g v o;exact ⟨_, _, rfl, e3, hw, by rw [zSu]; omega, by rw [zSu]; omega, by omega, fun u => Int.le_trans (kst u) (zPa e6 u)⟩
theorem zPb {k : Tk} {s : Bool} (h1 : k.w0 = []) (h2 : k.w1 = []) (hd : 0 ≤ (k.g s).due) (hs0 : s = true → k.g0.due < 0) {g : Gx} {o : List Pkx} (hs : zAh (k.g s) (max k.now (k.g s).due) 4 pk0 = (g, o, 0)) (f : Nat) : qR (f + 1) k = qR f ((k.tm (max k.now (k.g s).due)).ev s g [] o) := by
 have e2 := zHu (k := k.tm (max k.now (k.g s).due)) (s := s) (v := []) (by rw [zS9]; exact hs);cases s with
 | false =>
  have hd : 0 ≤ k.g0.due := hd;rw [zMn];unfold qS;rw [if_neg (by unfold zPn; exact fun h => by omega), if_neg (by simp [h1]), if_neg (by simp [h2]), if_pos hd, h1];exact congrArg (fun r => Option.bind r (qR f)) e2
 | true =>
  have hd : 0 ≤ k.g1.due := hd;rw [zMn];unfold qS;rw [if_neg (by unfold zPn; exact fun h => by omega), if_neg (by simp [h1]), if_neg (by simp [h2]), if_neg (by have := hs0 rfl; omega), h2];exact congrArg (fun r => Option.bind r (qR f)) e2
def Ends (Q : Tk → Prop) (n : Nat) (k : Tk) : Prop := ∃ k2, (∀ f, n ≤ f → qR f k = some k2) ∧ Q k2
theorem Ends.step {Q : Tk → Prop} {n : Nat} {k k1 : Tk} (h : Ends Q n k1) (e : ∀ f, qR (f + 1) k = qR f k1) : Ends Q (n + 1) k := by
 obtain ⟨k2, h1, h2⟩ := h;refine ⟨k2, fun f hf => ?_, h2⟩;obtain ⟨f', rfl⟩ : ∃ f', f = f' + 1 := ⟨f - 1, by omega⟩;rw [e]; exact h1 f' (by omega)
theorem Ends.le {Q : Tk → Prop} {n m : Nat} {k : Tk} (h : Ends Q n k) (hm : n ≤ m) : Ends Q m k := by
 obtain ⟨k2, h1, h2⟩ := h;exact ⟨k2, fun f hf => h1 f (by omega), h2⟩
theorem zRS {k : Tk} {s : Bool} (h1 : k.w s = []) (h2 : k.w (!s) = []) : k.w0 = [] ∧ k.w1 = [] := by cases s <;> exact ⟨by assumption, by assumption⟩
theorem KI.due {C : Bool → Gx} {M : Bool → Int → Int → Gx → Prop} {P : Bool → Int → Int → Pkx → Prop} {wt : Pkx → Nat} (hP : Prot C M P wt) {k : Tk} {w : Nat} (h : KI C M P k w) (hn : 0 ≤ k.now ∧ k.now ≤ 50000) (hw : w ≤ 6) {s : Bool} (h1 : k.w s = []) (h2 : k.w (!s) = []) (hd : 0 ≤ (k.g s).due) (hs0 : s = true → k.g0.due < 0) {a : Pkx} (ha : ∀ t, zA4 { k.g s with ta := t } = [a]) :
  ∃ k1, (∀ f, qR (f + 1) k = qR f k1) ∧ KI C M P k1 (w + 1) ∧ k1.w s = [] ∧ k1.w (!s) = [a] ∧ (k1.g s).st = (k.g s).st ∧ k1.g (!s) = k.g (!s) ∧ (k1.g s).peer = (k.g s).peer ∧ 0 ≤ k1.now ∧ k1.now ≤ 60000 ∧ k.now ≤ k1.now := by
 have hdu := (h.si s).due;obtain ⟨z0, z1⟩ := zRS h1 h2;obtain ⟨T, hT⟩ : ∃ T, T = max k.now (k.g s).due := ⟨_, rfl⟩;obtain ⟨K, hK⟩ : ∃ K, K = k.tm T := ⟨_, rfl⟩;have hk := h.tm hP (t := T) (by omega);rw [← hK] at hk;have kn : K.now = T := by rw [hK]; rfl
 have kg : ∀ u, K.g u = k.g u := by intro u; rw [hK, zS9]
 have kw : ∀ u, K.w u = k.w u := by intro u; rw [hK, zTe]
 obtain ⟨g, o, e1, _, e3, _⟩ := hk.tick hP (by omega) hw s;obtain ⟨r1, _⟩ := (hk.si s).tick (p := pk0) (by omega) hw;have ti := (hk.si s).tick_is hw;rw [e1] at r1;rw [kg, kn] at r1 ti;have hgo : g = { k.g s with ta := T, due := T + wtS (k.g s).tr, tr := (k.g s).tr + 1 } ∧ o = [a] := by
  rcases ti with ti | ⟨_, _, ti⟩
  ·have : zDy { k.g s with ta := T } T = ({ k.g s with ta := T, due := T + wtS (k.g s).tr, tr := (k.g s).tr + 1 }, zA4 { k.g s with ta := T }) := by
    have := (h.si s).tr;unfold zDy;rw [if_neg (by show ¬ ((k.g s).due < 0 ∨ T < (k.g s).due); omega), if_neg (by show (k.g s).tr ≠ 8; omega)]
   rw [this, ha] at r1;simp only [zX, and_true] at r1;exact r1
  ·rw [ti, ha] at r1;simp only [zX, and_true] at r1;exact r1
 obtain ⟨hg, ho⟩ := hgo;rw [ho] at e1 e3;rw [kg, kn] at e1;rw [kw, h1] at e3;have q := zPb z0 z1 hd hs0 (by rw [← hT]; exact e1);rw [← hT, ← hK] at q;refine ⟨_, q, e3, zTp .., ?_, ?_, ?_, ?_, ?_, ?_, ?_⟩;·rw [zTi, kw, h2]; rfl
 ·rw [zTF, hg]
 ·rw [zTC, kg]
 ·rw [zTF, hg]
 ·rw [zSu]; omega
 ·rw [zSu]; omega
 ·rw [zSu]; omega
end Go.Proofs.YtifhjhbfhdcahaaGreat
end
section
namespace Go.Tx
theorem zTU {E : Env} {F : SF} {w : World} (h : HRel E F w) {a n : Nm} (hE : E n = none) {e : TypeId} {wd : Nat} {o p : Bool} {rs : List (List PV)} (ha : F a = some (.rows e wd o p rs)) {i : BI} (hi : E a = some i) :
  StepR E F w (E.set n i) ((F.set a .dead).set n (.rows e wd o p rs)) w := by
 have hle := zSq (i := i) hE;have hna : a ≠ n := fun hh => by rw [hh, hE] at hi; cases hi
 have hback : ∀ m b j, ((F.set a .dead).set n (.rows e wd o p rs)) m = some b → b.live = true → (E.set n i) m = some j → ∃ m', F m' = some b ∧ E m' = some j ∧ (m = n → m' = a) ∧ (m ≠ n → m' = m ∧ m ≠ a) := by
  intro m b j hm hb hj;unfold SF.set at hm;split at hm
  ·rename_i he;subst he;injection hm with hm; subst hm;rw [zSk] at hj;injection hj with hj; subst hj;exact ⟨a, ha, hi, fun _ => rfl, fun h => absurd rfl h⟩
  ·rename_i he;rw [zSl E _ he] at hj;split at hm;·injection hm with hm; subst hm; cases hb
   ·rename_i he2;exact ⟨m, hm, hj, fun h => absurd h he, fun _ => ⟨rfl, he2⟩⟩
 have hN : NewAt E F w (E.set n i) ((F.set a .dead).set n (.rows e wd o p rs)) w := by
  refine ⟨hle, rfl, rfl, rfl, zD _, fun _ _ _ => rfl, fun m b j hm ho hj hz => ?_⟩;obtain ⟨m', h1, h2, _⟩ := hback m b j hm (zAY ho) hj;exact .inr ⟨m', b, j, h1, ho, h2, hz, rfl⟩
 refine hN.step ⟨fun m b hm => ?_, fun m1 m2 b c j1 j2 h1 h2 h12 ho hl hj1 hj2 hz1 hz2 => ?_⟩
 ·unfold SF.set at hm;split at hm
  ·rename_i he;subst he;injection hm with hm; subst hm;have := (h.blk a _ ha).mono hN.ext fun _ _ _ => rfl
   obtain ⟨j, k1, k2⟩ := this;rw [hle _ _ hi] at k1;injection k1 with k1; subst k1;exact ⟨i, zSk _ _ _, k2⟩
  split at hm;·injection hm with hm; subst hm; trivial
  ·exact (h.blk m b hm).mono hN.ext fun _ _ _ => rfl
 ·obtain ⟨x1, a1, a2, a3, a4⟩ := hback m1 b j1 h1 (zAY ho) hj1;obtain ⟨x2, b1, b2, b3, b4⟩ := hback m2 c j2 h2 hl hj2;refine h.sep x1 x2 b c j1 j2 a1 b1 ?_ ho hl a2 b2 hz1 hz2;by_cases e1 : m1 = n
  ·by_cases e2 : m2 = n;·exact absurd (e1.trans e2.symm) h12
   ·rw [a3 e1, (b4 e2).1]; exact fun h => (b4 e2).2 h.symm
  ·by_cases e2 : m2 = n;·rw [(a4 e1).1, b3 e2]; exact (a4 e1).2
   ·rw [(a4 e1).1, (b4 e2).1]; exact h12
theorem zTL {L : Nat} {F0 : SF} {t : List (Option PV)} {H : List (Nm × SBlk)} {nx : Nat} (a n : Nm) {e e2 : TypeId} {wd wd2 : Nat} {o p o2 p2 : Bool} {row row1 : List PV} {rs : List (List PV)} (ha : look F0 H a = some (.rows e2 wd2 o2 p2 rs)) (hn : look F0 H n = some (.rows e wd o p [row])) (hna : n ≠ a) (hne : n ≠ ⟨L, nx⟩) (hl : row1.length = row.length)
  (hc : ∀ c : Nat, row1[c]? = row[c]? ∨ ∃ r l, row[c]? = some (PV.sl a r l) ∧ row1[c]? = some (PV.sl ⟨L, nx⟩ r l)) :
  Sub L F0 ⟨t, H, nx⟩ ⟨t, zAr H [(a, .dead), (⟨L, nx⟩, .rows e2 wd2 o2 p2 rs), (n, .rows e wd o false [row1])], nx + 1⟩ := by
 intro B E0 w0 E ac w hd0 hR;have hf := (hR.fresh hd0).1 nx (zD _);obtain ⟨i, hi, _⟩ := hR.step.rel.blk a _ ha;have hS := zTU hR.step.rel hf ha hi;have hle := hS.le;have hn1 : (((look F0 H).set a .dead).set ⟨L, nx⟩ (.rows e2 wd2 o2 p2 rs)) n = some (.rows e wd o p [row]) := by simp only [SF.set, if_neg hne, if_neg hna]; exact hn
 have hEE : Ext (EE (E.set ⟨L, nx⟩ i) p) w (Zn (E.set ⟨L, nx⟩ i) (((look F0 H).set a .dead).set ⟨L, nx⟩ (.rows e2 wd2 o2 p2 rs)) w) (E.set ⟨L, nx⟩ i) w (Zn (E.set ⟨L, nx⟩ i) (((look F0 H).set a .dead).set ⟨L, nx⟩ (.rows e2 wd2 o2 p2 rs)) w) := by
  refine ⟨?_, fun _ h => h, fun _ _ => rfl⟩;cases p;·exact Env.le.refl _
  ·intro k i hk; cases hk
 have hS2 := zS8 hS.rel hn1 (rs1 := [row1]) rfl (by
   intro r row' row1' h1 h2;cases r with
   | zero => simp at h1 h2; subst h1; subst h2; exact hl
   | succ r => simp at h1) (by
   intro r row' row1' c x y u h1 h2 h3 h4 h5;cases r with
   | succ r => simp at h1
   | zero =>
    simp at h1 h2; subst h1; subst h2;rcases hc c with h | ⟨r, l, hx, hy⟩
    ·rw [h4, h3] at h; injection h with h; subst h;exact VR.mono hEE _ _ h5
    ·rw [h3] at hx; injection hx with hx; subst hx;rw [h4] at hy; injection hy with hy; subst hy;have h6 := VR.mono hEE _ _ h5;simp only [VR] at h6 ⊢;rw [hle _ _ hi] at h6;rw [zSk];exact h6)
 have hT := hS.trans hS2;have hlk : look F0 (zAr H [(a, SBlk.dead), (⟨L, nx⟩, SBlk.rows e2 wd2 o2 p2 rs), (n, .rows e wd o false [row1])]) = (((look F0 H).set a .dead).set ⟨L, nx⟩ (.rows e2 wd2 o2 p2 rs)).set n (.rows e wd o false [row1]) := by rw [zAO]; rfl
 refine ⟨E.set ⟨L, nx⟩ i, by rw [hlk]; exact hR.step.trans hT, ⟨by simpa using hR.tmps.size, fun j v hv => ?_⟩, by rw [hlk]; exact hR.marks.mono hT.ext, fun m h1 h2 => ?_⟩
 ·obtain ⟨v', a1, a2⟩ := hR.tmps.val j v hv;exact ⟨v', a1, by rw [hlk]; exact VR.mono hT.ext _ _ a2⟩
 ·by_cases he : m = ⟨L, nx⟩;·subst he; exact ⟨rfl, by simp⟩
  ·rw [zSl E _ he] at h2;have := hR.news m h1 h2;exact ⟨this.1, by simp only at this ⊢; omega⟩
end Go.Tx
end
section
namespace Go.Proofs.YtifhjhbfhdcahaaGreat
open Go.Tx
set_option maxRecDepth 100000
theorem Wy.ev {k : Tk} {n : Nat} (h : Wy k n) {s : Bool} {g : Gx} {v o : List Pkx} (hv : ∀ p ∈ v, p ∈ k.w s) (hl : v.length ≤ (k.w s).length) (ho : o = [] ∨ ∃ x, o = [x] ∧ x.sm) : Wy (k.ev s g v o) (n + 1) := by
 obtain ⟨a, b, c, d⟩ := h;have ho2 : o.length ≤ 1 ∧ ∀ p ∈ o, p.sm := by
  rcases ho with rfl | ⟨x, rfl, hx⟩;·simp
  ·refine ⟨by simp, fun p hp => ?_⟩;simp at hp; subst hp; exact hx
 cases s
 ·refine ⟨by show v.length ≤ _; have : v.length ≤ k.w0.length := hl; omega, by show (k.w1 ++ o).length ≤ _; rw [zQ]; omega, fun p hp => c p (hv p hp), fun p hp => ?_⟩;rcases List.mem_append.1 hp with hp | hp;·exact d p hp
  ·exact ho2.2 p hp
 ·refine ⟨by show (k.w0 ++ o).length ≤ _; rw [zQ]; omega, by show v.length ≤ _; have : v.length ≤ k.w1.length := hl; omega, fun p hp => ?_, fun p hp => d p (hv p hp)⟩;rcases List.mem_append.1 hp with hp | hp;·exact c p hp
  ·exact ho2.2 p hp
theorem Wy.tm {k : Tk} {n : Nat} (h : Wy k n) (t : Int) : Wy (k.tm t) n := h
def Mv.row (m : Mv) : List PV := [.int .u8 m.what, .int .u8 m.which, .int .u8 m.later]
def Mv.Ok (m : Mv) : Prop := m.what < 256 ∧ m.which < 256 ∧ m.later < 256
theorem Wy.le {k : Tk} {n n2 : Nat} (h : Wy k n) (hn : n ≤ n2) : Wy k n2 := ⟨by have := h.1; omega, by have := h.2.1; omega, h.2.2⟩
end Go.Proofs.YtifhjhbfhdcahaaGreat
end
section
namespace Go.Proofs.YtifhjhbfhdcahaaGreat
open Go.ChangeShapes Go.WideShapes Go.ChangeAt Go.RowKit Go.Tx
set_option maxRecDepth 100000
theorem zHv {P : Program} {H : Type} {enc : TypeId × Value → H} {w : World} {base : Nat} {spare : TypeId → Bool} {held : Bool} {t0 t1 t2 t3 : TypeId} {args : Array Value} {ds : List (DataW H)} {ps : List MemPlace} (h : DataW.TrodAll enc P w base spare held [t0, t1, t2, t3] args.toList ds ps) :
  ∃ v0 v1 v2 v3 d0 d1 d2 d3 p0 p1 p2 p3, args = #[v0, v1, v2, v3] ∧ ds = [d0, d1, d2, d3] ∧ ps = p0 ++ p1 ++ p2 ++ p3 ∧ DataW.Trod enc P w base spare held t0 v0 d0 p0 ∧ DataW.Trod enc P w base spare held t1 v1 d1 p1 ∧ DataW.Trod enc P w base spare held t2 v2 d2 p2 ∧ DataW.Trod enc P w base spare held t3 v3 d3 p3 := by
 obtain ⟨v0, vs0, d0, ds0, p0, q0, hargs, rfl, rfl, hd0, h⟩ := trodAll_cons h;obtain ⟨v1, vs1, d1, ds1, p1, q1, rfl, rfl, rfl, hd1, h⟩ := trodAll_cons h;obtain ⟨v2, vs2, d2, ds2, p2, q2, rfl, rfl, rfl, hd2, h⟩ := trodAll_cons h;obtain ⟨v3, vs3, d3, ds3, p3, q3, rfl, rfl, rfl, hd3, h⟩ := trodAll_cons h;obtain ⟨rfl, rfl, rfl⟩ := trodAll_nil h;exact ⟨v0, v1, v2, v3, d0, d1, d2, d3, p0, p1, p2, p3, by cases args; simp_all, rfl, by simp, hd0, hd1, hd2, hd3⟩
theorem zMp : Tryz.prog.underlying 5 = some (.int .u8) := by kernel_rfl
end Go.Proofs.YtifhjhbfhdcahaaGreat
end
section
namespace Go.Proofs.YtifhjhbfhdcahaaGreat
open Go.Tx
set_option maxRecDepth 100000
def zRa (C : Bool → Gx) (s : Bool) (t : Int) : List UInt8 := Ini.oct { (C !s).own with ck := ckS (C !s) (C s).own.oct t }
inductive PkM (C : Bool → Gx) (s : Bool) (now st : Int) : Pkx → Prop
 | init : PkM C s now st (pTo C s 0 ⟨1, 0, (C !s).own.oct⟩)
 | initA (t : Int) (h : 0 ≤ t ∧ t ≤ now) : PkM C s now st (pTo C s (C s).own.tag ⟨2, 0, zRa C s t⟩)
 | echo (t : Int) (h : 0 ≤ t ∧ t ≤ now) (h2 : 3 ≤ st) : PkM C s now st (pTo C s (C s).own.tag ⟨10, 0, ckS (C s) (C !s).own.oct t⟩)
 | ack (h2 : 4 ≤ st) : PkM C s now st (pTo C s (C s).own.tag ⟨11, 0, []⟩)
theorem PkM.mono {C : Bool → Gx} {s : Bool} {now st : Int} {p : Pkx} (h : PkM C s now st p) {now2 st2 : Int} (hn : now ≤ now2) (hs : st ≤ st2) : PkM C s now2 st2 p := by
 cases h with
 | init => exact .init
 | initA t h => exact .initA t (by omega)
 | echo t h h2 => exact .echo t (by omega) (by omega)
 | ack h2 => exact .ack (by omega)
theorem zHw {C : Bool → Gx} (hC : Fit C) (s : Bool) (t : Int) : ({ (C !s).own with ck := ckS (C !s) (C s).own.oct t } : Ini).ok = true ∧ (ckS (C !s) (C s).own.oct t).length = 62 := by
 have hl : (ckS (C !s) (C s).own.oct t).length = 62 := by
  have := zGX (C s).own;rw [(zCL (hC.own s)).2] at this;rw [zHo, this]; rfl
 exact ⟨zJV (zCL (hC.own !s)).1 (by omega), hl⟩
theorem PkM.ok {C : Bool → Gx} (hC : Fit C) {s : Bool} {now st : Int} {p : Pkx} (h : PkM C s now st p) : p.ok = true := by
 have ht := hC.tag s;cases h with
 | init =>
  refine zHB hC s (by omega) (by simp) rfl ?_;have := zGX (C !s).own;rw [(zCL (hC.own !s)).2] at this;simp only [this]; simp
 | initA t h =>
  refine zHB hC s (by omega) (by simp) rfl ?_;have h2 := (zHw hC s t).2;simp only [zRa, zGX, h2]; omega
 | echo t h h2 =>
  refine zHB hC s (by omega) (by simp) rfl ?_;have := (zHw hC (!s) t).2;rw [Bool.not_not] at this;simp only [this]; omega
 | ack h2 => exact zHB hC s (by omega) (by simp) rfl (by simp)
structure MI (C : Bool → Gx) (s : Bool) (now st : Int) (g : Gx) : Prop where
 rng : 1 ≤ g.st ∧ g.st ≤ 4
 peer : 3 ≤ g.st → g.peer = (C !s).own
 ck : g.st = 3 → ∃ t, (0 ≤ t ∧ t ≤ now) ∧ g.ck = ckS (C !s) (C s).own.oct t
 o : g.st = 4 → 3 ≤ st
theorem MI.mono {C : Bool → Gx} {s : Bool} {now st : Int} {g : Gx} (h : MI C s now st g) {now2 st2 : Int} (hn : now ≤ now2) (hs : st ≤ st2) : MI C s now2 st2 g :=
 ⟨h.rng, h.peer, fun h3 => by obtain ⟨t, ht, e⟩ := h.ck h3; exact ⟨t, by omega, e⟩, fun h4 => by have := h.o h4; omega⟩
theorem MI.ta {C : Bool → Gx} {s : Bool} {now st : Int} {g : Gx} (h : MI C s now st g) (t : Int) : MI C s now st { g with ta := t } := ⟨h.rng, h.peer, h.ck, h.o⟩
theorem Ends.mono {Q R : Tk → Prop} {n : Nat} {k : Tk} (h : Ends Q n k) (hq : ∀ k, Q k → R k) : Ends R n k := by
 obtain ⟨k2, h1, h2⟩ := h;exact ⟨k2, h1, hq _ h2⟩
inductive PkP (C : Bool → Gx) (s : Bool) (now st : Int) : Pkx → Prop
 | shut (h : 5 ≤ st) : PkP C s now st (pTo C s (C s).own.tag ⟨7, 0, []⟩)
 | ack (h : 6 ≤ st) : PkP C s now st (pTo C s (C s).own.tag ⟨8, 0, []⟩)
 | done (h : 7 ≤ st) : PkP C s now st (pTo C s (C s).own.tag ⟨14, 0, []⟩)
theorem PkP.mono {C : Bool → Gx} {s : Bool} {now st : Int} {p : Pkx} (h : PkP C s now st p) {now2 st2 : Int} (hs : st ≤ st2) : PkP C s now2 st2 p := by
 cases h with
 | shut h => exact .shut (by omega)
 | ack h => exact .ack (by omega)
 | done h => exact .done (by omega)
theorem PkP.ok {C : Bool → Gx} (hC : Fit C) {s : Bool} {now st : Int} {p : Pkx} (h : PkP C s now st p) : p.ok = true := by
 have ht := hC.tag s;cases h <;> exact zHB hC s (by omega) (by simp) rfl (by simp)
def CC (n : Nat) (s : Bool) : Gx := match s with | false => zAe false n | true => zAe true (n / 2)
theorem zHx {n : Nat} (hn : n < 65536) : Fit (CC n) :=
 ⟨fun s => by cases s; exact zHs false hn; exact zHs true (by omega), fun s => by cases s <;> rfl⟩
theorem zPc {n : Nat} (hn : n < 65536) (s : Bool) : (CC n s).ok = true := by cases s; exact zHt false hn; exact zHt true (by omega)
theorem zMq (s : Bool) {n : Nat} (hn : n < 65536) : zAh (zAe s n) 0 1 pk0 = (zQr (zAe s n) 0 0 0, [zPm (zAe s n)], 0) := zSj (zHt s hn) (by cases s <;> rfl) (by cases s <;> rfl) (by cases s <;> rfl)
def kpB (n : Nat) (t : Int) : Gx := { zAe true (n / 2) with ta := t }
def kpA (n : Nat) : Ini := (zAe false n).own
def kpC (n : Nat) (t : Int) : List UInt8 := ckS (zAe true (n / 2)) (kpA n).oct t
def kpP (n : Nat) (t : Int) : Pkx := pTo (CC n) false (kpA n).tag ⟨2, 0, Ini.oct { (zAe true (n / 2)).own with ck := kpC n t }⟩
theorem zOV {t : Int} (h : 0 ≤ t ∧ t ≤ 10000) : zGS t = true := (zBm t).2 (by omega)
theorem zHD {n : Nat} (hn : n < 65536) {t : Int} (h : 0 ≤ t ∧ t ≤ 10000) : (kpB n t).ok = true := by
 have := zPc hn true;rw [zFc] at this ⊢;refine ⟨?_, this.2.1, this.2.2⟩;have h3 := this.1;rw [zIZ] at h3 ⊢;exact ⟨h3.1, h3.2.1, h3.2.2.1, h3.2.2.2.1, h3.2.2.2.2.1, h3.2.2.2.2.2.1, zOV h⟩
theorem zCe (n : Nat) (t : Int) : Cor (CC n true) (kpB n t) := ⟨rfl, rfl, rfl, rfl⟩
theorem zEM {n : Nat} (hn : n < 65536) (t : Int) : (kpC n t).length = 62 := (zHw (zHx hn) false t).2
theorem zPd {n : Nat} (hn : n < 65536) {t u : Int} (ht : 0 ≤ t ∧ t ≤ u) (hu : u ≤ 10000) : zAh (kpB n t) u 5 (zPm (zAe false n)) = (kpB n u, [kpP n u], 0) := by
 have hC := zHx hn;have hp : (pTo (CC n) true 0 ⟨1, 0, (kpA n).oct⟩).ok = true := (PkM.init (C := CC n) (s := true) (now := 0) (st := 0)).ok hC;have h := zFB hC (zCe n t) (zHD hn (by omega)) (now := u) (by omega) ht.2 hp;have hk := zIe (g := { kpB n t with ta := u }) (now := u) (hC.own false) (by show (1 : Int) ≤ 3; omega);have hs := zN6 (C := CC n) (s := true) (zHC (zCe n t) u) (kpA n).tag ⟨2, 0, Ini.oct { ({ kpB n t with ta := u } : Gx).own with ck := ckS { kpB n t with ta := u } (kpA n).oct u }⟩;have e : zAm { kpB n t with ta := u } u 0 ⟨1, 0, (kpA n).oct⟩ = (kpB n u, [kpP n u]) := by
  refine hk.trans ?_;refine congrArg (Prod.mk (kpB n u)) (hs.trans ?_);rw [zKG (zHC (zCe n t) u)];rfl
 rw [e] at h;exact h
def kpK (n : Nat) (tag : Int) (b : List UInt8) : Pkx := pTo (CC n) true tag ⟨10, 0, b⟩
theorem zKH {n : Nat} (hn : n < 65536) {tag : Int} (ht : 0 ≤ tag ∧ tag < 4294967296) {b : List UInt8} (hb : b.length = 62) : (kpK n tag b).ok = true :=
 zHB (zHx hn) true ht (by simp) rfl (by simp [hb])
theorem zKI {n : Nat} (hn : n < 65536) : (zAe true (n / 2)).own.tag = 70000 + ((n / 2 : Nat) : Int) := rfl
theorem zOA {n : Nat} (hn : n < 65536) {t : Int} (ht : 0 ≤ t ∧ t ≤ 10000) : zAh (kpB n t) t 5 (kpK n ((zAe true (n / 2)).own.tag + 1) (kpC n t)) = (kpB n t, [], 0) := by
 have hC := zHx hn;have e1 := zKI hn;have hp := zKH hn (tag := (zAe true (n / 2)).own.tag + 1) (by omega) (zEM hn t);have h := zFB hC (zCe n t) (zHD hn ht) (now := t) (by omega) (wK _) hp;have e : zAm { kpB n t with ta := t } t ((zAe true (n / 2)).own.tag + 1) ⟨10, 0, kpC n t⟩ = (kpB n t, []) := by
  unfold zAm;rw [if_neg (by simp), if_pos (by show (zAe true (n / 2)).own.tag + 1 ≠ (zAe true (n / 2)).own.tag; omega)];rfl
 rw [e] at h;exact h
theorem zPe {n : Nat} (hn : n < 65536) {t : Int} (ht : 0 ≤ t ∧ t ≤ 10000) : ∃ h x, zAh (kpB n t) t 5 (kpK n (zAe true (n / 2)).own.tag (kpC n t)) = (h, [x], 0) ∧ h.st = 4 ∧ h.peer = kpA n := by
 have hC := zHx hn;have e1 := zKI hn;have hp := zKH hn (tag := (zAe true (n / 2)).own.tag) (by omega) (zEM hn t);have h := zFB hC (zCe n t) (zHD hn ht) (now := t) (by omega) (wK _) hp;have he := zHr (kpB n t) (hC.own false) (t := t) (by omega) t;rw [if_neg (by omega), if_pos (by show (1 : Int) ≤ 3; omega)] at he;have e : zAm { kpB n t with ta := t } t (zAe true (n / 2)).own.tag ⟨10, 0, kpC n t⟩ = zDR (kpB n t) t (ckS (kpB n t) (kpA n).oct t) := by
  rw [zKG (zCe n t)];exact zGa
 rw [e] at h;rw [show zDR (kpB n t) t (ckS (kpB n t) (kpA n).oct t) = _ from he] at h;exact ⟨_, _, h, rfl, rfl⟩
theorem zQh {n : Nat} (hn : n < 65536) {t : Int} (ht : 0 ≤ t ∧ t ≤ 10000) {j : Nat} (hj : 30 ≤ j ∧ j < 62) {c : UInt8} (hc : (kpC n t)[j]? ≠ some c) : zAh (kpB n t) t 5 (kpK n (zAe true (n / 2)).own.tag ((kpC n t).set j c)) = (kpB n t, [], 0) := by
 have hC := zHx hn;have e1 := zKI hn;have hl := zEM hn t;have hp := zKH hn (tag := (zAe true (n / 2)).own.tag) (by omega) (b := (kpC n t).set j c) (by simp [hl]);have h := zFB hC (zCe n t) (zHD hn ht) (now := t) (by omega) (wK _) hp;have e : zAm { kpB n t with ta := t } t (zAe true (n / 2)).own.tag ⟨10, 0, (kpC n t).set j c⟩ = zDR (kpB n t) t ((kpC n t).set j c) := zGa;obtain ⟨q1, q2, q3⟩ := zHq (zAe true (n / 2)) (hC.own false) (t := t) (by omega);have t6 : ((kpC n t).set j c).take 6 = (kpC n t).take 6 := by rw [List.take_set_of_le (by omega)]
 have d16 : (((kpC n t).set j c).drop 6).take 16 = ((kpC n t).drop 6).take 16 := by
  rw [List.drop_set, if_neg (by omega), List.take_set_of_le (by omega)]
 have hne : ckS (kpB n t) (kpA n).oct t ≠ (kpC n t).set j c := by
  rw [zKG (zCe n t)];intro hx;have hx2 : kpC n t = (kpC n t).set j c := hx;refine hc ?_;rw [hx2, List.getElem?_set_self (by simp [hl]; omega)]
 have e2 : zDR (kpB n t) t ((kpC n t).set j c) = (kpB n t, []) := by
  unfold zDR;simp only [t6, d16];rw [show ((kpC n t).drop 6).take 16 = (kpA n).oct from q3, show (zBy ((kpC n t).take 6) : Int) = t from q2];rw [if_neg (fun hh => hne hh.2.2.2)]
 rw [e, e2] at h;exact h
theorem zQi {n : Nat} (hn : n < 65536) {t : Int} (ht : 0 ≤ t ∧ t ≤ 10000) {b : List UInt8} (hb : b.length = 62) : ∃ h o, zAh (kpB n t) t 5 (kpK n (zAe true (n / 2)).own.tag b) = (h, o, 0) := by
 have e1 := zKI hn;have hp := zKH hn (tag := (zAe true (n / 2)).own.tag) (by omega) hb;exact ⟨_, _, zFB (zHx hn) (zCe n t) (zHD hn ht) (now := t) (by omega) (wK _) hp⟩
theorem zPf {n : Nat} (hn : n < 65536) (t : Int) : zCD ⟨2, 0, Ini.oct { (zAe true (n / 2)).own with ck := kpC n t }⟩ = true ∧ zBq ⟨2, 0, Ini.oct { (zAe true (n / 2)).own with ck := kpC n t }⟩ = { (zAe true (n / 2)).own with ck := kpC n t } := by
 obtain ⟨e1, e2⟩ := zHw (zHx hn) false t;exact zIc e1 (by intro h; rw [show ckS (CC n !false) (CC n false).own.oct t = [] from h] at e2; simp at e2)
end Go.Proofs.YtifhjhbfhdcahaaGreat
end
section
namespace Go.Tx
theorem zTf {P : Program} {f : FuncId} {args : List PV} {F : SF} {L nx top : Nat} {v : PV} {upd : List (Nm × SBlk)} {rd : List Nm} {n : Nm} {e e2 : TypeId} {wd wd2 : Nat} {o p : Bool} {row row1 : List PV} (hwd : 0 < wd2) (hn : F n = some (.rows e wd o p [row])) (hnr : n ∈ rd) (hne : n ≠ ⟨L, nx⟩) (hl : row1.length = row.length)
  (hc : ∀ c : Nat, row1[c]? = row[c]? ∨ (row[c]? = some PV.nilS ∧ row1[c]? = some (PV.sl ⟨L, nx⟩ 0 0)))
  (h : Con P f args ((F.set ⟨L, nx⟩ (.rows e2 wd2 true true [])).set n (.rows e wd o false [row1])) L (nx + 1) top v upd (⟨L, nx⟩ :: rd)) :
  Con P f args F L nx top v ((⟨L, nx⟩, .rows e2 wd2 true true []) :: (n, .rows e wd o false [row1]) :: upd) rd := by
 refine ⟨by have := h.1; omega, fun F2 hF E w args' hR hf1 hf2 hv => ?_⟩;have htop := h.1;have hf := hf1 nx (zD _) (by omega);have hS := zSy hR hf e2 hwd true none;have hn2 : F2 n = some (.rows e wd o p [row]) := (hF n hnr).trans hn;have hn1 : (F2.set ⟨L, nx⟩ (.rows e2 wd2 true true [])) n = some (.rows e wd o p [row]) := by simp only [SF.set, if_neg hne]; exact hn2
 have hEE : Ext (EE (E.set ⟨L, nx⟩ ⟨0, 0, wd2, 0, true, none⟩) p) w (Zn (E.set ⟨L, nx⟩ ⟨0, 0, wd2, 0, true, none⟩) (F2.set ⟨L, nx⟩ (.rows e2 wd2 true true [])) w) (E.set ⟨L, nx⟩ ⟨0, 0, wd2, 0, true, none⟩) w (Zn (E.set ⟨L, nx⟩ ⟨0, 0, wd2, 0, true, none⟩) (F2.set ⟨L, nx⟩ (.rows e2 wd2 true true [])) w) := by
  refine ⟨?_, fun _ h => h, fun _ _ => rfl⟩;cases p;·exact Env.le.refl _
  ·intro k i hk; cases hk
 have hS2 := zS8 hS.rel hn1 (rs1 := [row1]) rfl (by
   intro r row' row1' h1 h2;cases r with
   | zero => simp at h1 h2; subst h1; subst h2; exact hl
   | succ r => simp at h1) (by
   intro r row' row1' c x y u h1 h2 h3 h4 h5;cases r with
   | succ r => simp at h1
   | zero =>
    simp at h1 h2; subst h1; subst h2;rcases hc c with h | ⟨ha, hb⟩
    ·rw [h4, h3] at h; injection h with h; subst h;exact VR.mono hEE _ _ h5
    ·rw [h3] at ha; injection ha with ha; subst ha;rw [h4] at hb; injection hb with hb; subst hb;simp only [VR] at h5 ⊢;subst h5;exact ⟨_, zSk _ _ _, .inl ⟨rfl, trivial, rfl⟩⟩)
 have hT := hS.trans hS2;have hv2 := VRl.mono hT.ext _ _ hv;have key := h.2 ((F2.set ⟨L, nx⟩ (.rows e2 wd2 true true [])).set n (.rows e wd o false [row1])) (by
   intro m hm;simp only [SF.set];by_cases h1 : m = n;·rw [if_pos h1, if_pos h1]
   rw [if_neg h1, if_neg h1];by_cases h2 : m = ⟨L, nx⟩;·rw [if_pos h2, if_pos h2]
   rw [if_neg h2, if_neg h2];rcases List.mem_cons.1 hm with h3 | h3;·exact absurd h3 h2
   ·exact hF m h3) _ w args' hT.rel (by
   intro k h1 h2;rw [zSl E _ (by intro h; injection h with _ h; omega)];exact hf1 k (by omega) h2) (by
   intro m hm;rw [zSl E _ (by intro h; rw [h] at hm; exact absurd hm (Nat.lt_irrefl _))];exact hf2 m hm) hv2
 have conv : ∀ v' w', zBN (E.set ⟨L, nx⟩ ⟨0, 0, wd2, 0, true, none⟩) ((F2.set ⟨L, nx⟩ (.rows e2 wd2 true true [])).set n (.rows e wd o false [row1])) w L (nx + 1) top v upd v' w' → zBN E F2 w L nx top v ((⟨L, nx⟩, .rows e2 wd2 true true []) :: (n, .rows e wd o false [row1]) :: upd) v' w' := by
  rintro v' w' ⟨E2, a1, a2, a3⟩
  refine ⟨E2, a1, hT.trans a2, fun m h1 h2 => ?_⟩;by_cases h3 : m = ⟨L, nx⟩
  ·subst h3;exact ⟨rfl, zD _, by show nx < top; omega⟩
  ·have := a3 m (by rw [zSl E _ h3]; exact h1) h2;exact ⟨this.1, by omega, this.2.2⟩
 unfold zEA Sx.zEA at key ⊢;split at key;·exact conv _ _ key
 ·exact conv _ _ key
 ·intro cs;obtain ⟨e, w', fr, ⟨v', he, hK⟩, hrest⟩ := key cs;exact ⟨e, w', fr, ⟨v', he, conv _ _ hK⟩, hrest⟩
 ·exact key
end Go.Tx
end
