/- Lemmas for the walk: GD47, GD48, U49, GK120. -/
import Derived.Test.YtifhjhbfhdcahaaGreatP20
set_option linter.all false
section
namespace Go.Proofs.YtifhjhbfhdcahaaGreat
open Go.Tx
set_option maxRecDepth 100000
inductive PkP (C : Bool → Gx) (s : Bool) (now st : Int) : Pkx → Prop
 | shut (h : 5 ≤ st) : PkP C s now st (pTo C s (C s).own.tag ⟨7, 0, []⟩)
 | ack (h : 6 ≤ st) : PkP C s now st (pTo C s (C s).own.tag ⟨8, 0, []⟩)
 | done (h : 7 ≤ st) : PkP C s now st (pTo C s (C s).own.tag ⟨14, 0, []⟩)
structure PI (C : Bool → Gx) (s : Bool) (now st : Int) (g : Gx) : Prop where
 rng : 4 ≤ g.st ∧ g.st ≤ 7
 peer : g.peer = (C !s).own
 o6 : 6 ≤ g.st → 5 ≤ st
 o7 : g.st = 7 → 6 ≤ st
def Pkx.wt2 (p : Pkx) : Nat := if p.hdC.kd = 7 then 3 else if p.hdC.kd = 8 then 2 else 1
theorem zEV (C : Bool → Gx) (s : Bool) (tag : Int) (c : Ckx) : (pTo C s tag c).wt2 = if c.kd = 7 then 3 else if c.kd = 8 then 2 else 1 := rfl
theorem zCB {C : Bool → Gx} {s : Bool} {g : Gx} (hc : Cor (C s) g) (hp : g.peer = (C !s).own) (k : Int) : zAr g k = [pTo C (!s) (C !s).own.tag ⟨k, 0, []⟩] := by
 unfold zAr;rw [hp, zBU hc]
theorem zKX {g : Gx} {now : Int} (h : g.st = 4 ∨ g.st = 5) : zAS g now g.own.tag ⟨7, 0, []⟩ = (zAJ g 6 now, zAr g 8) := by
 unfold zAS;rw [if_neg (by simp), if_neg (by simp), if_neg (by simp), if_neg (by simp), if_neg (by simp), if_pos rfl];unfold zGd;rw [if_pos h];rfl
theorem zM9 {g : Gx} {now : Int} (h : g.st = 6) : zAS g now g.own.tag ⟨7, 0, []⟩ = (g, zAr g 8) := by
 unfold zAS;rw [if_neg (by simp), if_neg (by simp), if_neg (by simp), if_neg (by simp), if_neg (by simp), if_pos rfl];unfold zGd zAl;rw [if_neg (by omega), if_pos h, if_neg (by omega), if_neg (by omega), if_neg (by omega), if_pos h]
theorem zQD {g : Gx} {now : Int} (h : g.st = 7) : zAS g now g.own.tag ⟨7, 0, []⟩ = (g, []) := by
 unfold zAS;rw [if_neg (by simp), if_neg (by simp), if_neg (by simp), if_neg (by simp), if_neg (by simp), if_pos rfl];unfold zGd;rw [if_neg (by omega), if_neg (by omega)]
theorem zRN {g : Gx} {now : Int} (h : g.st = 5 ∨ g.st = 6 ∨ (g.st = 7 ∧ g.peer ≠ zIni)) : zAS g now g.own.tag ⟨8, 0, []⟩ = (zAW g 7, zAr g 14) := by
 unfold zAS;rw [if_neg (by simp), if_neg (by simp), if_neg (by simp), if_neg (by simp), if_neg (by simp), if_neg (by simp), if_pos rfl];unfold zEH;rw [if_pos h]
theorem zRO {g : Gx} {now : Int} (h : g.st = 4) : zAS g now g.own.tag ⟨8, 0, []⟩ = (g, []) := by
 unfold zAS;rw [if_neg (by simp), if_neg (by simp), if_neg (by simp), if_neg (by simp), if_neg (by simp), if_neg (by simp), if_pos rfl];unfold zEH;rw [if_neg (by omega)]
theorem zO2 {g : Gx} {now : Int} : zAS g now g.own.tag ⟨14, 0, []⟩ = if g.st = 6 then (zAW g 7, []) else (g, []) := by
 unfold zAS;rw [if_neg (by simp), if_neg (by simp), if_neg (by simp), if_neg (by simp), if_neg (by simp), if_neg (by simp), if_neg (by simp), if_pos rfl]
theorem own_ne {C : Bool → Gx} (hC : Fit C) (s : Bool) : (C s).own ≠ zIni := by
 intro h;have := hC.tag s;rw [h] at this;exact absurd this.1 (by decide)
theorem zNA {C : Bool → Gx} (hC : Fit C) {s : Bool} {now st : Int} {g : Gx} (hc : Cor (C s) g) (h : PI C s now st g) {p : Pkx} (hp : PkP C s now st p) :
  ∃ tag c, p = pTo C s tag c ∧ PI C s now st (zAS g now tag c).1 ∧ g.st ≤ (zAS g now tag c).1.st ∧ (∀ x ∈ (zAS g now tag c).2, PkP C (!s) now (zAS g now tag c).1.st x) ∧ wts Pkx.wt2 (zAS g now tag c).2 < p.wt2 := by
 have hr := h.rng;cases hp with
 | shut h5 =>
  refine ⟨_, _, rfl, ?_⟩;rw [← hc.own];by_cases e : g.st = 4 ∨ g.st = 5
  ·rw [zKX e, zCB hc h.peer, hc.own];refine ⟨⟨by simp [zAJ], h.peer, fun _ => h5, by simp [zAJ]⟩, by simp [zAJ]; omega, ?_, by simp [wts, zEV]⟩;intro x hx;simp only [zS, wH, or_false] at hx;subst hx;exact .ack (by simp [zAJ])
  ·by_cases e6 : g.st = 6
   ·rw [zM9 e6, zCB hc h.peer, hc.own];refine ⟨h, by simp, ?_, by simp [wts, zEV]⟩;intro x hx;simp only [zS, wH, or_false] at hx;subst hx;exact .ack (by show 6 ≤ g.st; omega)
   ·rw [zQD (by omega), hc.own];exact ⟨h, by simp, by simp, by simp [wts, zEV]⟩
 | ack h6 =>
  refine ⟨_, _, rfl, ?_⟩;rw [← hc.own];by_cases e : g.st = 4
  ·rw [zRO e, hc.own];exact ⟨h, by simp, by simp, by simp [wts, zEV]⟩
  ·have hne : g.peer ≠ zIni := by rw [h.peer]; exact own_ne hC _
   have e3 : g.st = 5 ∨ g.st = 6 ∨ (g.st = 7 ∧ g.peer ≠ zIni) := by
    by_cases h5 : g.st = 5;·exact .inl h5
    by_cases h6 : g.st = 6;·exact .inr (.inl h6)
    ·exact .inr (.inr ⟨by omega, hne⟩)
   rw [zRN e3, zCB hc h.peer, hc.own];refine ⟨⟨by simp [zAW], h.peer, fun _ => by omega, fun _ => h6⟩, by simp [zAW]; omega, ?_, by simp [wts, zEV]⟩;intro x hx;simp only [zS, wH, or_false] at hx;subst hx;exact .done (by simp [zAW])
 | done h7 =>
  refine ⟨_, _, rfl, ?_⟩;rw [← hc.own, zO2];by_cases e : g.st = 6
  ·rw [if_pos e, hc.own];exact ⟨⟨by simp [zAW], h.peer, fun _ => by omega, fun _ => by omega⟩, by simp [zAW]; omega, by simp, by simp [wts, zEV]⟩
  ·rw [if_neg e, hc.own];exact ⟨h, by simp, by simp, by simp [wts, zEV]⟩
theorem zLD {C : Bool → Gx} {s : Bool} {now st : Int} {g : Gx} (hc : Cor (C s) g) (h : PI C s now st g) : ∀ x ∈ zAl g, PkP C (!s) now g.st x := by
 have hr := h.rng;intro x hx;unfold zAl at hx;rw [if_neg (by omega), if_neg (by omega)] at hx;split at hx
 ·rw [zCB hc h.peer] at hx;simp only [zS, wH, or_false] at hx;subst hx;exact .shut (by omega)
 split at hx
 ·rw [zCB hc h.peer] at hx;simp only [zS, wH, or_false] at hx;subst hx;exact .ack (by omega)
 ·cases hx
theorem PkP.mono {C : Bool → Gx} {s : Bool} {now st : Int} {p : Pkx} (h : PkP C s now st p) {now2 st2 : Int} (hs : st ≤ st2) : PkP C s now2 st2 p := by
 cases h with
 | shut h => exact .shut (by omega)
 | ack h => exact .ack (by omega)
 | done h => exact .done (by omega)
theorem PkP.ok {C : Bool → Gx} (hC : Fit C) {s : Bool} {now st : Int} {p : Pkx} (h : PkP C s now st p) : p.ok = true := by
 have ht := hC.tag s;cases h <;> exact zIt hC s (by omega) (by simp) rfl (by simp)
theorem zD1 {C : Bool → Gx} (hC : Fit C) : Prot C (PI C) (PkP C) Pkx.wt2 where
 fit := hC
 mM h _ hs := ⟨h.rng, h.peer, fun a => by have := h.o6 a; omega, fun a => by have := h.o7 a; omega⟩
 mP h _ hs := h.mono hs
 ok h := h.ok hC
 ta t h := ⟨h.rng, h.peer, h.o6, h.o7⟩
 tick d n h := ⟨h.rng, h.peer, h.o6, h.o7⟩
 wt4 p := by unfold Pkx.wt2; split <;> (try split) <;> omega
 kind _ hc _ h hp := zNA hC hc h hp
 again hc h := zLD hc h
def Gone (C : Bool → Gx) (k : Tk) : Prop := ∀ u, (k.g u).st = 7 ∧ (k.g u).peer = (C !u).own ∧ (k.g u).own = (C u).own
abbrev KP (C : Bool → Gx) (k : Tk) (w : Nat) : Prop := KI C (PI C) (PkP C) k w
theorem zO3 {C : Bool → Gx} {k : Tk} {w : Nat} (h : KP C k w) {s : Bool} (h1 : k.w s = []) (h2 : k.w (!s) = []) (e1 : (k.g s).st = 7) (e2 : (k.g !s).st = 7) : Ends (Gone C) 1 k := by
 obtain ⟨z0, z1⟩ := zOZ h1 h2;have hall : ∀ u, (k.g u).st = 7 := zQB (Q := fun g => g.st = 7) (s := s) e1 e2;have d0 : k.g0.due = -1 := zEt (h.si false).ok (.inr (hall false));have d1 : k.g1.due = -1 := zEt (h.si true).ok (.inr (hall true));exact Ends.end ⟨z0, z1, by omega, by omega⟩ fun u => ⟨hall u, (h.m u).peer, (h.si u).cor.own⟩
theorem zRP {C : Bool → Gx} (hC : Fit C) {k : Tk} {w : Nat} (h : KP C k w) (hn : 0 ≤ k.now ∧ k.now ≤ 60000) {s : Bool} (e1 : (k.g s).st = 6 ∨ (k.g s).st = 7) (e2 : (k.g !s).st = 7) (h1 : k.w s = [pTo C s (C s).own.tag ⟨14, 0, []⟩]) (h2 : k.w (!s) = []) : Ends (Gone C) 2 k := by
 have hP := zD1 hC;have hc := (h.si s).cor;have e := zO2 (g := { k.g s with ta := k.now }) (now := k.now);rw [show ({ k.g s with ta := k.now } : Gx).own = (C s).own from hc.own] at e;obtain ⟨x, ex, x7⟩ : ∃ x, zAS { k.g s with ta := k.now } k.now (C s).own.tag ⟨14, 0, []⟩ = (x, []) ∧ x.st = 7 := by
  rw [e];by_cases h6 : (k.g s).st = 6
  ·rw [if_pos (show ({ k.g s with ta := k.now } : Gx).st = 6 from h6)];exact ⟨_, rfl, rfl⟩
  ·rw [if_neg (show ¬ ({ k.g s with ta := k.now } : Gx).st = 6 from h6)];exact ⟨_, rfl, by show (k.g s).st = 7; omega⟩
 obtain ⟨r1, r2⟩ := h.recvK hP hn s (by rw [h1]; exact vI ..) (v := []) (by simp) ex;refine Ends.step (zO3 r2 (s := s) (zTp ..) (by rw [zTn, h2]; rfl) (by rw [zTh]; exact x7) (by rw [zTi]; exact e2)) (fun f => zGn h1 h2 r1 f)
theorem zNB {C : Bool → Gx} (hC : Fit C) {k : Tk} {w : Nat} (h : KP C k w) (hn : 0 ≤ k.now ∧ k.now ≤ 60000) {s : Bool} (e1 : 5 ≤ (k.g s).st) (e2 : (k.g !s).st = 6 ∨ (k.g !s).st = 7) (h1 : k.w s = [pTo C s (C s).own.tag ⟨8, 0, []⟩]) (h2 : k.w (!s) = []) : Ends (Gone C) 3 k := by
 have hP := zD1 hC;have hc := (h.si s).cor;have hr := (h.m s).rng;have hne : (k.g s).peer ≠ zIni := by rw [(h.m s).peer]; exact own_ne hC _
 have e := zRN (g := { k.g s with ta := k.now }) (now := k.now) (by show (k.g s).st = 5 ∨ (k.g s).st = 6 ∨ ((k.g s).st = 7 ∧ (k.g s).peer ≠ zIni); by_cases h5 : (k.g s).st = 5; exact .inl h5; by_cases h6 : (k.g s).st = 6; exact .inr (.inl h6); exact .inr (.inr ⟨by omega, hne⟩));rw [show ({ k.g s with ta := k.now } : Gx).own = (C s).own from hc.own, zCB (zC3 hc k.now) (h.m s).peer] at e;obtain ⟨r1, r2⟩ := h.recvK hP hn s (by rw [h1]; exact vI ..) (v := []) (by simp) e;refine Ends.step (zRP hC r2 (by rw [zTU]; exact hn) (s := !s) (by rw [zTi]; exact e2) (by rw [wY, zTh]; rfl) (by rw [zTn, h2]; rfl) (by rw [wY]; exact zTp ..)) (fun f => zGn h1 h2 r1 f)
theorem zO4 {C : Bool → Gx} (hC : Fit C) {k : Tk} {w : Nat} (h : KP C k w) (hn : 0 ≤ k.now ∧ k.now ≤ 60000) {s : Bool} (e1 : (k.g s).st ≤ 6) (e2 : 5 ≤ (k.g !s).st) (h1 : k.w s = [pTo C s (C s).own.tag ⟨7, 0, []⟩]) (h2 : k.w (!s) = []) : Ends (Gone C) 4 k := by
 have hP := zD1 hC;have hc := (h.si s).cor;have hr := (h.m s).rng;obtain ⟨x, ex, x6⟩ : ∃ x, zAS { k.g s with ta := k.now } k.now (C s).own.tag ⟨7, 0, []⟩ = (x, [pTo C (!s) (C !s).own.tag ⟨8, 0, []⟩]) ∧ x.st = 6 := by
  rw [← zCB (zC3 hc k.now) (h.m s).peer];by_cases h6 : (k.g s).st = 6
  ·have e := zM9 (g := { k.g s with ta := k.now }) (now := k.now) h6;rw [show ({ k.g s with ta := k.now } : Gx).own = (C s).own from hc.own] at e;exact ⟨_, e, h6⟩
  ·have e := zKX (g := { k.g s with ta := k.now }) (now := k.now) (by show (k.g s).st = 4 ∨ (k.g s).st = 5; omega);rw [show ({ k.g s with ta := k.now } : Gx).own = (C s).own from hc.own] at e;exact ⟨_, e, rfl⟩
 obtain ⟨r1, r2⟩ := h.recvK hP hn s (by rw [h1]; exact vI ..) (v := []) (by simp) ex;refine Ends.step (zNB hC r2 (by rw [zTU]; exact hn) (s := !s) (by rw [zTi]; exact e2) (by rw [wY, zTh]; exact .inl x6) (by rw [zTn, h2]; rfl) (by rw [wY]; exact zTp ..)) (fun f => zGn h1 h2 r1 f)
theorem zOd {C : Bool → Gx} (hC : Fit C) {k : Tk} {w : Nat} (h : KP C k w) (hw : w ≤ 5) (hn : 0 ≤ k.now ∧ k.now ≤ 50000) (z0 : k.w0 = []) (z1 : k.w1 = []) (h5 : 5 ≤ k.g1.st) : Ends (Gone C) 5 k := by
 have hP := zD1 hC;have s0 := (h.si false).ok;have s1 := (h.si true).ok;have r0 : 4 ≤ k.g0.st ∧ k.g0.st ≤ 7 := (h.m false).rng;have r1 : 4 ≤ k.g1.st ∧ k.g1.st ≤ 7 := (h.m true).rng;have a0 : 6 ≤ k.g0.st → 5 ≤ k.g1.st := (h.m false).o6;have a1 : 6 ≤ k.g1.st → 5 ≤ k.g0.st := (h.m true).o6;have b0 : k.g0.st = 7 → 6 ≤ k.g1.st := (h.m false).o7;have b1 : k.g1.st = 7 → 6 ≤ k.g0.st := (h.m true).o7;have ag : ∀ s, (k.g s).st = 5 → ∀ t2, zAl { k.g s with ta := t2 } = [pTo C (!s) (C !s).own.tag ⟨7, 0, []⟩] := by
  intro s e t2;rw [zRL (g := { k.g s with ta := t2 }) e, zCB (zC3 (h.si s).cor t2) (h.m s).peer]
 have ag6 : ∀ s, (k.g s).st = 6 → ∀ t2, zAl { k.g s with ta := t2 } = [pTo C (!s) (C !s).own.tag ⟨8, 0, []⟩] := by
  intro s e t2;rw [zRM (g := { k.g s with ta := t2 }) e, zCB (zC3 (h.si s).cor t2) (h.m s).peer]
 by_cases e7 : k.g0.st = 7
 ·have d0 : k.g0.due = -1 := zEt s0 (.inr e7);by_cases e17 : k.g1.st = 7;·exact (zO3 h (s := false) z0 z1 e7 e17).le (by omega)
  ·have e16 : k.g1.st = 6 := by omega
   obtain ⟨k1, q, i1, i2, i3, i4, i5, i6, i7, i8, i9⟩ := h.due hP (s := true) hn (by omega) z1 z0 (zIF s1 (.inr (.inr (.inr e16)))).1 (fun _ => by omega) (ag6 true e16);exact ((zNB hC i1 ⟨i7, i8⟩ (s := false) (by rw [show k1.g false = k.g false from i5]; show 5 ≤ k.g0.st; omega) (by rw [show k1.g (!false) = k1.g true from rfl, i4]; exact .inl e16) i3 i2).step q).le (by omega)
 by_cases e6 : k.g0.st = 6
 ·obtain ⟨k1, q, i1, i2, i3, i4, i5, i6, i7, i8, i9⟩ := h.due hP (s := false) hn (by omega) z0 z1 (zIF s0 (.inr (.inr (.inr e6)))).1 (fun h => by cases h) (ag6 false e6);exact ((zNB hC i1 ⟨i7, i8⟩ (s := true) (by rw [show k1.g true = k.g true from i5]; exact h5) (by rw [show k1.g (!true) = k1.g false from rfl, i4]; exact .inl e6) i3 i2).step q).le (by omega)
 by_cases e5 : k.g0.st = 5
 ·obtain ⟨k1, q, i1, i2, i3, i4, i5, i6, i7, i8, i9⟩ := h.due hP (s := false) hn (by omega) z0 z1 (zIF s0 (.inr (.inr (.inl e5)))).1 (fun h => by cases h) (ag false e5);exact (zO4 hC i1 ⟨i7, i8⟩ (s := true) (by rw [show k1.g true = k.g true from i5]; show k.g1.st ≤ 6; by_cases e17 : k.g1.st = 7; have := b1 e17; omega; omega) (by rw [show k1.g (!true) = k1.g false from rfl, i4]; show 5 ≤ k.g0.st; omega) i3 i2).step q
 ·have e4 : k.g0.st = 4 := by omega
  have d0 : k.g0.due = -1 := zEt s0 (.inl e4);have e15 : k.g1.st = 5 := by omega
  obtain ⟨k1, q, i1, i2, i3, i4, i5, i6, i7, i8, i9⟩ := h.due hP (s := true) hn (by omega) z1 z0 (zIF s1 (.inr (.inr (.inl e15)))).1 (fun _ => by omega) (ag true e15);exact (zO4 hC i1 ⟨i7, i8⟩ (s := false) (by rw [show k1.g false = k.g false from i5]; show k.g0.st ≤ 6; omega) (by rw [show k1.g (!false) = k1.g true from rfl, i4]; show 5 ≤ k.g1.st; omega) i3 i2).step q
def CC (n : Nat) (s : Bool) : Gx := match s with | false => zB0 false n | true => zB0 true (n / 2)
theorem zQE {n : Nat} (hn : n < 65536) : Fit (CC n) :=
 ⟨fun s => by cases s; exact zIC false hn; exact zIC true (by omega), fun s => by cases s <;> rfl⟩
theorem zOe (g : Gx) : Cor g g := ⟨rfl, rfl, rfl, rfl⟩
theorem zQF {n : Nat} (hn : n < 65536) (s : Bool) : (CC n s).ok = true := by cases s; exact zID false hn; exact zID true (by omega)
theorem zNC (n : Nat) (s : Bool) : (zM0 n).g s = CC n s := by cases s <;> rfl
theorem zRQ {n : Nat} (hn : n < 65536) : KI (CC n) (MI (CC n)) (PkM (CC n)) (zM0 n) 0 := by
 have f1 : ∀ s, (CC n s).ta = 0 ∧ (CC n s).due = -1 ∧ (CC n s).tr = 0 ∧ (CC n s).st = 1 := by intro s; cases s <;> exact ⟨rfl, rfl, rfl, rfl⟩
 refine ⟨fun s => ?_, fun s => ?_, fun s p hp => ?_⟩
 ·rw [zNC];obtain ⟨a, b, c, d⟩ := f1 s;exact ⟨zQF hn s, zOe _, by rw [a]; exact wQ _, by rw [b]; show (-1 : Int) ≤ 0 + 6400; omega, by rw [c]; omega⟩
 ·rw [zNC];obtain ⟨a, b, c, d⟩ := f1 s;rw [zNC];exact ⟨by rw [d]; omega, fun h => absurd h (by rw [d]; omega), fun h => absurd h (by rw [d]; omega), fun h => absurd h (by rw [d]; omega)⟩
 ·cases s <;> cases hp
theorem zND {C : Bool → Gx} (hC : Fit C) {k : Tk} {w : Nat} (h : KI C (MI C) (PkM C) k w) (h0 : k.now = 0) {s : Bool} (hst : (k.g s).st = 1) (hta : (k.g s).ta = 0) (hp : (k.g s).peer = zIni) :
  zAY (k.g s) 0 1 pk0 = (zOV (k.g s) 0 0 0, [zM3 (k.g s)], 0) ∧ KI C (MI C) (PkM C) (k.ev s (zOV (k.g s) 0 0 0) (k.w s) [zM3 (k.g s)]) w := by
 have hs := h.si s;have hc := hs.cor;have e := zSI (p := pk0) hs.ok hst hta hp;have G := zAg e;have ht : zM3 (k.g s) = pTo C (!s) 0 ⟨1, 0, (C s).own.oct⟩ := by
  have := zBU hc 0 ⟨1, 0, (k.g s).own.oct⟩;rw [hc.own] at this;unfold zM3;unfold zBI at this;rw [hc.own];exact List.singleton_inj.1 this
 refine ⟨e, h.ev (zD0 hC) (zA _) s ⟨G.ok, ⟨hc.fr, hc.tt, hc.sec, hc.own⟩, ?_, ?_, ?_⟩ ⟨?_, ?_, ?_, ?_⟩ ?_ (fun p hp => hp) ?_⟩;·rw [G.ta]; omega
 ·have := zP8 0;show (0 : Int) + wtS (0 : Nat) ≤ k.now + 6400; omega
 ·show ((0 : Nat) : Int) + 1 ≤ 1 + (w : Int); omega
 ·exact ⟨by show (1 : Int) ≤ 2; omega, by show (2 : Int) ≤ 4; omega⟩
 ·intro h; exact absurd h (by show ¬ (3 : Int) ≤ 2; omega)
 ·intro h; exact absurd h (by show ¬ (2 : Int) = 3; omega)
 ·intro h; exact absurd h (by show ¬ (2 : Int) = 4; omega)
 ·show (k.g s).st ≤ 2; omega
 ·intro x hx;simp only [zS, wH, or_false] at hx;rw [hx, ht];have := PkM.init (C := C) (s := !s) (now := k.now) (st := (zOV (k.g s) 0 0 0).st);rw [wY] at this;exact this
def tk1 (n : Nat) : Tk := ⟨zOV (zB0 false n) 0 0 0, zB0 true (n / 2), [], [zM3 (zB0 false n)], 0⟩
theorem zIu (s : Bool) {n : Nat} (hn : n < 65536) : zAY (zB0 s n) 0 1 pk0 = (zOV (zB0 s n) 0 0 0, [zM3 (zB0 s n)], 0) := zSI (zID s hn) (by cases s <;> rfl) (by cases s <;> rfl) (by cases s <;> rfl)
theorem zO5 {n : Nat} (hn : n < 65536) : KI (CC n) (MI (CC n)) (PkM (CC n)) (tk1 n) 0 := by
 have := (zND (zQE hn) (zRQ hn) rfl (s := false) rfl rfl rfl).2;exact this
theorem wyM {C : Bool → Gx} {M : Bool → Int → Int → Gx → Prop} {P : Bool → Int → Int → Pkx → Prop} {wt : Pkx → Nat} (hP : Prot C M P wt) {k : Tk} {w : Nat} (h : KI C M P k w) {n : Nat} (hl : k.w0.length + k.w1.length ≤ n) : Wy k n :=
 ⟨by omega, by omega, fun p hp => zIE (hP.ok (h.p false p hp)), fun p hp => zIE (hP.ok (h.p true p hp))⟩
theorem zNE {g : Gx} (hg : g.ok = true) (h0 : g.ta ≤ 0) (hst : g.st = 4) : zAY g 0 2 pk0 = (zAJ { g with ta := 0 } 5 0, zAr { g with ta := 0 } 7, 0) := by
 unfold zAY gEv zKI;rw [if_neg (by simp [hg]), if_neg (by simp [zGc]; omega), if_neg (by simp)];simp only [hst, if_true];rfl
theorem zFN {C : Bool → Gx} (hC : Fit C) {k : Tk} {w : Nat} (h : KP C k w) (h0 : k.now = 0) {s : Bool} (hst : (k.g s).st = 4) :
  zAY (k.g s) 0 2 pk0 = (zAJ { k.g s with ta := 0 } 5 0, [pTo C (!s) (C !s).own.tag ⟨7, 0, []⟩], 0) ∧ KP C (k.ev s (zAJ { k.g s with ta := 0 } 5 0) (k.w s) [pTo C (!s) (C !s).own.tag ⟨7, 0, []⟩]) w := by
 have hs := h.si s;have hc := hs.cor;have hta := hs.ta;have e := zNE hs.ok (by omega) hst;have G := zAg e;rw [zCB (zC3 hc 0) (h.m s).peer] at e;refine ⟨e, h.ev (zD1 hC) (zA _) s ⟨G.ok, ⟨hc.fr, hc.tt, hc.sec, hc.own⟩, ?_, ?_, ?_⟩ ⟨?_, (h.m s).peer, ?_, ?_⟩ ?_ (fun p hp => hp) ?_⟩;·rw [G.ta]; omega
 ·show (0 : Int) + 400 ≤ k.now + 6400; omega
 ·show (1 : Int) ≤ 1 + (w : Int); omega
 ·exact ⟨by show (4 : Int) ≤ 5; omega, by show (5 : Int) ≤ 7; omega⟩
 ·intro h; exact absurd h (by show ¬ (6 : Int) ≤ 5; omega)
 ·intro h; exact absurd h (by show ¬ (5 : Int) = 7; omega)
 ·show (k.g s).st ≤ 5; omega
 ·intro x hx;simp only [zS, wH, or_false] at hx;rw [hx];exact .shut (by show (5 : Int) ≤ 5; omega)
theorem zLE {n : Nat} (hn : n < 65536) : ∃ k, qR 200 (tk1 n) = some k ∧ KP (CC n) k 0 ∧ (∀ u, (k.g u).st = 4) ∧ k.w0 = [] ∧ k.w1 = [] ∧ k.now = 0 ∧ Wy (tk1 n) 2 := by
 have hC := zQE hn;obtain ⟨k, h1, h2⟩ := zRK hC (zO5 hn) (by show (0 : Int) ≤ 0 ∧ (0 : Int) ≤ 60000; omega) (s := false) rfl (by show (1 : Int) ≤ 3; omega) (by
  have ht : zM3 (zB0 false n) = pTo (CC n) true 0 ⟨1, 0, (CC n false).own.oct⟩ := rfl;exact congrArg (fun x => [x]) ht) rfl
 obtain ⟨a, b, c, d, e⟩ := h2;refine ⟨k, h1 200 (by omega), ⟨a.si, fun s => ⟨by rw [b]; omega, (a.m s).peer (by rw [b]; omega), fun h => by rw [b] at h; omega, fun h => by rw [b] at h; omega⟩, fun s p hp => ?_⟩, b, c, d, e, wyM (zD0 hC) (zO5 hn) (by simp [tk1])⟩;cases s;·rw [show k.w false = [] from c] at hp; cases hp
 ·rw [show k.w true = [] from d] at hp; cases hp
theorem zOf {n : Nat} (hn : n < 65536) : ∃ k h1 p1 h0 p0, qR 200 (tk1 n) = some k ∧ (∀ u, (k.g u).st = 4) ∧ k.w0 = [] ∧ k.w1 = [] ∧ k.now = 0 ∧ Wy (tk1 n) 2 ∧ zAY k.g1 0 2 pk0 = (h1, [p1], 0) ∧ zAY k.g0 0 2 pk0 = (h0, [p0], 0) ∧
  ∀ kb, (kb = ⟨k.g0, h1, [p1], [], 0⟩ ∨ kb = ⟨h0, h1, [p1], [p0], 0⟩) → Wy kb 2 ∧ ∀ ms : List Mv, ms.length ≤ 12 → (∀ m ∈ ms, m.later ≤ 255) → ∃ k3 w k4, mvR ms (kb, 0) = some (k3, w) ∧ qR 200 k3 = some k4 ∧ Gone (CC n) k4 ∧ Wy k3 14 := by
 have hC := zQE hn;have hP := zD1 hC;obtain ⟨k, a1, a2, a3, a4, a5, a6, a7⟩ := zLE hn;obtain ⟨b1, b2⟩ := zFN hC a2 a6 (a3 true);obtain ⟨c1, _⟩ := zFN hC a2 a6 (a3 false);refine ⟨k, _, _, _, _, a1, a3, a4, a5, a6, a7, b1, c1, ?_⟩;intro kb hkb;have e1 : (k.ev true (zAJ { k.g true with ta := 0 } 5 0) (k.w true) [pTo (CC n) (!true) (CC n !true).own.tag ⟨7, 0, []⟩]) = ⟨k.g0, zAJ { k.g true with ta := 0 } 5 0, [pTo (CC n) (!true) (CC n !true).own.tag ⟨7, 0, []⟩], [], 0⟩ := by
  unfold Tk.ev;simp only [a4, zC, a6];rw [show k.w true = [] from a5]
 rw [e1] at b2;obtain ⟨hK, hst, hnow, hlen⟩ : KP (CC n) kb 0 ∧ kb.g1.st = 5 ∧ kb.now = 0 ∧ kb.w0.length + kb.w1.length ≤ 2 := by
  rcases hkb with rfl | rfl;·exact ⟨b2, rfl, rfl, by simp⟩
  ·obtain ⟨_, d2⟩ := zFN hC b2 rfl (s := false) (a3 false);exact ⟨d2, rfl, rfl, by simp⟩
 refine ⟨wyM hP hK hlen, fun ms hl hm => ?_⟩;obtain ⟨k3, w, e1, e2, e3, e4, e5, e6, e7⟩ := hK.moves hP ms hm (i := 0) (by omega) (by omega) (by omega) (by omega);have hs2 : kb.g1.st ≤ k3.g1.st := e7 true;have w0 := zO1 hP.wt4 k3.w0;have w1 := zO1 hP.wt4 k3.w1;have hnow3 : k3.now ≤ 40000 := by
  have : (0 + ms.length : Nat) ≤ 12 := by omega
  omega
 obtain ⟨j, k5, f1, f2, f3, f4, f5, f6, f7⟩ := e2.drain hP 56 (by omega) ⟨e4, by omega⟩;have hs5 : k3.g1.st ≤ k5.g1.st := f7 true;obtain ⟨k4, g1, g2⟩ := ((zOd hC f2 e3 (by omega) f3 f4 (by omega)).drain f6).le (m := 200) (by omega);exact ⟨k3, w, k4, e1, g1 200 (zA _), g2, wyM hP e2 (by omega)⟩
end Go.Proofs.YtifhjhbfhdcahaaGreat
end
section
namespace Go.Tx
theorem zUQ {P : Program} {f : FuncId} {args : List PV} {F : SF} {L nx top : Nat} {v : PV} {upd : List (Nm × SBlk)} {rd : List Nm} {n : Nm} {e e2 : TypeId} {wd wd2 : Nat} {o p : Bool} {row row1 : List PV} (hwd : 0 < wd2) (hn : F n = some (.rows e wd o p [row])) (hnr : n ∈ rd) (hne : n ≠ ⟨L, nx⟩) (hl : row1.length = row.length)
  (hc : ∀ c : Nat, row1[c]? = row[c]? ∨ (row[c]? = some PV.nilS ∧ row1[c]? = some (PV.sl ⟨L, nx⟩ 0 0)))
  (h : Con P f args ((F.set ⟨L, nx⟩ (.rows e2 wd2 true true [])).set n (.rows e wd o false [row1])) L (nx + 1) top v upd (⟨L, nx⟩ :: rd)) :
  Con P f args F L nx top v ((⟨L, nx⟩, .rows e2 wd2 true true []) :: (n, .rows e wd o false [row1]) :: upd) rd := by
 refine ⟨by have := h.1; omega, fun F2 hF E w args' hR hf1 hf2 hv => ?_⟩;have htop := h.1;have hf := hf1 nx (zA _) (by omega);have hS := zTf hR hf e2 hwd true none;have hn2 : F2 n = some (.rows e wd o p [row]) := (hF n hnr).trans hn;have hn1 : (F2.set ⟨L, nx⟩ (.rows e2 wd2 true true [])) n = some (.rows e wd o p [row]) := by simp only [SF.set, if_neg hne]; exact hn2
 have hEE : Ext (EE (E.set ⟨L, nx⟩ ⟨0, 0, wd2, 0, true, none⟩) p) w (Zn (E.set ⟨L, nx⟩ ⟨0, 0, wd2, 0, true, none⟩) (F2.set ⟨L, nx⟩ (.rows e2 wd2 true true [])) w) (E.set ⟨L, nx⟩ ⟨0, 0, wd2, 0, true, none⟩) w (Zn (E.set ⟨L, nx⟩ ⟨0, 0, wd2, 0, true, none⟩) (F2.set ⟨L, nx⟩ (.rows e2 wd2 true true [])) w) := by
  refine ⟨?_, fun _ h => h, fun _ _ => rfl⟩;cases p;·exact Env.le.refl _
  ·intro k i hk; cases hk
 have hS2 := zTx hS.rel hn1 (rs1 := [row1]) rfl (by
   intro r row' row1' h1 h2;cases r with
   | zero => simp at h1 h2; subst h1; subst h2; exact hl
   | succ r => simp at h1) (by
   intro r row' row1' c x y u h1 h2 h3 h4 h5;cases r with
   | succ r => simp at h1
   | zero =>
    simp at h1 h2; subst h1; subst h2;rcases hc c with h | ⟨ha, hb⟩
    ·rw [h4, h3] at h; injection h with h; subst h;exact VR.mono hEE _ _ h5
    ·rw [h3] at ha; injection ha with ha; subst ha;rw [h4] at hb; injection hb with hb; subst hb;simp only [VR] at h5 ⊢;subst h5;exact ⟨_, zTR _ _ _, .inl ⟨rfl, trivial, rfl⟩⟩)
 have hT := hS.trans hS2;have hv2 := VRl.mono hT.ext _ _ hv;have key := h.2 ((F2.set ⟨L, nx⟩ (.rows e2 wd2 true true [])).set n (.rows e wd o false [row1])) (by
   intro m hm;simp only [SF.set];by_cases h1 : m = n;·rw [if_pos h1, if_pos h1]
   rw [if_neg h1, if_neg h1];by_cases h2 : m = ⟨L, nx⟩;·rw [if_pos h2, if_pos h2]
   rw [if_neg h2, if_neg h2];rcases List.mem_cons.1 hm with h3 | h3;·exact absurd h3 h2
   ·exact hF m h3) _ w args' hT.rel (by
   intro k h1 h2;rw [zTS E _ (by intro h; injection h with _ h; omega)];exact hf1 k (by omega) h2) (by
   intro m hm;rw [zTS E _ (by intro h; rw [h] at hm; exact absurd hm (Nat.lt_irrefl _))];exact hf2 m hm) hv2
 have conv : ∀ v' w', zBM (E.set ⟨L, nx⟩ ⟨0, 0, wd2, 0, true, none⟩) ((F2.set ⟨L, nx⟩ (.rows e2 wd2 true true [])).set n (.rows e wd o false [row1])) w L (nx + 1) top v upd v' w' → zBM E F2 w L nx top v ((⟨L, nx⟩, .rows e2 wd2 true true []) :: (n, .rows e wd o false [row1]) :: upd) v' w' := by
  rintro v' w' ⟨E2, a1, a2, a3⟩
  refine ⟨E2, a1, hT.trans a2, fun m h1 h2 => ?_⟩;by_cases h3 : m = ⟨L, nx⟩
  ·subst h3;exact ⟨rfl, zA _, by show nx < top; omega⟩
  ·have := a3 m (by rw [zTS E _ h3]; exact h1) h2;exact ⟨this.1, by omega, this.2.2⟩
 unfold zEJ Sx.zEJ at key ⊢;split at key;·exact conv _ _ key
 ·exact conv _ _ key
 ·intro cs;obtain ⟨e, w', fr, ⟨v', he, hK⟩, hrest⟩ := key cs;exact ⟨e, w', fr, ⟨v', he, conv _ _ hK⟩, hrest⟩
 ·exact key
end Go.Tx
end
section
namespace Go.Proofs.YtifhjhbfhdcahaaGreat
open Go.Tx
set_option maxRecDepth 100000
set_option maxHeartbeats 16000000
def sI (s : Bool) : Int := match s with | false => 0 | true => 1
def Tk.rw (k : Tk) (s : Bool) (own oth : PV) : List PV := match s with | false => k.row own oth | true => k.row oth own
theorem zGo (k : Tk) (x y b : PV) (c : Nat) : (k.row y b)[c]? = (k.row x b)[c]? ∨ ((k.row x b)[c]? = some x ∧ (k.row y b)[c]? = some y) := by
 by_cases hc : c = 40;·subst hc; exact .inr ⟨rfl, rfl⟩
 ·refine .inl ?_;have e : ∀ z, k.row z b = ((k.row .nilS .nilS).set 40 z).set 41 b := fun z => rfl
  rw [e x, e y, vH, vH, vH, vH];simp [Ne.symm hc]
theorem zGp (k : Tk) (a x y : PV) (c : Nat) : (k.row a y)[c]? = (k.row a x)[c]? ∨ ((k.row a x)[c]? = some x ∧ (k.row a y)[c]? = some y) := by
 by_cases hc : c = 41;·subst hc; exact .inr ⟨rfl, rfl⟩
 ·refine .inl ?_;have e : ∀ z, k.row a z = ((k.row .nilS .nilS).set 40 a).set 41 z := fun z => rfl
  rw [e x, e y, vH, vH, vH, vH];simp [Ne.symm hc]
theorem zNF (k : Tk) (s : Bool) (va x y : PV) (c : Nat) : (k.rw s va y)[c]? = (k.rw s va x)[c]? ∨ ((k.rw s va x)[c]? = some x ∧ (k.rw s va y)[c]? = some y) := by
 cases s;·exact zGp k va x y c
 ·exact zGo k x y va c
theorem zNG (k : Tk) (s : Bool) (va x : PV) : (k.rw s va x).length = 43 := by cases s <;> rfl
theorem zSB (k : Tk) (s : Bool) (v o : List Pkx) (a b : PV) : (k.ev s (k.g s) v o).rw s a b = k.rw s a b := by cases s <;> rfl
theorem zCC {F : SF} {L nx : Nat} (m : Nm) (hm0 : m.l < L ∨ (m.l = L ∧ m.i < nx)) (s : Bool) (k : Tk) (kind : Int) (p : Pkx) (hlen : p.cs.length ≤ 1000000) (hb : ∀ c ∈ p.cs, c.bd.length ≤ 1000000) (va : PV) (hva : zO0 L va) (b : Nm) (hbL : b.l ≤ L) (h : Gx) (o : List Pkx) (hst : zAY (k.g s) k.now kind p = (h, o, 0)) (hbm : b ≠ m) (hwl : (k.w !s).length ≤ 1000000) (hFb : F b = some (.rows 38 4 true true ((k.w !s).map Pkx.row))) (hF : F m = some (.rows 33 43 true false [k.rw s va (.sl b 0 (k.w !s).length)])) :
  Con Tryz.prog 12 [.ptr m 0 0, .int .i64 (sI s), .agg (.int .i64 kind :: p.row)] F L nx (nx + 1) (.bool true) [(m, .rows 33 43 true false [(k.ev s h (k.w s) o).rw s va (.sl ⟨L, nx⟩ 0 ((k.w !s).length + o.length))]), (b, .dead), (⟨L, nx⟩, .rows 38 4 true true ((k.w (!s) ++ o).map Pkx.row))] [m, b] := by
 have hm : m.l ≤ L := by omega
 have m1 : ∀ k, (m = (⟨L + 1, k⟩ : Nm)) = False := zAG hm;have m2 : ∀ k, ((⟨L + 1, k⟩ : Nm) = m) = False := zAE hm;have b1 : ∀ k, (b = (⟨L + 1, k⟩ : Nm)) = False := zAG (by omega);have b2 : ∀ k, ((⟨L + 1, k⟩ : Nm) = b) = False := zAE (by omega);have c1 : (b = m) = False := eq_false hbm;have c2 : (m = b) = False := eq_false (Ne.symm hbm);obtain ⟨G0, hG0⟩ : ∃ g, g = k.g s := ⟨_, rfl⟩;rw [← hG0] at hst;have hS := fun F L nx => zDz (F := F) (L := L) (nx := nx) hst hlen hb
 have hG := zAg hst;have hC := fun F L nx => zC2 (F := F) (L := L) (nx := nx) h
 rw [hG.ok, if_pos rfl] at hC;have hta := hG.ta;have t1 : (h.ta != k.now) = false := by simp; omega
 have e0 : ((0 : Int) == 8) = false := rfl;have n0 : ((0 : Int) != 0) = false := rfl;have z1 : ((1 : Int) - 0) = 1 := rfl;have z2 : ((1 : Int) - 1) = 0 := rfl;have g1 : decide ((0 : Int) > 1) = false := rfl;have g2 : decide ((1 : Int) > 1) = false := rfl;have g1' : decide ((1 : Int) < 0) = false := rfl;have g2' : decide ((1 : Int) < 1) = false := rfl;have g3' : decide ((1 : Int) < ((1 : Nat) : Int)) = false := rfl;have hlo := hG.len;have hpk := hG.pk;clear hG hst;obtain ⟨si, hsi⟩ : ∃ x, x = sI s := ⟨_, rfl⟩;obtain ⟨w, hw⟩ : ∃ w, w = k.w !s := ⟨_, rfl⟩;obtain ⟨R, hR⟩ : ∃ R : Gx → PV → List PV, R = fun g v => (k.ev s g (k.w s) o).rw s va v := ⟨_, rfl⟩
 have hR0 : k.rw s va (.sl b 0 w.length) = R (k.g s) (.sl b 0 w.length) := by rw [hR]; exact (zSB k s _ _ _ _).symm
 have hRc : ∀ g x y (c : Nat), (R g y)[c]? = (R g x)[c]? ∨ ((R g x)[c]? = some x ∧ (R g y)[c]? = some y) := by rw [hR]; exact fun g x y c => zNF _ s va x y c
 have hRl : ∀ g x, (R g x).length = 43 := by rw [hR]; exact fun g x => zNG _ s va x
 have hRp : ∀ v, (k.ev s h (k.w s) o).rw s va v = R h v := by rw [hR]; exact fun v => rfl
 rw [← hw, hR0] at hF;rw [← hw] at hwl hFb;rw [hRp, ← hw, ← hsi];rw [← hG0] at hF;have ml : (w.map Pkx.row).length = w.length := zL ..;simp only [Pkx.row, Gx.row] at hS hC ⊢;have ho : o = [] ∨ ∃ x, o = [x] := by
  cases o with
  | nil => exact .inl rfl
  | cons x l => cases l with
   | nil => exact .inr ⟨x, rfl⟩
   | cons y l => simp at hlo
 rcases ho with rfl | ⟨x, rfl⟩
 ·cases s;all_goals
   simp only [sI, Tk.rw, Tk.ev, Tk.row] at hsi hR;have kz : zAz [] = .nilS := rfl;simp only [kz] at hS ⊢;refine zTb (zBp (L + 1)) rfl rfl (fn := Tryz.f12) (c := Tryz.f12.body.getD .skip) (by kernel_rfl) (by rfl) (by kernel_rfl) rfl  (by simp; omega) ?_;intro F3 hF1 hF2;have kq := (hF1 m (by simp)).trans hF;have kb := (hF1 b (by simp)).trans hFb;refine vcu ⟨[some (.ptr m 0 0), some (.int .i64 si), none, none, none, some (.ptr ⟨L + 1, 0⟩ 0 0)] ++ oz 103, [(⟨L + 1, 0⟩, .rows 40 5 true true [[.int .i64 kind, .int .i64 p.fr, .int .i64 p.tt, .int .i64 p.tg, .fs 3 (p.cs.map Ckx.row)]])], 10000⟩ ?_ ?_
   ·simp only [Tryz.f12, hR, hsi, go_sem];repeat refine sd2 ?_
    exact ⟨(), (so0 hF2)⟩
   refine vcu ⟨[some (.ptr m 0 0), some (.int .i64 si), none, none, none, none, none, some (.ptr ⟨L + 1, 10480⟩ 0 0), some (.nilS), some (.int .i64 0)] ++ oz 99, [(⟨L + 1, 10480⟩, .rows 28 20 true true [(gR h [])])], 20000⟩ ?_ ?_
   ·simp only [Tryz.f12, kq, m1, hR, hsi, go_sem];repeat refine sd2 ?_
    refine CallVC.same (hS _ _ _) ?_;simp only [go_sem];repeat refine sd2 ?_
    exact ⟨zAF (fun x => if x = m then 1 else if x = b then 1 else x.i + 2) (by simp only [zCb, List.map, m2, b2, if_true, if_false]; kernel_rfl), (), (so0 hF2)⟩
   clear hS;refine vcu ⟨[some (.ptr m 0 0), some (.int .i64 si), none, none, none, none, none, some (.ptr ⟨L + 1, 10480⟩ 0 0), some (.nilS), some (.int .i64 0)] ++ oz 99, [(⟨L + 1, 10480⟩, .rows 28 20 true true [(gR h [])])], 30000⟩ ?_ ?_
   ·simp only [Tryz.f12, e0, hR, hsi, go_sem];repeat refine sd2 ?_
    exact ⟨(), (so0 hF2)⟩
   refine vcu ⟨[some (.ptr m 0 0), some (.int .i64 si), none, none, none, none, none, some (.ptr ⟨L + 1, 10480⟩ 0 0), some (.nilS)] ++ oz 100, [(⟨L + 1, 10480⟩, .rows 28 20 true true [(gR h [])])], 40000⟩ ?_ ?_
   ·simp only [Tryz.f12, n0, hR, hsi, go_sem];repeat refine sd2 ?_
    refine CallVC.same (hC _ _ _) ?_;simp only [kq, m1, n0, t1, g1, hR, go_sem];repeat refine sd2 ?_
    exact ⟨zAF (fun x => if x = m then 1 else if x = b then 1 else x.i + 2) (by simp only [zCb, List.map, m2, b2, if_true, if_false]; kernel_rfl), (), (so0 hF2)⟩
   clear hC;refine vcu ⟨[some (.ptr m 0 0), some (.int .i64 si), none, none, none, none, none, some (.ptr ⟨L + 1, 10480⟩ 0 0), some (.nilS)] ++ oz 100, [(⟨L + 1, 10480⟩, .rows 28 20 true true [(gR h [])])], 70000⟩ ?_ ?_
   ·simp only [Tryz.f12, hR, hsi, go_sem];repeat refine sd2 ?_
    refine zTz ?_;have q2 : decide ((0 : Int) < 0) = false := rfl;simp only [q2, go_sem];repeat refine sd2 ?_
    exact ⟨(), (so0 hF2)⟩
   refine vcu ⟨[some (.ptr m 0 0), some (.int .i64 si), none, none, none, none, none, none, some (.nilS)] ++ oz 100, [(m, .rows 33 43 true false [R h (.sl b 0 w.length)])], 80000⟩ ?_ ?_
   ·simp only [Tryz.f12, kq, m1, hR, hsi, go_sem];repeat refine sd2 ?_
    exact ⟨zAF (fun x => if x = m then 1 else if x = b then 1 else x.i + 2) (by simp only [zCb, List.map, m2, b2, if_true, if_false]; kernel_rfl), (), (so0 hF2 (h2 := by simp [zAv, Tx.look, m1]) (h3 := by simp [zA1, keys, m2]))⟩
   refine VT.sub (zTq (L := L + 1) b m (row1 := R h (.sl ⟨L + 1, 80000⟩ 0 w.length)) (by simpa [Tx.look, c1, c2, b1] using kb) (by simp only [Tx.look, if_true]; rfl) (by simp [c2]) (by simp [m1]) ((hRl _ _).trans (hRl _ _).symm) (fun c => (hRc h (.sl b 0 w.length) (.sl ⟨L + 1, 80000⟩ 0 w.length) c).imp id fun ⟨u, v⟩ => ⟨0, _, u, v⟩)) ?_;simp only [zAs, setH, m1, m2, b2, c1, c2, go_sem];refine VT.of (zBp (L + 1)) ?_;simp only [Tryz.f12, kq, m1, m2, b2, c2, hR, hsi, z1, z2, ml, go_sem];repeat refine sd2 ?_
   refine ⟨zAF (fun x => if x = m then 1 else if x = b then 1 else x.i + 2) (by simp only [zCb, List.map, m2, b2, if_true, if_false]; kernel_rfl), .now (PostN.val [80000] (.inr rfl) (by simp) (p := True) (v0 := .bool true) ?_ trivial ?_ ?_ ⟨by omega, ?_, by omega, ?_, zA _, ?_, trivial⟩ ?_)⟩;·simp only [go_sem]
   ·simp [nmA]
   ·simp [Tx.rn]
   ·rw [zBk (hm0.imp id fun h => .inl h.2)];exact .ren (by simp [Tx.look]; rfl) (by simp [zBN, nmA, zCj, Dn, (hva nx [80000]).1]) (by simp [Tx.rn, Tx.rnL, (hva nx [80000]).2]; try simp [sg])
   ·exact zCY
   ·rw [zCO (by simp)];exact .pure (by simp [Tx.look, m2, b2])
   ·simp [UpdAll, keys]
 ·cases s;all_goals
   simp only [sI, Tk.rw, Tk.ev, Tk.row] at hsi hR;have hx := hpk x (by simp);have hX := fun F L nx => zDv (F := F) (L := L) (nx := nx) x (zIE hx.1).1 (zIE hx.1).2
   rw [hx.1, if_pos rfl] at hX;have x1 : (x.fr != h.fr) = false := by have := hx.2.1; simp; omega
   have x2 : (x.tt != h.tt) = false := by have := hx.2.2; simp; omega
   have kz : zAz [x] = .fs 4 [(pR x)] := rfl;clear hx;simp only [kz, Pkx.row] at hS hX ⊢;refine zTb (zBp (L + 1)) rfl rfl (fn := Tryz.f12) (c := Tryz.f12.body.getD .skip) (by kernel_rfl) (by rfl) (by kernel_rfl) rfl  (by simp; omega) ?_;intro F3 hF1 hF2;have kq := (hF1 m (by simp)).trans hF;have kb := (hF1 b (by simp)).trans hFb;refine vcu ⟨[some (.ptr m 0 0), some (.int .i64 si), none, none, none, some (.ptr ⟨L + 1, 0⟩ 0 0)] ++ oz 103, [(⟨L + 1, 0⟩, .rows 40 5 true true [[.int .i64 kind, .int .i64 p.fr, .int .i64 p.tt, .int .i64 p.tg, .fs 3 (p.cs.map Ckx.row)]])], 10000⟩ ?_ ?_
   ·simp only [Tryz.f12, hR, hsi, go_sem];repeat refine sd2 ?_
    exact ⟨(), (so0 hF2)⟩
   refine vcu ⟨[some (.ptr m 0 0), some (.int .i64 si), none, none, none, none, none, some (.ptr ⟨L + 1, 10480⟩ 0 0), some (.fs 4 [(pR x)]), some (.int .i64 0)] ++ oz 99, [(⟨L + 1, 10480⟩, .rows 28 20 true true [(gR h [])])], 20000⟩ ?_ ?_
   ·simp only [Tryz.f12, kq, m1, hR, hsi, go_sem];repeat refine sd2 ?_
    refine CallVC.same (hS _ _ _) ?_;simp only [go_sem];repeat refine sd2 ?_
    exact ⟨zAF (fun x => if x = m then 1 else if x = b then 1 else x.i + 2) (by simp only [zCb, List.map, m2, b2, if_true, if_false]; kernel_rfl), (), (so0 hF2)⟩
   clear hS;refine vcu ⟨[some (.ptr m 0 0), some (.int .i64 si), none, none, none, none, none, some (.ptr ⟨L + 1, 10480⟩ 0 0), some (.fs 4 [(pR x)]), some (.int .i64 0)] ++ oz 99, [(⟨L + 1, 10480⟩, .rows 28 20 true true [(gR h [])])], 30000⟩ ?_ ?_
   ·simp only [Tryz.f12, e0, hR, hsi, go_sem];repeat refine sd2 ?_
    exact ⟨(), (so0 hF2)⟩
   refine vcu ⟨[some (.ptr m 0 0), some (.int .i64 si), none, none, none, none, none, some (.ptr ⟨L + 1, 10480⟩ 0 0), some (.fs 4 [(pR x)])] ++ oz 100, [(⟨L + 1, 10480⟩, .rows 28 20 true true [(gR h [])])], 40000⟩ ?_ ?_
   ·simp only [Tryz.f12, n0, hR, hsi, go_sem];repeat refine sd2 ?_
    refine CallVC.same (hC _ _ _) ?_;simp only [kq, m1, n0, t1, g3', hR, go_sem];repeat refine sd2 ?_
    exact ⟨zAF (fun x => if x = m then 1 else if x = b then 1 else x.i + 2) (by simp only [zCb, List.map, m2, b2, if_true, if_false]; kernel_rfl), (), (so0 hF2)⟩
   clear hC;refine vcu ⟨[some (.ptr m 0 0), some (.int .i64 si), none, none, none, none, none, some (.ptr ⟨L + 1, 10480⟩ 0 0), some (.fs 4 [(pR x)])] ++ oz 100, [(⟨L + 1, 10480⟩, .rows 28 20 true true [(gR h [])])], 70000⟩ ?_ ?_
   ·simp only [Tryz.f12, hR, hsi, go_sem];repeat refine sd2 ?_
    refine loopK.intro _ _ (I := fun j : Nat => ⟨[some (.ptr m 0 0), some (.int .i64 si), none, none, none, none, none, some (.ptr ⟨L + 1, 10480⟩ 0 0), some (.fs 4 [(pR x)]), none, none, none, none, none, none, none, none, none, none, none, none, none, none, none, none, none, none, none, none, none, none, none, none, none, none, none, none, none, none, none, none, none, none, none, none, none, none, none, none, none, none, none, none, none, none, none, none, none, none, none, none, none, none, none, some (.fs 4 [(pR x)]), some (.int .i64 1), some (.int .i64 j)] ++ oz 42, [(⟨L + 1, 10480⟩, .rows 28 20 true true [(gR h [])])], 10000 * (j + 5)⟩) (pre := fun j => j ≤ 1) (μ := fun j => 1 - j) 0 (by omega) ?_ ?_
    ·refine Sub.of (hfz hF2) (by simp only [hsi, go_sem, zA2, and_self, wX, vF]; try trivial) ?_ (by simp [zA1, keys]) (by simp);simp [zAv, Tx.look]
    intro j hj;by_cases hlt : j < 1
    ·obtain rfl : j = 0 := by omega
     have q1 : decide (((0 : Nat) : Int) < 1) = true := rfl;have q2 : decide ((0 : Int) < 1) = true := rfl;simp only [q2, wX, hsi, go_sem];repeat refine sd2 ?_
     refine CallVC.same (hX _ _ _) ?_;simp only [n0, x1, x2, go_sem];repeat refine sd2 ?_
     refine ⟨1, by omega, by omega, ?_⟩;refine Sub.of (hfz hF2) (by simp only [go_sem, zA2, vF]; try trivial) ?_ (by simp [zA1, keys]) (by simp);simp [zAv, Tx.look]
    ·obtain rfl : j = 1 := by omega
     have q1 : decide (((1 : Nat) : Int) < 1) = false := rfl;have q2 : decide ((1 : Int) < 1) = false := rfl;simp only [q2, vF, hsi, go_sem];repeat refine sd2 ?_
     exact ⟨(), (so0 hF2)⟩
   clear hX;refine vcu ⟨[some (.ptr m 0 0), some (.int .i64 si), none, none, none, none, none, none, some (.fs 4 [(pR x)])] ++ oz 100, [(m, .rows 33 43 true false [R h (.sl b 0 w.length)])], 80000⟩ ?_ ?_
   ·simp only [Tryz.f12, kq, m1, hR, hsi, go_sem];repeat refine sd2 ?_
    exact ⟨zAF (fun x => if x = m then 1 else if x = b then 1 else x.i + 2) (by simp only [zCb, List.map, m2, b2, if_true, if_false]; kernel_rfl), (), (so0 hF2 (h2 := by simp [zAv, Tx.look, m1]) (h3 := by simp [zA1, keys, m2]))⟩
   refine VT.of (zBp (L + 1)) ?_;simp only [Tryz.f12, kq, m1, m2, b2, c1, c2, kb, hR, hsi, z1, z2, ml, go_sem];repeat refine sd2 ?_
   refine ⟨zAF (fun x => if x = m then 1 else if x = b then 1 else x.i + 2) (by simp only [zCb, List.map, m2, b2, c1, if_true, if_false]; kernel_rfl), .now (PostN.val [80352] (.inr rfl) (by simp) (p := True) (v0 := .bool true) ?_ trivial ?_ ?_ ⟨by omega, ?_, by omega, ?_, zA _, ?_, trivial⟩ ?_)⟩;·simp only [go_sem]
   ·simp [nmA]
   ·simp [Tx.rn]
   ·rw [zBk (hm0.imp id fun h => .inl h.2)];exact .ren (by simp [Tx.look]; rfl) (by simp [zBN, nmA, zCj, Dn, (hva nx [80352]).1]) (by simp [Tx.rn, Tx.rnL, (hva nx [80352]).2]; try simp [sg])
   ·exact zCY
   ·rw [zCO (by simp)];exact .pure (by simp [Tx.look, m2, b2, Pkx.row])
   ·simp [UpdAll, keys]
end Go.Proofs.YtifhjhbfhdcahaaGreat
end
