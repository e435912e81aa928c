/- Lemmas for the walk: GK120, GK121, GK122, GK129, GK124. -/
import Derived.Test.YtifhjhbfhdcahaaGreatP19
import Derived.Test.YtifhjhbfhdcahaaGreatP20
set_option linter.all false
section
namespace Go.Proofs.YtifhjhbfhdcahaaGreat
open Go.Tx
set_option maxRecDepth 100000
set_option maxHeartbeats 16000000
def sI (s : Bool) : Int := match s with | false => 0 | true => 1
def Tk.rw (k : Tk) (s : Bool) (own oth : PV) : List PV := match s with | false => k.row own oth | true => k.row oth own
theorem zMW (k : Tk) (x y b : PV) (c : Nat) : (k.row y b)[c]? = (k.row x b)[c]? ∨ ((k.row x b)[c]? = some x ∧ (k.row y b)[c]? = some y) := by
 by_cases hc : c = 40;·subst hc; exact .inr ⟨rfl, rfl⟩
 ·refine .inl ?_;have e : ∀ z, k.row z b = ((k.row .nilS .nilS).set 40 z).set 41 b := fun z => rfl
  rw [e x, e y, wZ, wZ, wZ, wZ];simp [Ne.symm hc]
theorem zMX (k : Tk) (a x y : PV) (c : Nat) : (k.row a y)[c]? = (k.row a x)[c]? ∨ ((k.row a x)[c]? = some x ∧ (k.row a y)[c]? = some y) := by
 by_cases hc : c = 41;·subst hc; exact .inr ⟨rfl, rfl⟩
 ·refine .inl ?_;have e : ∀ z, k.row a z = ((k.row .nilS .nilS).set 40 a).set 41 z := fun z => rfl
  rw [e x, e y, wZ, wZ, wZ, wZ];simp [Ne.symm hc]
theorem zMY (k : Tk) (s : Bool) (va x y : PV) (c : Nat) : (k.rw s va y)[c]? = (k.rw s va x)[c]? ∨ ((k.rw s va x)[c]? = some x ∧ (k.rw s va y)[c]? = some y) := by
 cases s;·exact zMX k va x y c
 ·exact zMW k x y va c
theorem zMZ (k : Tk) (s : Bool) (va x : PV) : (k.rw s va x).length = 43 := by cases s <;> rfl
theorem zQ1 (k : Tk) (s : Bool) (v o : List Pkx) (a b : PV) : (k.ev s (k.g s) v o).rw s a b = k.rw s a b := by cases s <;> rfl
theorem zHj {F : SF} {L nx : Nat} (m : Nm) (hm0 : m.l < L ∨ (m.l = L ∧ m.i < nx)) (s : Bool) (k : Tk) (kind : Int) (p : Pkx) (hlen : p.cs.length ≤ 1000000) (hb : ∀ c ∈ p.cs, c.bd.length ≤ 1000000) (va : PV) (hva : zO8 L va) (b : Nm) (hbL : b.l ≤ L) (h : Gx) (o : List Pkx) (hst : zAa (k.g s) k.now kind p = (h, o, 0)) (hbm : b ≠ m) (hwl : (k.w !s).length ≤ 1000000) (hFb : F b = some (.rows 38 4 true true ((k.w !s).map Pkx.row))) (hF : F m = some (.rows 33 43 true false [k.rw s va (.sl b 0 (k.w !s).length)])) :
  Con Tryz.prog 12 [.ptr m 0 0, .int .i64 (sI s), .agg (.int .i64 kind :: p.row)] F L nx (nx + 1) (.bool true) [(m, .rows 33 43 true false [(k.ev s h (k.w s) o).rw s va (.sl ⟨L, nx⟩ 0 ((k.w !s).length + o.length))]), (b, .dead), (⟨L, nx⟩, .rows 38 4 true true ((k.w (!s) ++ o).map Pkx.row))] [m, b] := by
 have hm : m.l ≤ L := by omega
 have m1 : ∀ k, (m = (⟨L + 1, k⟩ : Nm)) = False := zAF hm;have m2 : ∀ k, ((⟨L + 1, k⟩ : Nm) = m) = False := zAE hm;have b1 : ∀ k, (b = (⟨L + 1, k⟩ : Nm)) = False := zAF (by omega);have b2 : ∀ k, ((⟨L + 1, k⟩ : Nm) = b) = False := zAE (by omega);have c1 : (b = m) = False := eq_false hbm;have c2 : (m = b) = False := eq_false (Ne.symm hbm);obtain ⟨G0, hG0⟩ : ∃ g, g = k.g s := ⟨_, rfl⟩;rw [← hG0] at hst;have hS := fun F L nx => zDD (F := F) (L := L) (nx := nx) hst hlen hb
 have hG := zAl hst;have hC := fun F L nx => zCB (F := F) (L := L) (nx := nx) h
 rw [hG.ok, if_pos rfl] at hC;have hta := hG.ta;have t1 : (h.ta != k.now) = false := by simp; omega
 have e0 : ((0 : Int) == 8) = false := rfl;have n0 : ((0 : Int) != 0) = false := rfl;have z1 : ((1 : Int) - 0) = 1 := rfl;have z2 : ((1 : Int) - 1) = 0 := rfl;have g1 : decide ((0 : Int) > 1) = false := rfl;have g2 : decide ((1 : Int) > 1) = false := rfl;have g1' : decide ((1 : Int) < 0) = false := rfl;have g2' : decide ((1 : Int) < 1) = false := rfl;have g3' : decide ((1 : Int) < ((1 : Nat) : Int)) = false := rfl;have hlo := hG.len;have hpk := hG.pk;clear hG hst;obtain ⟨si, hsi⟩ : ∃ x, x = sI s := ⟨_, rfl⟩;obtain ⟨w, hw⟩ : ∃ w, w = k.w !s := ⟨_, rfl⟩;obtain ⟨R, hR⟩ : ∃ R : Gx → PV → List PV, R = fun g v => (k.ev s g (k.w s) o).rw s va v := ⟨_, rfl⟩
 have hR0 : k.rw s va (.sl b 0 w.length) = R (k.g s) (.sl b 0 w.length) := by rw [hR]; exact (zQ1 k s _ _ _ _).symm
 have hRc : ∀ g x y (c : Nat), (R g y)[c]? = (R g x)[c]? ∨ ((R g x)[c]? = some x ∧ (R g y)[c]? = some y) := by rw [hR]; exact fun g x y c => zMY _ s va x y c
 have hRl : ∀ g x, (R g x).length = 43 := by rw [hR]; exact fun g x => zMZ _ s va x
 have hRp : ∀ v, (k.ev s h (k.w s) o).rw s va v = R h v := by rw [hR]; exact fun v => rfl
 rw [← hw, hR0] at hF;rw [← hw] at hwl hFb;rw [hRp, ← hw, ← hsi];rw [← hG0] at hF;have ml : (w.map Pkx.row).length = w.length := zL ..;simp only [Pkx.row, Gx.row] at hS hC ⊢;have ho : o = [] ∨ ∃ x, o = [x] := by
  cases o with
  | nil => exact .inl rfl
  | cons x l => cases l with
   | nil => exact .inr ⟨x, rfl⟩
   | cons y l => simp at hlo
 rcases ho with rfl | ⟨x, rfl⟩
 ·cases s;all_goals
   simp only [sI, Tk.rw, Tk.ev, Tk.row] at hsi hR;have kz : zAr [] = .nilS := rfl;simp only [kz] at hS ⊢;refine zSk (zCQ (L + 1)) rfl rfl (fn := Tryz.f12) (c := Tryz.f12.body.getD .skip) (by kernel_rfl) (by rfl) (by kernel_rfl) rfl  (by simp; omega) ?_;intro F3 hF1 hF2;have kq := (hF1 m (by simp)).trans hF;have kb := (hF1 b (by simp)).trans hFb;refine vcu ⟨[some (.ptr m 0 0), some (.int .i64 si), none, none, none, some (.ptr ⟨L + 1, 0⟩ 0 0)] ++ oz 103, [(⟨L + 1, 0⟩, .rows 40 5 true true [[.int .i64 kind, .int .i64 p.fr, .int .i64 p.tt, .int .i64 p.tg, .fs 3 (p.cs.map Ckx.row)]])], 10000⟩ ?_ ?_
   ·simp only [Tryz.f12, hR, hsi, go_sem];repeat refine sd2 ?_
    exact ⟨(), (so0 hF2)⟩
   refine vcu ⟨[some (.ptr m 0 0), some (.int .i64 si), none, none, none, none, none, some (.ptr ⟨L + 1, 10480⟩ 0 0), some (.nilS), some (.int .i64 0)] ++ oz 99, [(⟨L + 1, 10480⟩, .rows 28 20 true true [(gR h [])])], 20000⟩ ?_ ?_
   ·simp only [Tryz.f12, kq, m1, hR, hsi, go_sem];repeat refine sd2 ?_
    refine CallVC.same (hS _ _ _) ?_;simp only [go_sem];repeat refine sd2 ?_
    exact ⟨zAH (fun x => if x = m then 1 else if x = b then 1 else x.i + 2) (by simp only [zDN, List.map, m2, b2, if_true, if_false]; kernel_rfl), (), (so0 hF2)⟩
   clear hS;refine vcu ⟨[some (.ptr m 0 0), some (.int .i64 si), none, none, none, none, none, some (.ptr ⟨L + 1, 10480⟩ 0 0), some (.nilS), some (.int .i64 0)] ++ oz 99, [(⟨L + 1, 10480⟩, .rows 28 20 true true [(gR h [])])], 30000⟩ ?_ ?_
   ·simp only [Tryz.f12, e0, hR, hsi, go_sem];repeat refine sd2 ?_
    exact ⟨(), (so0 hF2)⟩
   refine vcu ⟨[some (.ptr m 0 0), some (.int .i64 si), none, none, none, none, none, some (.ptr ⟨L + 1, 10480⟩ 0 0), some (.nilS)] ++ oz 100, [(⟨L + 1, 10480⟩, .rows 28 20 true true [(gR h [])])], 40000⟩ ?_ ?_
   ·simp only [Tryz.f12, n0, hR, hsi, go_sem];repeat refine sd2 ?_
    refine CallVC.same (hC _ _ _) ?_;simp only [kq, m1, n0, t1, g1, hR, go_sem];repeat refine sd2 ?_
    exact ⟨zAH (fun x => if x = m then 1 else if x = b then 1 else x.i + 2) (by simp only [zDN, List.map, m2, b2, if_true, if_false]; kernel_rfl), (), (so0 hF2)⟩
   clear hC;refine vcu ⟨[some (.ptr m 0 0), some (.int .i64 si), none, none, none, none, none, some (.ptr ⟨L + 1, 10480⟩ 0 0), some (.nilS)] ++ oz 100, [(⟨L + 1, 10480⟩, .rows 28 20 true true [(gR h [])])], 70000⟩ ?_ ?_
   ·simp only [Tryz.f12, hR, hsi, go_sem];repeat refine sd2 ?_
    refine zSy ?_;have q2 : decide ((0 : Int) < 0) = false := rfl;simp only [q2, go_sem];repeat refine sd2 ?_
    exact ⟨(), (so0 hF2)⟩
   refine vcu ⟨[some (.ptr m 0 0), some (.int .i64 si), none, none, none, none, none, none, some (.nilS)] ++ oz 100, [(m, .rows 33 43 true false [R h (.sl b 0 w.length)])], 80000⟩ ?_ ?_
   ·simp only [Tryz.f12, kq, m1, hR, hsi, go_sem];repeat refine sd2 ?_
    exact ⟨zAH (fun x => if x = m then 1 else if x = b then 1 else x.i + 2) (by simp only [zDN, List.map, m2, b2, if_true, if_false]; kernel_rfl), (), (so0 hF2 (h2 := by simp [zA7, Tx.look, m1]) (h3 := by simp [zBL, keys, m2]))⟩
   refine VT.sub (zTY (L := L + 1) b m (row1 := R h (.sl ⟨L + 1, 80000⟩ 0 w.length)) (by simpa [Tx.look, c1, c2, b1] using kb) (by simp only [Tx.look, if_true]; rfl) (by simp [c2]) (by simp [m1]) ((hRl _ _).trans (hRl _ _).symm) (fun c => (hRc h (.sl b 0 w.length) (.sl ⟨L + 1, 80000⟩ 0 w.length) c).imp id fun ⟨u, v⟩ => ⟨0, _, u, v⟩)) ?_;simp only [zAv, setH, m1, m2, b2, c1, c2, go_sem];refine VT.of (zCQ (L + 1)) ?_;simp only [Tryz.f12, kq, m1, m2, b2, c2, hR, hsi, z1, z2, ml, go_sem];repeat refine sd2 ?_
   refine ⟨zAH (fun x => if x = m then 1 else if x = b then 1 else x.i + 2) (by simp only [zDN, List.map, m2, b2, if_true, if_false]; kernel_rfl), .now (PostN.val [80000] (.inr rfl) (by simp) (p := True) (v0 := .bool true) ?_ trivial ?_ ?_ ⟨by omega, ?_, by omega, ?_, zB _, ?_, trivial⟩ ?_)⟩;·simp only [go_sem]
   ·simp [nmA]
   ·simp [Tx.rn]
   ·rw [zCR (hm0.imp id fun h => .inl h.2)];exact .ren (by simp [Tx.look]; rfl) (by simp [zBm, nmA, zDJ, Dn, (hva nx [80000]).1]) (by simp [Tx.rn, Tx.rnL, (hva nx [80000]).2]; try simp [sg])
   ·exact zE2
   ·rw [zDK (by simp)];exact .pure (by simp [Tx.look, m2, b2])
   ·simp [UpdAll, keys]
 ·cases s;all_goals
   simp only [sI, Tk.rw, Tk.ev, Tk.row] at hsi hR;have hx := hpk x (by simp);have hX := fun F L nx => zDp (F := F) (L := L) (nx := nx) x (zKd hx.1).1 (zKd hx.1).2
   rw [hx.1, if_pos rfl] at hX;have x1 : (x.fr != h.fr) = false := by have := hx.2.1; simp; omega
   have x2 : (x.tt != h.tt) = false := by have := hx.2.2; simp; omega
   have kz : zAr [x] = .fs 4 [(pR x)] := rfl;clear hx;simp only [kz, Pkx.row] at hS hX ⊢;refine zSk (zCQ (L + 1)) rfl rfl (fn := Tryz.f12) (c := Tryz.f12.body.getD .skip) (by kernel_rfl) (by rfl) (by kernel_rfl) rfl  (by simp; omega) ?_;intro F3 hF1 hF2;have kq := (hF1 m (by simp)).trans hF;have kb := (hF1 b (by simp)).trans hFb;refine vcu ⟨[some (.ptr m 0 0), some (.int .i64 si), none, none, none, some (.ptr ⟨L + 1, 0⟩ 0 0)] ++ oz 103, [(⟨L + 1, 0⟩, .rows 40 5 true true [[.int .i64 kind, .int .i64 p.fr, .int .i64 p.tt, .int .i64 p.tg, .fs 3 (p.cs.map Ckx.row)]])], 10000⟩ ?_ ?_
   ·simp only [Tryz.f12, hR, hsi, go_sem];repeat refine sd2 ?_
    exact ⟨(), (so0 hF2)⟩
   refine vcu ⟨[some (.ptr m 0 0), some (.int .i64 si), none, none, none, none, none, some (.ptr ⟨L + 1, 10480⟩ 0 0), some (.fs 4 [(pR x)]), some (.int .i64 0)] ++ oz 99, [(⟨L + 1, 10480⟩, .rows 28 20 true true [(gR h [])])], 20000⟩ ?_ ?_
   ·simp only [Tryz.f12, kq, m1, hR, hsi, go_sem];repeat refine sd2 ?_
    refine CallVC.same (hS _ _ _) ?_;simp only [go_sem];repeat refine sd2 ?_
    exact ⟨zAH (fun x => if x = m then 1 else if x = b then 1 else x.i + 2) (by simp only [zDN, List.map, m2, b2, if_true, if_false]; kernel_rfl), (), (so0 hF2)⟩
   clear hS;refine vcu ⟨[some (.ptr m 0 0), some (.int .i64 si), none, none, none, none, none, some (.ptr ⟨L + 1, 10480⟩ 0 0), some (.fs 4 [(pR x)]), some (.int .i64 0)] ++ oz 99, [(⟨L + 1, 10480⟩, .rows 28 20 true true [(gR h [])])], 30000⟩ ?_ ?_
   ·simp only [Tryz.f12, e0, hR, hsi, go_sem];repeat refine sd2 ?_
    exact ⟨(), (so0 hF2)⟩
   refine vcu ⟨[some (.ptr m 0 0), some (.int .i64 si), none, none, none, none, none, some (.ptr ⟨L + 1, 10480⟩ 0 0), some (.fs 4 [(pR x)])] ++ oz 100, [(⟨L + 1, 10480⟩, .rows 28 20 true true [(gR h [])])], 40000⟩ ?_ ?_
   ·simp only [Tryz.f12, n0, hR, hsi, go_sem];repeat refine sd2 ?_
    refine CallVC.same (hC _ _ _) ?_;simp only [kq, m1, n0, t1, g3', hR, go_sem];repeat refine sd2 ?_
    exact ⟨zAH (fun x => if x = m then 1 else if x = b then 1 else x.i + 2) (by simp only [zDN, List.map, m2, b2, if_true, if_false]; kernel_rfl), (), (so0 hF2)⟩
   clear hC;refine vcu ⟨[some (.ptr m 0 0), some (.int .i64 si), none, none, none, none, none, some (.ptr ⟨L + 1, 10480⟩ 0 0), some (.fs 4 [(pR x)])] ++ oz 100, [(⟨L + 1, 10480⟩, .rows 28 20 true true [(gR h [])])], 70000⟩ ?_ ?_
   ·simp only [Tryz.f12, hR, hsi, go_sem];repeat refine sd2 ?_
    refine loopK.intro _ _ (I := fun j : Nat => ⟨[some (.ptr m 0 0), some (.int .i64 si), none, none, none, none, none, some (.ptr ⟨L + 1, 10480⟩ 0 0), some (.fs 4 [(pR x)]), none, none, none, none, none, none, none, none, none, none, none, none, none, none, none, none, none, none, none, none, none, none, none, none, none, none, none, none, none, none, none, none, none, none, none, none, none, none, none, none, none, none, none, none, none, none, none, none, none, none, none, none, none, none, none, some (.fs 4 [(pR x)]), some (.int .i64 1), some (.int .i64 j)] ++ oz 42, [(⟨L + 1, 10480⟩, .rows 28 20 true true [(gR h [])])], 10000 * (j + 5)⟩) (pre := fun j => j ≤ 1) (μ := fun j => 1 - j) 0 (by omega) ?_ ?_
    ·refine Sub.of (hfz hF2) (by simp only [hsi, go_sem, zBF, and_self, wM, vS]; try trivial) ?_ (by simp [zBL, keys]) (by simp);simp [zA7, Tx.look]
    intro j hj;by_cases hlt : j < 1
    ·obtain rfl : j = 0 := by omega
     have q1 : decide (((0 : Nat) : Int) < 1) = true := rfl;have q2 : decide ((0 : Int) < 1) = true := rfl;simp only [q2, wM, hsi, go_sem];repeat refine sd2 ?_
     refine CallVC.same (hX _ _ _) ?_;simp only [n0, x1, x2, go_sem];repeat refine sd2 ?_
     refine ⟨1, by omega, by omega, ?_⟩;refine Sub.of (hfz hF2) (by simp only [go_sem, zBF, vS]; try trivial) ?_ (by simp [zBL, keys]) (by simp);simp [zA7, Tx.look]
    ·obtain rfl : j = 1 := by omega
     have q1 : decide (((1 : Nat) : Int) < 1) = false := rfl;have q2 : decide ((1 : Int) < 1) = false := rfl;simp only [q2, vS, hsi, go_sem];repeat refine sd2 ?_
     exact ⟨(), (so0 hF2)⟩
   clear hX;refine vcu ⟨[some (.ptr m 0 0), some (.int .i64 si), none, none, none, none, none, none, some (.fs 4 [(pR x)])] ++ oz 100, [(m, .rows 33 43 true false [R h (.sl b 0 w.length)])], 80000⟩ ?_ ?_
   ·simp only [Tryz.f12, kq, m1, hR, hsi, go_sem];repeat refine sd2 ?_
    exact ⟨zAH (fun x => if x = m then 1 else if x = b then 1 else x.i + 2) (by simp only [zDN, List.map, m2, b2, if_true, if_false]; kernel_rfl), (), (so0 hF2 (h2 := by simp [zA7, Tx.look, m1]) (h3 := by simp [zBL, keys, m2]))⟩
   refine VT.of (zCQ (L + 1)) ?_;simp only [Tryz.f12, kq, m1, m2, b2, c1, c2, kb, hR, hsi, z1, z2, ml, go_sem];repeat refine sd2 ?_
   refine ⟨zAH (fun x => if x = m then 1 else if x = b then 1 else x.i + 2) (by simp only [zDN, List.map, m2, b2, c1, if_true, if_false]; kernel_rfl), .now (PostN.val [80352] (.inr rfl) (by simp) (p := True) (v0 := .bool true) ?_ trivial ?_ ?_ ⟨by omega, ?_, by omega, ?_, zB _, ?_, trivial⟩ ?_)⟩;·simp only [go_sem]
   ·simp [nmA]
   ·simp [Tx.rn]
   ·rw [zCR (hm0.imp id fun h => .inl h.2)];exact .ren (by simp [Tx.look]; rfl) (by simp [zBm, nmA, zDJ, Dn, (hva nx [80352]).1]) (by simp [Tx.rn, Tx.rnL, (hva nx [80352]).2]; try simp [sg])
   ·exact zE2
   ·rw [zDK (by simp)];exact .pure (by simp [Tx.look, m2, b2, Pkx.row])
   ·simp [UpdAll, keys]
theorem zDE {F : SF} {L nx : Nat} (m : Nm) (hm0 : m.l < L ∨ (m.l = L ∧ m.i < nx)) (s : Bool) (k : Tk) (a : Nm) (haL : a.l ≤ L) (ham : a ≠ m) (z : List Pkx) (hFa : F a = some (.rows 38 4 true true (((k.w s) ++ z).map Pkx.row))) (which : Int) (at1 : Nat) (hat : which.tmod (k.w s).length = at1) (hlt : at1 < (k.w s).length) (hal : (k.w s).length ≤ 1000000) (p : Pkx) (hp : (k.w s)[at1]? = some p) (hsm : p.sm) (h : Gx) (o : List Pkx) (hst : zAa (k.g s) k.now 5 p = (h, o, 0)) (b : Nm) (hbL : b.l ≤ L) (hbm : b ≠ m) (hwl : (k.w !s).length ≤ 1000000) (hFb : F b = some (.rows 38 4 true true ((k.w !s).map Pkx.row))) (hF : F m = some (.rows 33 43 true false [k.rw s (.sl a 0 (k.w s).length) (.sl b 0 (k.w !s).length)])) :
  Con Tryz.prog 21 [.ptr m 0 0, .int .i64 (sI s), .int .i64 which, .bool false, .bool false] F L nx (nx + 2) (.bool true) [(m, .rows 33 43 true false [(k.ev s h (k.w s) o).rw s (.sl ⟨L, nx⟩ 0 ((k.w s).length - 1)) (.sl ⟨L, nx + 1⟩ 0 ((k.w !s).length + o.length))]), (b, .dead), (⟨L, nx⟩, .rows 38 4 true true (((k.w s).eraseIdx at1).map Pkx.row)), (⟨L, nx + 1⟩, .rows 38 4 true true ((k.w (!s) ++ o).map Pkx.row))] [m, a, b] := by
 have hm : m.l ≤ L := by omega
 have m1 : ∀ k, (m = (⟨L + 1, k⟩ : Nm)) = False := zAF hm;have m2 : ∀ k, ((⟨L + 1, k⟩ : Nm) = m) = False := zAE hm;have a1 : ∀ k, (a = (⟨L + 1, k⟩ : Nm)) = False := zAF haL;have a2 : ∀ k, ((⟨L + 1, k⟩ : Nm) = a) = False := zAE haL;have a3 : ∀ k, ((⟨L + 1, k⟩ : Nm) == a) = false := fun k => by rw [beq_eq_false_iff_ne, ne_eq, a2 k]; exact not_false
 have d1 : (a = m) = False := eq_false ham;have d2 : (m = a) = False := eq_false (Ne.symm ham);have b1 : ∀ k, (b = (⟨L + 1, k⟩ : Nm)) = False := zAF (by omega);have b2 : ∀ k, ((⟨L + 1, k⟩ : Nm) = b) = False := zAE (by omega);have c1 : (b = m) = False := eq_false hbm;have c2 : (m = b) = False := eq_false (Ne.symm hbm);obtain ⟨w, hw⟩ : ∃ w, w = k.w s := ⟨_, rfl⟩;obtain ⟨RW, hRW⟩ : ∃ R, R = (w ++ z).map Pkx.row := ⟨_, rfl⟩;rw [← hw] at hFa hat hlt hal hp hF ⊢;have er := zMN w z hlt;have ln : RW.length = w.length + z.length := by rw [hRW]; simp
 have gr : RW.getD at1 [] = (pR p) := by
  rw [hRW, zG, zS, wE hlt, hp]; rfl
 rw [← hRW] at er hFa;clear hRW;have l1 : (List.take at1 RW).length = at1 := by simp; omega
 have l2 : (List.take (w.length - (at1 + 1)) (List.drop (at1 + 1) RW)).length = w.length - (at1 + 1) := by simp; omega
 have l3 : at1 + (w.length - (at1 + 1)) = w.length - 1 := by omega
 have tn : ((at1 : Int) + 1).toNat = at1 + 1 := by omega
 have w1 : IntKind.i64.wrap ((at1 : Int) + 1) = (at1 : Int) + 1 := by simp [IntKind.wrap, IntKind.signed, IntKind.bits]; omega
 have e0 : ((w.length : Int) == 0) = false := by
  simp only [beq_eq_false_iff_ne, ne_eq]; omega
 obtain ⟨si, hsi⟩ : ∃ x, x = sI s := ⟨_, rfl⟩;obtain ⟨w2, hw2⟩ : ∃ w, w = k.w !s := ⟨_, rfl⟩;rw [← hw2] at hwl hFb hF ⊢;obtain ⟨R, hR⟩ : ∃ R : PV → List PV, R = fun v => k.rw s v (.sl b 0 w2.length) := ⟨_, rfl⟩
 have hR0 : ∀ v, k.rw s v (.sl b 0 w2.length) = R v := fun v => by rw [hR]
 have hD := fun (F : SF) (nx : Nat) (h1 : F b = some (.rows 38 4 true true (w2.map Pkx.row))) (h2 : F m = some (.rows 33 43 true false [R (.sl ⟨L + 1, 20736⟩ 0 (w.length - 1))])) => zHj (F := F) (L := L + 1) (nx := nx) m (.inl (by omega)) s k 5 p hsm.1 hsm.2 (.sl ⟨L + 1, 20736⟩ 0 (w.length - 1)) (zO9 (zB _)) b (by omega) h o hst hbm (by rw [← hw2]; exact hwl) (by rw [← hw2]; exact h1) (by rw [← hw2, hR0]; exact h2)
 simp only [← hw2, ← hsi, ← hw] at hD;obtain ⟨RE, hRE⟩ : ∃ RE : PV → PV → List PV, RE = fun x y => (k.ev s h w o).rw s x y := ⟨_, rfl⟩
 have hRE0 : ∀ x y, (k.ev s h w o).rw s x y = RE x y := fun x y => by rw [hRE]
 simp only [hRE0] at hD ⊢;rw [hR0] at hF;rw [← hsi];cases s;all_goals
  simp only [sI, Tk.rw, Tk.ev, Tk.row] at hsi hR hRE;simp only [hsi] at hD;refine zSk (zCQ (L + 1)) rfl rfl (fn := Tryz.f21) (c := Tryz.f21.body.getD .skip) (by kernel_rfl) (by rfl) (by kernel_rfl) rfl  (by simp; omega) ?_;intro F3 hF1 hF2;have kq := (hF1 m (by simp)).trans hF;have ka := (hF1 a (by simp)).trans hFa;have kb := (hF1 b (by simp)).trans hFb;refine vcu ⟨[some (.ptr m 0 0), some (.int .i64 si), some (.int .i64 which), some (.bool false), some (.bool false)] ++ oz 69, [], 1000⟩ ?_ ?_
  ·simp only [Tryz.f21, hsi, go_sem];repeat refine sd2 ?_
   exact ⟨(), (so0 hF2)⟩
  refine vcu ⟨[some (.ptr m 0 0), some (.int .i64 si), some (.int .i64 which), some (.bool false), some (.bool false)] ++ oz 69, [], 2000⟩ ?_ ?_
  ·simp only [Tryz.f21, kq, e0, hR, hsi, go_sem];repeat refine sd2 ?_
   exact ⟨(), (so0 hF2)⟩
  refine vcu ⟨[some (.ptr m 0 0), some (.int .i64 si), some (.int .i64 which), some (.bool false), some (.bool false), none, none, none, none, none, none, some (.int .i64 at1)] ++ oz 62, [], 10000⟩ ?_ ?_
  ·simp only [Tryz.f21, kq, hR, hsi, hat, go_sem];repeat refine sd2 ?_
   exact ⟨(), (so0 hF2)⟩
  refine vcu ⟨[some (.ptr m 0 0), some (.int .i64 si), some (.int .i64 which), some (.bool false), some (.bool false), none, none, none, none, none, none, some (.int .i64 at1), some (.ptr ⟨L + 1, 10288⟩ 0 0)] ++ oz 61, [(⟨L + 1, 10288⟩, .rows 38 4 true true [(pR p)])], 20000⟩ ?_ ?_
  ·simp only [Tryz.f21, kq, ka, hR, hsi, ln, gr, go_sem];repeat refine sd2 ?_
   exact ⟨(), (so0 hF2)⟩
  refine vcu ⟨[some (.ptr m 0 0), some (.int .i64 si), some (.int .i64 which), some (.bool false), some (.bool false), none, none, none, none, none, none, some (.int .i64 at1), some (.ptr ⟨L + 1, 10288⟩ 0 0)] ++ oz 61, [(m, .rows 33 43 true false [R (.sl ⟨L + 1, 20736⟩ 0 (w.length - 1))]), (⟨L + 1, 20736⟩, .rows 38 4 true true ((w.eraseIdx at1).map Pkx.row)), (⟨L + 1, 10288⟩, .rows 38 4 true true [(pR p)])], 30000⟩ ?_ ?_
  ·simp only [Tryz.f21, kq, m1, ka, hR, hsi, a1, a3, ln, l1, l2, l3, tn, w1, er, uA, zI, go_sem];repeat refine sd2 ?_
   exact ⟨⟨by omega, by omega, by omega, .inl trivial⟩, ⟨by omega, by omega, by omega⟩, ⟨by omega, by omega⟩, zAH (fun x => if x = m then 1 else if x = a then 0 else x.i + 2) (by simp only [zDN, List.map, m2, a2, d1, if_true, if_false]; kernel_rfl), (), (so0 hF2 (h2 := by simp [zA7, Tx.look, m1]) (h3 := by simp [zBL, keys, m1, m2]))⟩
  refine VT.of (zCQ (L + 1)) ?_;simp only [Tryz.f21, m2, hR, hsi, go_sem];repeat refine sd2 ?_
  refine CallVC.same (hD _ _ (by simp [kb, c1, b1]) (by simp [hR])) ?_;simp only [hRE, m1, m2, b1, b2, c1, go_sem];repeat refine sd2 ?_
  refine .now (PostN.val [20736, 30192] (.inr rfl) (by simp) (p := True) (v0 := .bool true) ?_ trivial ?_ ?_ ⟨by omega, ?_, by omega, ?_, zB _, ?_, zB _, ?_, trivial⟩ ?_);·simp only [go_sem]
  ·simp [nmA]
  ·simp [Tx.rn]
  ·rw [zCR (hm0.imp id fun h => .inl h.2)];exact .ren (by simp [Tx.look]; rfl) (by simp [zBm, nmA, zDJ, Dn]) (by simp [Tx.rn, Tx.rnL]; try simp [sg]; try rfl)
  ·exact zE2
  ·rw [zDK (by simp)];exact .pure (by simp [Tx.look, m2])
  ·rw [zPm (j := 1) (by simp)];exact .pure (by simp [Tx.look, m2, b2])
  ·simp [UpdAll, keys]
theorem Con.rds {P : Program} {f : FuncId} {args : List PV} {F : SF} {L nx top : Nat} {v : PV} {upd : List (Nm × SBlk)} {rd rd2 : List Nm} (h : Con P f args F L nx top v upd rd) (hs : ∀ n ∈ rd, n ∈ rd2) : Con P f args F L nx top v upd rd2 :=
 ⟨h.1, fun F2 hF => h.2 F2 (fun n hn => hF n (hs n hn))⟩
theorem zQG {F : SF} {L nx top : Nat} {f : FuncId} {args : List PV} {v : PV} {upd : List (Nm × SBlk)} {rd rd2 : List Nm} {pu : Bool} (m : Nm) (hm0 : m.l < L ∨ (m.l = L ∧ m.i < nx)) (s : Bool) (k : Tk) (x : PV) (hF : F m = some (.rows 33 43 true pu [k.rw s x .nilS])) (hmr : m ∈ rd2)
  (h : Con Tryz.prog f args ((F.set ⟨L, nx⟩ (.rows 38 4 true true (([] : List Pkx).map Pkx.row))).set m (.rows 33 43 true false [k.rw s x (.sl ⟨L, nx⟩ 0 0)])) L (nx + 1) top v upd rd) (hr : ∀ n ∈ rd, n = ⟨L, nx⟩ ∨ n ∈ rd2) :
  Con Tryz.prog f args F L nx top v ((⟨L, nx⟩, .rows 38 4 true true (([] : List Pkx).map Pkx.row)) :: (m, .rows 33 43 true false [k.rw s x (.sl ⟨L, nx⟩ 0 0)]) :: upd) rd2 := by
 refine zTP (by omega) hF hmr (by intro h; rw [h] at hm0; simp at hm0) ((zMZ k s x _).trans (zMZ k s x _).symm) (fun c => zMY k s x .nilS (.sl ⟨L, nx⟩ 0 0) c) (Con.rds h (fun n hn => ?_));rcases hr n hn with h | h;·rw [h]; exact List.mem_cons_self ..
 ·exact List.mem_cons_of_mem _ h
theorem zNp {pu : Bool} {F : SF} {L nx : Nat} (m : Nm) (hm0 : m.l < L ∨ (m.l = L ∧ m.i < nx)) (s : Bool) (k : Tk) (kind : Int) (p : Pkx) (hlen : p.cs.length ≤ 1000000) (hb : ∀ c ∈ p.cs, c.bd.length ≤ 1000000) (va : PV) (hva : zO8 L va) (h : Gx) (o : List Pkx) (hst : zAa (k.g s) k.now kind p = (h, o, 0)) (hnil : k.w (!s) = []) (hF : F m = some (.rows 33 43 true pu [k.rw s va .nilS])) :
  Con Tryz.prog 12 [.ptr m 0 0, .int .i64 (sI s), .agg (.int .i64 kind :: p.row)] F L nx (nx + 1 + 1) (.bool true) ((⟨L, nx⟩, .rows 38 4 true true (([] : List Pkx).map Pkx.row)) :: (m, .rows 33 43 true false [k.rw s va (.sl ⟨L, nx⟩ 0 0)]) :: [(m, .rows 33 43 true false [(k.ev s h (k.w s) o).rw s va (.sl ⟨L, nx + 1⟩ 0 ((k.w !s).length + o.length))]), (⟨L, nx⟩, .dead), (⟨L, nx + 1⟩, .rows 38 4 true true ((k.w (!s) ++ o).map Pkx.row))]) [m] := by
 have hmx' : (⟨L, nx⟩ : Nm) ≠ m := by intro h; rw [← h] at hm0; simp at hm0
 refine zQG m hm0 s k va hF (by simp) (zHj (nx := nx + 1) m (by omega) s k kind p hlen hb va hva ⟨L, nx⟩ (zB _) h o hst hmx' (by rw [hnil]; simp) (by simp only [SF.set, if_neg hmx', if_true, hnil]) (by simp only [SF.set, if_true, hnil, wN])) (fun n hn => by simp at hn ⊢; exact hn.symm)
theorem zIO {F : SF} {L nx : Nat} (m : Nm) (hm0 : m.l < L ∨ (m.l = L ∧ m.i < nx)) (s : Bool) (k : Tk) (a : Nm) (haL : a.l ≤ L) (ham : a ≠ m) (hax : a ≠ ⟨L, nx⟩) (z : List Pkx) (hFa : F a = some (.rows 38 4 true true (((k.w s) ++ z).map Pkx.row))) (which : Int) (at1 : Nat) (hat : which.tmod (k.w s).length = at1) (hlt : at1 < (k.w s).length) (hal : (k.w s).length ≤ 1000000) (p : Pkx) (hp : (k.w s)[at1]? = some p) (hsm : p.sm) (h : Gx) (o : List Pkx) (hst : zAa (k.g s) k.now 5 p = (h, o, 0)) (hnil : k.w (!s) = []) {pu : Bool} (hF : F m = some (.rows 33 43 true pu [k.rw s (.sl a 0 (k.w s).length) .nilS])) :
  Con Tryz.prog 21 [.ptr m 0 0, .int .i64 (sI s), .int .i64 which, .bool false, .bool false] F L nx (nx + 1 + 2) (.bool true) ((⟨L, nx⟩, .rows 38 4 true true (([] : List Pkx).map Pkx.row)) :: (m, .rows 33 43 true false [k.rw s (.sl a 0 (k.w s).length) (.sl ⟨L, nx⟩ 0 0)]) :: [(m, .rows 33 43 true false [(k.ev s h (k.w s) o).rw s (.sl ⟨L, nx + 1⟩ 0 ((k.w s).length - 1)) (.sl ⟨L, nx + 1 + 1⟩ 0 ((k.w !s).length + o.length))]), (⟨L, nx⟩, .dead), (⟨L, nx + 1⟩, .rows 38 4 true true (((k.w s).eraseIdx at1).map Pkx.row)), (⟨L, nx + 1 + 1⟩, .rows 38 4 true true ((k.w (!s) ++ o).map Pkx.row))]) [m, a] := by
 have hmx' : (⟨L, nx⟩ : Nm) ≠ m := by intro h; rw [← h] at hm0; simp at hm0
 refine zQG m hm0 s k (.sl a 0 (k.w s).length) hF (by simp) (zDE (nx := nx + 1) m (by omega) s k a haL ham z (by simp only [SF.set, if_neg ham, if_neg hax]; exact hFa) which at1 hat hlt hal p hp hsm h o hst ⟨L, nx⟩ (zB _) hmx' (by rw [hnil]; simp) (by simp only [SF.set, if_neg hmx', if_true, hnil]) (by simp only [SF.set, if_true, hnil, wN])) (fun n hn => by simp at hn ⊢; rcases hn with h | h | h <;> simp [h])
end Go.Proofs.YtifhjhbfhdcahaaGreat
end
