/- Lemmas for the walk: U49, GK120, GK121. -/
import Derived.Test.YtifhjhbfhdcahaaGreatP20
set_option linter.all false
section
namespace Go.Tx
theorem zUB {P : Program} {f : FuncId} {args : List PV} {F : SF} {L nx top : Nat} {v : PV} {upd : List (Nm × SBlk)} {rd : List Nm} {n : Nm} {e e2 : TypeId} {wd wd2 : Nat} {o p : Bool} {row row1 : List PV} (hwd : 0 < wd2) (hn : F n = some (.rows e wd o p [row])) (hnr : n ∈ rd) (hne : n ≠ ⟨L, nx⟩) (hl : row1.length = row.length)
  (hc : ∀ c : Nat, row1[c]? = row[c]? ∨ (row[c]? = some PV.nilS ∧ row1[c]? = some (PV.sl ⟨L, nx⟩ 0 0)))
  (h : Con P f args ((F.set ⟨L, nx⟩ (.rows e2 wd2 true true [])).set n (.rows e wd o false [row1])) L (nx + 1) top v upd (⟨L, nx⟩ :: rd)) :
  Con P f args F L nx top v ((⟨L, nx⟩, .rows e2 wd2 true true []) :: (n, .rows e wd o false [row1]) :: upd) rd := by
 refine ⟨by have := h.1; omega, fun F2 hF E w args' hR hf1 hf2 hv => ?_⟩;have htop := h.1;have hf := hf1 nx (Nat.le_refl _) (by omega);have hS := zTQ hR hf e2 hwd true none;have hn2 : F2 n = some (.rows e wd o p [row]) := (hF n hnr).trans hn;have hn1 : (F2.set ⟨L, nx⟩ (.rows e2 wd2 true true [])) n = some (.rows e wd o p [row]) := by simp only [SF.set, if_neg hne]; exact hn2
 have hEE : Ext (EE (E.set ⟨L, nx⟩ ⟨0, 0, wd2, 0, true, none⟩) p) w (Zn (E.set ⟨L, nx⟩ ⟨0, 0, wd2, 0, true, none⟩) (F2.set ⟨L, nx⟩ (.rows e2 wd2 true true [])) w) (E.set ⟨L, nx⟩ ⟨0, 0, wd2, 0, true, none⟩) w (Zn (E.set ⟨L, nx⟩ ⟨0, 0, wd2, 0, true, none⟩) (F2.set ⟨L, nx⟩ (.rows e2 wd2 true true [])) w) := by
  refine ⟨?_, fun _ h => h, fun _ _ => rfl⟩;cases p;·exact Env.le.refl _
  ·intro k i hk; cases hk
 have hS2 := zTg hS.rel hn1 (rs1 := [row1]) rfl (by
   intro r row' row1' h1 h2;cases r with
   | zero => simp at h1 h2; subst h1; subst h2; exact hl
   | succ r => simp at h1) (by
   intro r row' row1' c x y u h1 h2 h3 h4 h5;cases r with
   | succ r => simp at h1
   | zero =>
    simp at h1 h2; subst h1; subst h2;rcases hc c with h | ⟨ha, hb⟩
    ·rw [h4, h3] at h; injection h with h; subst h;exact VR.mono hEE _ _ h5
    ·rw [h3] at ha; injection ha with ha; subst ha;rw [h4] at hb; injection hb with hb; subst hb;simp only [VR] at h5 ⊢;subst h5;exact ⟨_, zTC _ _ _, .inl ⟨rfl, trivial, rfl⟩⟩)
 have hT := hS.trans hS2;have hv2 := VRl.mono hT.ext _ _ hv;have key := h.2 ((F2.set ⟨L, nx⟩ (.rows e2 wd2 true true [])).set n (.rows e wd o false [row1])) (by
   intro m hm;simp only [SF.set];by_cases h1 : m = n;·rw [if_pos h1, if_pos h1]
   rw [if_neg h1, if_neg h1];by_cases h2 : m = ⟨L, nx⟩;·rw [if_pos h2, if_pos h2]
   rw [if_neg h2, if_neg h2];rcases List.mem_cons.1 hm with h3 | h3;·exact absurd h3 h2
   ·exact hF m h3) _ w args' hT.rel (by
   intro k h1 h2;rw [zTD E _ (by intro h; injection h with _ h; omega)];exact hf1 k (by omega) h2) (by
   intro m hm;rw [zTD E _ (by intro h; rw [h] at hm; exact absurd hm (Nat.lt_irrefl _))];exact hf2 m hm) hv2
 have conv : ∀ v' w', zBN (E.set ⟨L, nx⟩ ⟨0, 0, wd2, 0, true, none⟩) ((F2.set ⟨L, nx⟩ (.rows e2 wd2 true true [])).set n (.rows e wd o false [row1])) w L (nx + 1) top v upd v' w' → zBN E F2 w L nx top v ((⟨L, nx⟩, .rows e2 wd2 true true []) :: (n, .rows e wd o false [row1]) :: upd) v' w' := by
  rintro v' w' ⟨E2, a1, a2, a3⟩
  refine ⟨E2, a1, hT.trans a2, fun m h1 h2 => ?_⟩;by_cases h3 : m = ⟨L, nx⟩
  ·subst h3;exact ⟨rfl, Nat.le_refl _, by show nx < top; omega⟩
  ·have := a3 m (by rw [zTD E _ h3]; exact h1) h2;exact ⟨this.1, by omega, this.2.2⟩
 unfold zEF Sx.zEF at key ⊢;split at key;·exact conv _ _ key
 ·exact conv _ _ key
 ·intro cs;obtain ⟨e, w', fr, ⟨v', he, hK⟩, hrest⟩ := key cs;exact ⟨e, w', fr, ⟨v', he, conv _ _ hK⟩, hrest⟩
 ·exact key
end Go.Tx
end
section
namespace Go.Proofs.YtifhjhbfhdcahaaGreat
open Go.Tx
set_option maxRecDepth 100000
set_option maxHeartbeats 16000000
def sI (s : Bool) : Int := match s with | false => 0 | true => 1
def Tk.rw (k : Tk) (s : Bool) (own oth : PV) : List PV := match s with | false => k.row own oth | true => k.row oth own
theorem zGh (k : Tk) (x y b : PV) (c : Nat) : (k.row y b)[c]? = (k.row x b)[c]? ∨ ((k.row x b)[c]? = some x ∧ (k.row y b)[c]? = some y) := by
 by_cases hc : c = 40;·subst hc; exact .inr ⟨rfl, rfl⟩
 ·refine .inl ?_;have e : ∀ z, k.row z b = ((k.row .nilS .nilS).set 40 z).set 41 b := fun z => rfl
  rw [e x, e y, List.getElem?_set, List.getElem?_set, List.getElem?_set, List.getElem?_set];simp [Ne.symm hc]
theorem zGi (k : Tk) (a x y : PV) (c : Nat) : (k.row a y)[c]? = (k.row a x)[c]? ∨ ((k.row a x)[c]? = some x ∧ (k.row a y)[c]? = some y) := by
 by_cases hc : c = 41;·subst hc; exact .inr ⟨rfl, rfl⟩
 ·refine .inl ?_;have e : ∀ z, k.row a z = ((k.row .nilS .nilS).set 40 a).set 41 z := fun z => rfl
  rw [e x, e y, List.getElem?_set, List.getElem?_set, List.getElem?_set, List.getElem?_set];simp [Ne.symm hc]
theorem zM8 (k : Tk) (s : Bool) (va x y : PV) (c : Nat) : (k.rw s va y)[c]? = (k.rw s va x)[c]? ∨ ((k.rw s va x)[c]? = some x ∧ (k.rw s va y)[c]? = some y) := by
 cases s;·exact zGi k va x y c
 ·exact zGh k x y va c
theorem zM9 (k : Tk) (s : Bool) (va x : PV) : (k.rw s va x).length = 43 := by cases s <;> rfl
theorem zRw (k : Tk) (s : Bool) (v o : List Pkx) (a b : PV) : (k.ev s (k.g s) v o).rw s a b = k.rw s a b := by cases s <;> rfl
theorem zDL {F : SF} {L nx : Nat} (m : Nm) (hm0 : m.l < L ∨ (m.l = L ∧ m.i < nx)) (s : Bool) (k : Tk) (kind : Int) (p : Pkx) (hlen : p.cs.length ≤ 1000000) (hb : ∀ c ∈ p.cs, c.bd.length ≤ 1000000) (va : PV) (hva : zOr L va) (b : Nm) (hbL : b.l ≤ L) (h : Gx) (o : List Pkx) (hst : zAa (k.g s) k.now kind p = (h, o, 0)) (hbm : b ≠ m) (hwl : (k.w !s).length ≤ 1000000) (hFb : F b = some (.rows 38 4 true true ((k.w !s).map Pkx.row))) (hF : F m = some (.rows 33 43 true false [k.rw s va (.sl b 0 (k.w !s).length)])) :
  Con Tryz.prog 12 [.ptr m 0 0, .int .i64 (sI s), .agg (.int .i64 kind :: p.row)] F L nx (nx + 1) (.bool true) [(m, .rows 33 43 true false [(k.ev s h (k.w s) o).rw s va (.sl ⟨L, nx⟩ 0 ((k.w !s).length + o.length))]), (b, .dead), (⟨L, nx⟩, .rows 38 4 true true ((k.w (!s) ++ o).map Pkx.row))] [m, b] := by
 have hm : m.l ≤ L := by omega
 have m1 : ∀ k, (m = (⟨L + 1, k⟩ : Nm)) = False := zAG hm;have m2 : ∀ k, ((⟨L + 1, k⟩ : Nm) = m) = False := zAE hm;have b1 : ∀ k, (b = (⟨L + 1, k⟩ : Nm)) = False := zAG (by omega);have b2 : ∀ k, ((⟨L + 1, k⟩ : Nm) = b) = False := zAE (by omega);have c1 : (b = m) = False := eq_false hbm;have c2 : (m = b) = False := eq_false (Ne.symm hbm);obtain ⟨G0, hG0⟩ : ∃ g, g = k.g s := ⟨_, rfl⟩;rw [← hG0] at hst;have hS := fun F L nx => zDx (F := F) (L := L) (nx := nx) hst hlen hb
 have hG := zAj hst;have hC := fun F L nx => zC0 (F := F) (L := L) (nx := nx) h
 rw [hG.ok, if_pos rfl] at hC;have hta := hG.ta;have t1 : (h.ta != k.now) = false := by simp; omega
 have e0 : ((0 : Int) == 8) = false := rfl;have n0 : ((0 : Int) != 0) = false := rfl;have z1 : ((1 : Int) - 0) = 1 := rfl;have z2 : ((1 : Int) - 1) = 0 := rfl;have g1 : decide ((0 : Int) > 1) = false := rfl;have g2 : decide ((1 : Int) > 1) = false := rfl;have g1' : decide ((1 : Int) < 0) = false := rfl;have g2' : decide ((1 : Int) < 1) = false := rfl;have g3' : decide ((1 : Int) < ((1 : Nat) : Int)) = false := rfl;have hlo := hG.len;have hpk := hG.pk;clear hG hst;obtain ⟨si, hsi⟩ : ∃ x, x = sI s := ⟨_, rfl⟩;obtain ⟨w, hw⟩ : ∃ w, w = k.w !s := ⟨_, rfl⟩;obtain ⟨R, hR⟩ : ∃ R : Gx → PV → List PV, R = fun g v => (k.ev s g (k.w s) o).rw s va v := ⟨_, rfl⟩
 have hR0 : k.rw s va (.sl b 0 w.length) = R (k.g s) (.sl b 0 w.length) := by rw [hR]; exact (zRw k s _ _ _ _).symm
 have hRc : ∀ g x y (c : Nat), (R g y)[c]? = (R g x)[c]? ∨ ((R g x)[c]? = some x ∧ (R g y)[c]? = some y) := by rw [hR]; exact fun g x y c => zM8 _ s va x y c
 have hRl : ∀ g x, (R g x).length = 43 := by rw [hR]; exact fun g x => zM9 _ s va x
 have hRp : ∀ v, (k.ev s h (k.w s) o).rw s va v = R h v := by rw [hR]; exact fun v => rfl
 rw [← hw, hR0] at hF;rw [← hw] at hwl hFb;rw [hRp, ← hw, ← hsi];rw [← hG0] at hF;have ml : (w.map Pkx.row).length = w.length := List.length_map ..;simp only [Pkx.row, Gx.row] at hS hC ⊢;have ho : o = [] ∨ ∃ x, o = [x] := by
  cases o with
  | nil => exact .inl rfl
  | cons x l => cases l with
   | nil => exact .inr ⟨x, rfl⟩
   | cons y l => simp at hlo
 rcases ho with rfl | ⟨x, rfl⟩
 ·cases s;all_goals
   simp only [sI, Tk.rw, Tk.ev, Tk.row] at hsi hR;have kz : zAy [] = .nilS := rfl;simp only [kz] at hS ⊢;refine zTM (zBp (L + 1)) rfl rfl (fn := Tryz.f12) (c := Tryz.f12.body.getD .skip) (by kernel_rfl) (by rfl) (by kernel_rfl) rfl  (by simp; omega) ?_;intro F3 hF1 hF2;have kq := (hF1 m (by simp)).trans hF;have kb := (hF1 b (by simp)).trans hFb;refine vcu ⟨[some (.ptr m 0 0), some (.int .i64 si), none, none, none, some (.ptr ⟨L + 1, 0⟩ 0 0)] ++ oz 103, [(⟨L + 1, 0⟩, .rows 40 5 true true [[.int .i64 kind, .int .i64 p.fr, .int .i64 p.tt, .int .i64 p.tg, .fs 3 (p.cs.map Ckx.row)]])], 10000⟩ ?_ ?_
   ·simp only [Tryz.f12, hR, hsi, go_sem];repeat refine sd2 ?_
    exact ⟨(), (so0 hF2)⟩
   refine vcu ⟨[some (.ptr m 0 0), some (.int .i64 si), none, none, none, none, none, some (.ptr ⟨L + 1, 10480⟩ 0 0), some (.nilS), some (.int .i64 0)] ++ oz 99, [(⟨L + 1, 10480⟩, .rows 28 20 true true [(gR h [])])], 20000⟩ ?_ ?_
   ·simp only [Tryz.f12, kq, m1, hR, hsi, go_sem];repeat refine sd2 ?_
    refine CallVC.same (hS _ _ _) ?_;simp only [go_sem];repeat refine sd2 ?_
    exact ⟨zAF (fun x => if x = m then 1 else if x = b then 1 else x.i + 2) (by simp only [zCZ, List.map, m2, b2, if_true, if_false]; kernel_rfl), (), (so0 hF2)⟩
   clear hS;refine vcu ⟨[some (.ptr m 0 0), some (.int .i64 si), none, none, none, none, none, some (.ptr ⟨L + 1, 10480⟩ 0 0), some (.nilS), some (.int .i64 0)] ++ oz 99, [(⟨L + 1, 10480⟩, .rows 28 20 true true [(gR h [])])], 30000⟩ ?_ ?_
   ·simp only [Tryz.f12, e0, hR, hsi, go_sem];repeat refine sd2 ?_
    exact ⟨(), (so0 hF2)⟩
   refine vcu ⟨[some (.ptr m 0 0), some (.int .i64 si), none, none, none, none, none, some (.ptr ⟨L + 1, 10480⟩ 0 0), some (.nilS)] ++ oz 100, [(⟨L + 1, 10480⟩, .rows 28 20 true true [(gR h [])])], 40000⟩ ?_ ?_
   ·simp only [Tryz.f12, n0, hR, hsi, go_sem];repeat refine sd2 ?_
    refine CallVC.same (hC _ _ _) ?_;simp only [kq, m1, n0, t1, g1, hR, go_sem];repeat refine sd2 ?_
    exact ⟨zAF (fun x => if x = m then 1 else if x = b then 1 else x.i + 2) (by simp only [zCZ, List.map, m2, b2, if_true, if_false]; kernel_rfl), (), (so0 hF2)⟩
   clear hC;refine vcu ⟨[some (.ptr m 0 0), some (.int .i64 si), none, none, none, none, none, some (.ptr ⟨L + 1, 10480⟩ 0 0), some (.nilS)] ++ oz 100, [(⟨L + 1, 10480⟩, .rows 28 20 true true [(gR h [])])], 70000⟩ ?_ ?_
   ·simp only [Tryz.f12, hR, hsi, go_sem];repeat refine sd2 ?_
    refine zTk ?_;have q2 : decide ((0 : Int) < 0) = false := rfl;simp only [q2, go_sem];repeat refine sd2 ?_
    exact ⟨(), (so0 hF2)⟩
   refine vcu ⟨[some (.ptr m 0 0), some (.int .i64 si), none, none, none, none, none, none, some (.nilS)] ++ oz 100, [(m, .rows 33 43 true false [R h (.sl b 0 w.length)])], 80000⟩ ?_ ?_
   ·simp only [Tryz.f12, kq, m1, hR, hsi, go_sem];repeat refine sd2 ?_
    exact ⟨zAF (fun x => if x = m then 1 else if x = b then 1 else x.i + 2) (by simp only [zCZ, List.map, m2, b2, if_true, if_false]; kernel_rfl), (), (so0 hF2 (h2 := by simp [zAu, Tx.look, m1]) (h3 := by simp [zA0, keys, m2]))⟩
   refine VT.sub (zTY (L := L + 1) b m (row1 := R h (.sl ⟨L + 1, 80000⟩ 0 w.length)) (by simpa [Tx.look, c1, c2, b1] using kb) (by simp only [Tx.look, if_true]; rfl) (by simp [c2]) (by simp [m1]) ((hRl _ _).trans (hRl _ _).symm) (fun c => (hRc h (.sl b 0 w.length) (.sl ⟨L + 1, 80000⟩ 0 w.length) c).imp id fun ⟨u, v⟩ => ⟨0, _, u, v⟩)) ?_;simp only [zAr, setH, m1, m2, b2, c1, c2, go_sem];refine VT.of (zBp (L + 1)) ?_;simp only [Tryz.f12, kq, m1, m2, b2, c2, hR, hsi, z1, z2, ml, go_sem];repeat refine sd2 ?_
   refine ⟨zAF (fun x => if x = m then 1 else if x = b then 1 else x.i + 2) (by simp only [zCZ, List.map, m2, b2, if_true, if_false]; kernel_rfl), .now (PostN.val [80000] (.inr rfl) (by simp) (p := True) (v0 := .bool true) ?_ trivial ?_ ?_ ⟨by omega, ?_, by omega, ?_, Nat.le_refl _, ?_, trivial⟩ ?_)⟩;·simp only [go_sem]
   ·simp [nmA]
   ·simp [Tx.rn]
   ·rw [zBm (hm0.imp id fun h => .inl h.2)];exact .ren (by simp [Tx.look]; rfl) (by simp [zBO, nmA, zCh, Dn, (hva nx [80000]).1]) (by simp [Tx.rn, Tx.rnL, (hva nx [80000]).2]; try simp [sg])
   ·exact zCW
   ·rw [zCM (by simp)];exact .pure (by simp [Tx.look, m2, b2])
   ·simp [UpdAll, keys]
 ·cases s;all_goals
   simp only [sI, Tk.rw, Tk.ev, Tk.row] at hsi hR;have hx := hpk x (by simp);have hX := fun F L nx => zDt (F := F) (L := L) (nx := nx) x (zH7 hx.1).1 (zH7 hx.1).2
   rw [hx.1, if_pos rfl] at hX;have x1 : (x.fr != h.fr) = false := by have := hx.2.1; simp; omega
   have x2 : (x.tt != h.tt) = false := by have := hx.2.2; simp; omega
   have kz : zAy [x] = .fs 4 [(pR x)] := rfl;clear hx;simp only [kz, Pkx.row] at hS hX ⊢;refine zTM (zBp (L + 1)) rfl rfl (fn := Tryz.f12) (c := Tryz.f12.body.getD .skip) (by kernel_rfl) (by rfl) (by kernel_rfl) rfl  (by simp; omega) ?_;intro F3 hF1 hF2;have kq := (hF1 m (by simp)).trans hF;have kb := (hF1 b (by simp)).trans hFb;refine vcu ⟨[some (.ptr m 0 0), some (.int .i64 si), none, none, none, some (.ptr ⟨L + 1, 0⟩ 0 0)] ++ oz 103, [(⟨L + 1, 0⟩, .rows 40 5 true true [[.int .i64 kind, .int .i64 p.fr, .int .i64 p.tt, .int .i64 p.tg, .fs 3 (p.cs.map Ckx.row)]])], 10000⟩ ?_ ?_
   ·simp only [Tryz.f12, hR, hsi, go_sem];repeat refine sd2 ?_
    exact ⟨(), (so0 hF2)⟩
   refine vcu ⟨[some (.ptr m 0 0), some (.int .i64 si), none, none, none, none, none, some (.ptr ⟨L + 1, 10480⟩ 0 0), some (.fs 4 [(pR x)]), some (.int .i64 0)] ++ oz 99, [(⟨L + 1, 10480⟩, .rows 28 20 true true [(gR h [])])], 20000⟩ ?_ ?_
   ·simp only [Tryz.f12, kq, m1, hR, hsi, go_sem];repeat refine sd2 ?_
    refine CallVC.same (hS _ _ _) ?_;simp only [go_sem];repeat refine sd2 ?_
    exact ⟨zAF (fun x => if x = m then 1 else if x = b then 1 else x.i + 2) (by simp only [zCZ, List.map, m2, b2, if_true, if_false]; kernel_rfl), (), (so0 hF2)⟩
   clear hS;refine vcu ⟨[some (.ptr m 0 0), some (.int .i64 si), none, none, none, none, none, some (.ptr ⟨L + 1, 10480⟩ 0 0), some (.fs 4 [(pR x)]), some (.int .i64 0)] ++ oz 99, [(⟨L + 1, 10480⟩, .rows 28 20 true true [(gR h [])])], 30000⟩ ?_ ?_
   ·simp only [Tryz.f12, e0, hR, hsi, go_sem];repeat refine sd2 ?_
    exact ⟨(), (so0 hF2)⟩
   refine vcu ⟨[some (.ptr m 0 0), some (.int .i64 si), none, none, none, none, none, some (.ptr ⟨L + 1, 10480⟩ 0 0), some (.fs 4 [(pR x)])] ++ oz 100, [(⟨L + 1, 10480⟩, .rows 28 20 true true [(gR h [])])], 40000⟩ ?_ ?_
   ·simp only [Tryz.f12, n0, hR, hsi, go_sem];repeat refine sd2 ?_
    refine CallVC.same (hC _ _ _) ?_;simp only [kq, m1, n0, t1, g3', hR, go_sem];repeat refine sd2 ?_
    exact ⟨zAF (fun x => if x = m then 1 else if x = b then 1 else x.i + 2) (by simp only [zCZ, List.map, m2, b2, if_true, if_false]; kernel_rfl), (), (so0 hF2)⟩
   clear hC;refine vcu ⟨[some (.ptr m 0 0), some (.int .i64 si), none, none, none, none, none, some (.ptr ⟨L + 1, 10480⟩ 0 0), some (.fs 4 [(pR x)])] ++ oz 100, [(⟨L + 1, 10480⟩, .rows 28 20 true true [(gR h [])])], 70000⟩ ?_ ?_
   ·simp only [Tryz.f12, hR, hsi, go_sem];repeat refine sd2 ?_
    refine loopK.intro _ _ (I := fun j : Nat => ⟨[some (.ptr m 0 0), some (.int .i64 si), none, none, none, none, none, some (.ptr ⟨L + 1, 10480⟩ 0 0), some (.fs 4 [(pR x)]), none, none, none, none, none, none, none, none, none, none, none, none, none, none, none, none, none, none, none, none, none, none, none, none, none, none, none, none, none, none, none, none, none, none, none, none, none, none, none, none, none, none, none, none, none, none, none, none, none, none, none, none, none, none, none, some (.fs 4 [(pR x)]), some (.int .i64 1), some (.int .i64 j)] ++ oz 42, [(⟨L + 1, 10480⟩, .rows 28 20 true true [(gR h [])])], 10000 * (j + 5)⟩) (pre := fun j => j ≤ 1) (μ := fun j => 1 - j) 0 (by omega) ?_ ?_
    ·refine Sub.of (hfz hF2) (by simp only [hsi, go_sem, zA1, and_self, Int.natCast_zero, Int.natCast_one]; try trivial) ?_ (by simp [zA0, keys]) (by simp);simp [zAu, Tx.look]
    intro j hj;by_cases hlt : j < 1
    ·obtain rfl : j = 0 := by omega
     have q1 : decide (((0 : Nat) : Int) < 1) = true := rfl;have q2 : decide ((0 : Int) < 1) = true := rfl;simp only [q2, Int.natCast_zero, hsi, go_sem];repeat refine sd2 ?_
     refine CallVC.same (hX _ _ _) ?_;simp only [n0, x1, x2, go_sem];repeat refine sd2 ?_
     refine ⟨1, by omega, by omega, ?_⟩;refine Sub.of (hfz hF2) (by simp only [go_sem, zA1, Int.natCast_one]; try trivial) ?_ (by simp [zA0, keys]) (by simp);simp [zAu, Tx.look]
    ·obtain rfl : j = 1 := by omega
     have q1 : decide (((1 : Nat) : Int) < 1) = false := rfl;have q2 : decide ((1 : Int) < 1) = false := rfl;simp only [q2, Int.natCast_one, hsi, go_sem];repeat refine sd2 ?_
     exact ⟨(), (so0 hF2)⟩
   clear hX;refine vcu ⟨[some (.ptr m 0 0), some (.int .i64 si), none, none, none, none, none, none, some (.fs 4 [(pR x)])] ++ oz 100, [(m, .rows 33 43 true false [R h (.sl b 0 w.length)])], 80000⟩ ?_ ?_
   ·simp only [Tryz.f12, kq, m1, hR, hsi, go_sem];repeat refine sd2 ?_
    exact ⟨zAF (fun x => if x = m then 1 else if x = b then 1 else x.i + 2) (by simp only [zCZ, List.map, m2, b2, if_true, if_false]; kernel_rfl), (), (so0 hF2 (h2 := by simp [zAu, Tx.look, m1]) (h3 := by simp [zA0, keys, m2]))⟩
   refine VT.of (zBp (L + 1)) ?_;simp only [Tryz.f12, kq, m1, m2, b2, c1, c2, kb, hR, hsi, z1, z2, ml, go_sem];repeat refine sd2 ?_
   refine ⟨zAF (fun x => if x = m then 1 else if x = b then 1 else x.i + 2) (by simp only [zCZ, List.map, m2, b2, c1, if_true, if_false]; kernel_rfl), .now (PostN.val [80352] (.inr rfl) (by simp) (p := True) (v0 := .bool true) ?_ trivial ?_ ?_ ⟨by omega, ?_, by omega, ?_, Nat.le_refl _, ?_, trivial⟩ ?_)⟩;·simp only [go_sem]
   ·simp [nmA]
   ·simp [Tx.rn]
   ·rw [zBm (hm0.imp id fun h => .inl h.2)];exact .ren (by simp [Tx.look]; rfl) (by simp [zBO, nmA, zCh, Dn, (hva nx [80352]).1]) (by simp [Tx.rn, Tx.rnL, (hva nx [80352]).2]; try simp [sg])
   ·exact zCW
   ·rw [zCM (by simp)];exact .pure (by simp [Tx.look, m2, b2, Pkx.row])
   ·simp [UpdAll, keys]
theorem zLA {F : SF} {L nx : Nat} (m : Nm) (hm : m.l ≤ L) (s : Bool) (k : Tk) (which : Int) (kp lo : Bool) (a : Nm) (hFa : ∃ R, F a = some (.rows 38 4 true true R)) (vo : PV) (hF : F m = some (.rows 33 43 true false [k.rw s (.sl a 0 0) vo])) :
  Con Tryz.prog 21 [.ptr m 0 0, .int .i64 (sI s), .int .i64 which, .bool kp, .bool lo] F L nx nx (.bool true) [] [m] := by
 have m1 : ∀ k, (m = (⟨L + 1, k⟩ : Nm)) = False := zAG hm;have m2 : ∀ k, ((⟨L + 1, k⟩ : Nm) = m) = False := zAE hm;have e0 : (((0 : Nat) : Int) == 0) = true := rfl;have e1 : ((0 : Int) == 0) = true := rfl;cases s;all_goals
  simp only [sI, Tk.rw, Tk.row] at hF ⊢;refine zTT (zBp (L + 1)) rfl rfl (fn := Tryz.f21) (c := Tryz.f21.body.getD .skip) (by kernel_rfl) (by rfl) (by kernel_rfl) rfl  (by simp; omega) ?_;intro F3 hF1 hF2;have kq := (hF1 m (by simp)).trans hF;refine VT.of (zBp (L + 1)) ?_;simp only [Tryz.f21, kq, e0, go_sem];repeat refine sd2 ?_
  exact .bool (.inr rfl) rfl rfl (by simp [UpdAll])
theorem zJl {F : SF} {L nx : Nat} (m : Nm) (hm0 : m.l < L ∨ (m.l = L ∧ m.i < nx)) (s : Bool) (k : Tk) (a : Nm) (haL : a.l ≤ L) (ham : a ≠ m) (z : List Pkx) (hFa : F a = some (.rows 38 4 true true (((k.w s) ++ z).map Pkx.row))) (which : Int) (at1 : Nat) (hat : which.tmod (k.w s).length = at1) (hlt : at1 < (k.w s).length) (hal : (k.w s).length ≤ 1000000) (p : Pkx) (hp : (k.w s)[at1]? = some p) (vb : PV) (hvb : zOr L vb) (hF : F m = some (.rows 33 43 true false [k.rw s (.sl a 0 (k.w s).length) vb])) :
  Con Tryz.prog 21 [.ptr m 0 0, .int .i64 (sI s), .int .i64 which, .bool false, .bool true] F L nx (nx + 1) (.bool true) [(m, .rows 33 43 true false [k.rw s (.sl ⟨L, nx⟩ 0 ((k.w s).length - 1)) vb]), (⟨L, nx⟩, .rows 38 4 true true (((k.w s).eraseIdx at1).map Pkx.row))] [m, a] := by
 have hm : m.l ≤ L := by omega
 have m1 : ∀ k, (m = (⟨L + 1, k⟩ : Nm)) = False := zAG hm;have m2 : ∀ k, ((⟨L + 1, k⟩ : Nm) = m) = False := zAE hm;have a1 : ∀ k, (a = (⟨L + 1, k⟩ : Nm)) = False := zAG haL;have a2 : ∀ k, ((⟨L + 1, k⟩ : Nm) = a) = False := zAE haL;have a3 : ∀ k, ((⟨L + 1, k⟩ : Nm) == a) = false := fun k => by rw [beq_eq_false_iff_ne, ne_eq, a2 k]; exact not_false
 have d1 : (a = m) = False := eq_false ham;have d2 : (m = a) = False := eq_false (Ne.symm ham);obtain ⟨w, hw⟩ : ∃ w, w = k.w s := ⟨_, rfl⟩;obtain ⟨RW, hRW⟩ : ∃ R, R = (w ++ z).map Pkx.row := ⟨_, rfl⟩;rw [← hw] at hFa hat hlt hal hp hF ⊢;have er := zGg w z hlt;have ln : RW.length = w.length + z.length := by rw [hRW]; simp
 have gr : RW.getD at1 [] = (pR p) := by
  rw [hRW, List.getD_eq_getElem?_getD, List.getElem?_map, List.getElem?_append_left hlt, hp]; rfl
 rw [← hRW] at er hFa;clear hRW;have l1 : (List.take at1 RW).length = at1 := by simp; omega
 have l2 : (List.take (w.length - (at1 + 1)) (List.drop (at1 + 1) RW)).length = w.length - (at1 + 1) := by simp; omega
 have l3 : at1 + (w.length - (at1 + 1)) = w.length - 1 := by omega
 have tn : ((at1 : Int) + 1).toNat = at1 + 1 := by omega
 have w1 : IntKind.i64.wrap ((at1 : Int) + 1) = (at1 : Int) + 1 := by simp [IntKind.wrap, IntKind.signed, IntKind.bits]; omega
 have e0 : ((w.length : Int) == 0) = false := by
  simp only [beq_eq_false_iff_ne, ne_eq]; omega
 obtain ⟨si, hsi⟩ : ∃ x, x = sI s := ⟨_, rfl⟩;obtain ⟨R, hR⟩ : ∃ R : PV → List PV, R = fun v => k.rw s v vb := ⟨_, rfl⟩
 have hR0 : ∀ v, k.rw s v vb = R v := fun v => by rw [hR]
 rw [hR0] at hF;rw [hR0];rw [← hsi];cases s;all_goals
  simp only [sI, Tk.rw, Tk.row] at hsi hR;refine zTM (zBp (L + 1)) rfl rfl (fn := Tryz.f21) (c := Tryz.f21.body.getD .skip) (by kernel_rfl) (by rfl) (by kernel_rfl) rfl  (by simp; omega) ?_;intro F3 hF1 hF2;have kq := (hF1 m (by simp)).trans hF;have ka := (hF1 a (by simp)).trans hFa;refine vcu ⟨[some (.ptr m 0 0), some (.int .i64 si), some (.int .i64 which), some (.bool false), some (.bool true)] ++ oz 69, [], 1000⟩ ?_ ?_
  ·simp only [Tryz.f21, hR, hsi, go_sem];repeat refine sd2 ?_
   exact ⟨(), (so0 hF2)⟩
  refine vcu ⟨[some (.ptr m 0 0), some (.int .i64 si), some (.int .i64 which), some (.bool false), some (.bool true)] ++ oz 69, [], 2000⟩ ?_ ?_
  ·simp only [Tryz.f21, kq, e0, hR, hsi, go_sem];repeat refine sd2 ?_
   exact ⟨(), (so0 hF2)⟩
  refine vcu ⟨[some (.ptr m 0 0), some (.int .i64 si), some (.int .i64 which), some (.bool false), some (.bool true), none, none, none, none, none, none, some (.int .i64 at1)] ++ oz 62, [], 10000⟩ ?_ ?_
  ·simp only [Tryz.f21, kq, hR, hsi, hat, go_sem];repeat refine sd2 ?_
   exact ⟨(), (so0 hF2)⟩
  refine vcu ⟨[some (.ptr m 0 0), some (.int .i64 si), some (.int .i64 which), some (.bool false), some (.bool true), none, none, none, none, none, none, some (.int .i64 at1), some (.ptr ⟨L + 1, 10288⟩ 0 0)] ++ oz 61, [(⟨L + 1, 10288⟩, .rows 38 4 true true [(pR p)])], 20000⟩ ?_ ?_
  ·simp only [Tryz.f21, kq, ka, hR, hsi, ln, gr, go_sem];repeat refine sd2 ?_
   exact ⟨(), (so0 hF2)⟩
  refine vcu ⟨[some (.ptr m 0 0), some (.int .i64 si), some (.int .i64 which), some (.bool false), some (.bool true), none, none, none, none, none, none, some (.int .i64 at1), some (.ptr ⟨L + 1, 10288⟩ 0 0)] ++ oz 61, [(m, .rows 33 43 true false [R (.sl ⟨L + 1, 20736⟩ 0 (w.length - 1))]), (⟨L + 1, 20736⟩, .rows 38 4 true true ((w.eraseIdx at1).map Pkx.row)), (⟨L + 1, 10288⟩, .rows 38 4 true true [(pR p)])], 30000⟩ ?_ ?_
  ·simp only [Tryz.f21, kq, m1, ka, hR, hsi, a1, a3, ln, l1, l2, l3, tn, w1, er, Nat.sub_zero, Nat.add_assoc, go_sem];repeat refine sd2 ?_
   exact ⟨⟨by omega, by omega, by omega, .inl trivial⟩, ⟨by omega, by omega, by omega⟩, ⟨by omega, by omega⟩, zAF (fun x => if x = m then 1 else if x = a then 0 else x.i + 2) (by simp only [zCZ, List.map, m2, a2, d1, if_true, if_false]; kernel_rfl), (), (so0 hF2 (h2 := by simp [zAu, Tx.look, m1]) (h3 := by simp [zA0, keys, m1, m2]))⟩
  refine VT.of (zBp (L + 1)) ?_;simp only [Tryz.f21, hR, hsi, go_sem];repeat refine sd2 ?_
  refine .now (PostN.val [20736] (.inr rfl) (by simp) (p := True) (v0 := .bool true) ?_ trivial ?_ ?_ ⟨by omega, ?_, Nat.le_refl _, ?_, trivial⟩ ?_);·simp only [go_sem]
  ·simp [nmA]
  ·simp [Tx.rn]
  ·rw [zBm (hm0.imp id fun h => .inl h.2)];exact .ren (by simp [Tx.look]; rfl) (by simp [zBO, nmA, zCh, Dn, (hvb nx [20736]).1]) (by simp [Tx.rn, Tx.rnL, (hvb nx [20736]).2]; try simp [sg]; try rfl)
  ·rw [zCM (by simp)];exact .pure (by simp [Tx.look, m2])
  ·simp [UpdAll, keys]
theorem zBZ {F : SF} {L nx : Nat} (m : Nm) (hm0 : m.l < L ∨ (m.l = L ∧ m.i < nx)) (s : Bool) (k : Tk) (a : Nm) (haL : a.l ≤ L) (ham : a ≠ m) (z : List Pkx) (hFa : F a = some (.rows 38 4 true true (((k.w s) ++ z).map Pkx.row))) (which : Int) (at1 : Nat) (hat : which.tmod (k.w s).length = at1) (hlt : at1 < (k.w s).length) (hal : (k.w s).length ≤ 1000000) (p : Pkx) (hp : (k.w s)[at1]? = some p) (hsm : p.sm) (h : Gx) (o : List Pkx) (hst : zAa (k.g s) k.now 5 p = (h, o, 0)) (b : Nm) (hbL : b.l ≤ L) (hbm : b ≠ m) (hwl : (k.w !s).length ≤ 1000000) (hFb : F b = some (.rows 38 4 true true ((k.w !s).map Pkx.row))) (hF : F m = some (.rows 33 43 true false [k.rw s (.sl a 0 (k.w s).length) (.sl b 0 (k.w !s).length)])) :
  Con Tryz.prog 21 [.ptr m 0 0, .int .i64 (sI s), .int .i64 which, .bool false, .bool false] F L nx (nx + 2) (.bool true) [(m, .rows 33 43 true false [(k.ev s h (k.w s) o).rw s (.sl ⟨L, nx⟩ 0 ((k.w s).length - 1)) (.sl ⟨L, nx + 1⟩ 0 ((k.w !s).length + o.length))]), (b, .dead), (⟨L, nx⟩, .rows 38 4 true true (((k.w s).eraseIdx at1).map Pkx.row)), (⟨L, nx + 1⟩, .rows 38 4 true true ((k.w (!s) ++ o).map Pkx.row))] [m, a, b] := by
 have hm : m.l ≤ L := by omega
 have m1 : ∀ k, (m = (⟨L + 1, k⟩ : Nm)) = False := zAG hm;have m2 : ∀ k, ((⟨L + 1, k⟩ : Nm) = m) = False := zAE hm;have a1 : ∀ k, (a = (⟨L + 1, k⟩ : Nm)) = False := zAG haL;have a2 : ∀ k, ((⟨L + 1, k⟩ : Nm) = a) = False := zAE haL;have a3 : ∀ k, ((⟨L + 1, k⟩ : Nm) == a) = false := fun k => by rw [beq_eq_false_iff_ne, ne_eq, a2 k]; exact not_false
 have d1 : (a = m) = False := eq_false ham;have d2 : (m = a) = False := eq_false (Ne.symm ham);have b1 : ∀ k, (b = (⟨L + 1, k⟩ : Nm)) = False := zAG (by omega);have b2 : ∀ k, ((⟨L + 1, k⟩ : Nm) = b) = False := zAE (by omega);have c1 : (b = m) = False := eq_false hbm;have c2 : (m = b) = False := eq_false (Ne.symm hbm);obtain ⟨w, hw⟩ : ∃ w, w = k.w s := ⟨_, rfl⟩;obtain ⟨RW, hRW⟩ : ∃ R, R = (w ++ z).map Pkx.row := ⟨_, rfl⟩;rw [← hw] at hFa hat hlt hal hp hF ⊢;have er := zGg w z hlt;have ln : RW.length = w.length + z.length := by rw [hRW]; simp
 have gr : RW.getD at1 [] = (pR p) := by
  rw [hRW, List.getD_eq_getElem?_getD, List.getElem?_map, List.getElem?_append_left hlt, hp]; rfl
 rw [← hRW] at er hFa;clear hRW;have l1 : (List.take at1 RW).length = at1 := by simp; omega
 have l2 : (List.take (w.length - (at1 + 1)) (List.drop (at1 + 1) RW)).length = w.length - (at1 + 1) := by simp; omega
 have l3 : at1 + (w.length - (at1 + 1)) = w.length - 1 := by omega
 have tn : ((at1 : Int) + 1).toNat = at1 + 1 := by omega
 have w1 : IntKind.i64.wrap ((at1 : Int) + 1) = (at1 : Int) + 1 := by simp [IntKind.wrap, IntKind.signed, IntKind.bits]; omega
 have e0 : ((w.length : Int) == 0) = false := by
  simp only [beq_eq_false_iff_ne, ne_eq]; omega
 obtain ⟨si, hsi⟩ : ∃ x, x = sI s := ⟨_, rfl⟩;obtain ⟨w2, hw2⟩ : ∃ w, w = k.w !s := ⟨_, rfl⟩;rw [← hw2] at hwl hFb hF ⊢;obtain ⟨R, hR⟩ : ∃ R : PV → List PV, R = fun v => k.rw s v (.sl b 0 w2.length) := ⟨_, rfl⟩
 have hR0 : ∀ v, k.rw s v (.sl b 0 w2.length) = R v := fun v => by rw [hR]
 have hD := fun (F : SF) (nx : Nat) (h1 : F b = some (.rows 38 4 true true (w2.map Pkx.row))) (h2 : F m = some (.rows 33 43 true false [R (.sl ⟨L + 1, 20736⟩ 0 (w.length - 1))])) => zDL (F := F) (L := L + 1) (nx := nx) m (.inl (by omega)) s k 5 p hsm.1 hsm.2 (.sl ⟨L + 1, 20736⟩ 0 (w.length - 1)) (zER (Nat.le_refl _)) b (by omega) h o hst hbm (by rw [← hw2]; exact hwl) (by rw [← hw2]; exact h1) (by rw [← hw2, hR0]; exact h2)
 simp only [← hw2, ← hsi, ← hw] at hD;obtain ⟨RE, hRE⟩ : ∃ RE : PV → PV → List PV, RE = fun x y => (k.ev s h w o).rw s x y := ⟨_, rfl⟩
 have hRE0 : ∀ x y, (k.ev s h w o).rw s x y = RE x y := fun x y => by rw [hRE]
 simp only [hRE0] at hD ⊢;rw [hR0] at hF;rw [← hsi];cases s;all_goals
  simp only [sI, Tk.rw, Tk.ev, Tk.row] at hsi hR hRE;simp only [hsi] at hD;refine zTM (zBp (L + 1)) rfl rfl (fn := Tryz.f21) (c := Tryz.f21.body.getD .skip) (by kernel_rfl) (by rfl) (by kernel_rfl) rfl  (by simp; omega) ?_;intro F3 hF1 hF2;have kq := (hF1 m (by simp)).trans hF;have ka := (hF1 a (by simp)).trans hFa;have kb := (hF1 b (by simp)).trans hFb;refine vcu ⟨[some (.ptr m 0 0), some (.int .i64 si), some (.int .i64 which), some (.bool false), some (.bool false)] ++ oz 69, [], 1000⟩ ?_ ?_
  ·simp only [Tryz.f21, hsi, go_sem];repeat refine sd2 ?_
   exact ⟨(), (so0 hF2)⟩
  refine vcu ⟨[some (.ptr m 0 0), some (.int .i64 si), some (.int .i64 which), some (.bool false), some (.bool false)] ++ oz 69, [], 2000⟩ ?_ ?_
  ·simp only [Tryz.f21, kq, e0, hR, hsi, go_sem];repeat refine sd2 ?_
   exact ⟨(), (so0 hF2)⟩
  refine vcu ⟨[some (.ptr m 0 0), some (.int .i64 si), some (.int .i64 which), some (.bool false), some (.bool false), none, none, none, none, none, none, some (.int .i64 at1)] ++ oz 62, [], 10000⟩ ?_ ?_
  ·simp only [Tryz.f21, kq, hR, hsi, hat, go_sem];repeat refine sd2 ?_
   exact ⟨(), (so0 hF2)⟩
  refine vcu ⟨[some (.ptr m 0 0), some (.int .i64 si), some (.int .i64 which), some (.bool false), some (.bool false), none, none, none, none, none, none, some (.int .i64 at1), some (.ptr ⟨L + 1, 10288⟩ 0 0)] ++ oz 61, [(⟨L + 1, 10288⟩, .rows 38 4 true true [(pR p)])], 20000⟩ ?_ ?_
  ·simp only [Tryz.f21, kq, ka, hR, hsi, ln, gr, go_sem];repeat refine sd2 ?_
   exact ⟨(), (so0 hF2)⟩
  refine vcu ⟨[some (.ptr m 0 0), some (.int .i64 si), some (.int .i64 which), some (.bool false), some (.bool false), none, none, none, none, none, none, some (.int .i64 at1), some (.ptr ⟨L + 1, 10288⟩ 0 0)] ++ oz 61, [(m, .rows 33 43 true false [R (.sl ⟨L + 1, 20736⟩ 0 (w.length - 1))]), (⟨L + 1, 20736⟩, .rows 38 4 true true ((w.eraseIdx at1).map Pkx.row)), (⟨L + 1, 10288⟩, .rows 38 4 true true [(pR p)])], 30000⟩ ?_ ?_
  ·simp only [Tryz.f21, kq, m1, ka, hR, hsi, a1, a3, ln, l1, l2, l3, tn, w1, er, Nat.sub_zero, Nat.add_assoc, go_sem];repeat refine sd2 ?_
   exact ⟨⟨by omega, by omega, by omega, .inl trivial⟩, ⟨by omega, by omega, by omega⟩, ⟨by omega, by omega⟩, zAF (fun x => if x = m then 1 else if x = a then 0 else x.i + 2) (by simp only [zCZ, List.map, m2, a2, d1, if_true, if_false]; kernel_rfl), (), (so0 hF2 (h2 := by simp [zAu, Tx.look, m1]) (h3 := by simp [zA0, keys, m1, m2]))⟩
  refine VT.of (zBp (L + 1)) ?_;simp only [Tryz.f21, m2, hR, hsi, go_sem];repeat refine sd2 ?_
  refine CallVC.same (hD _ _ (by simp [kb, c1, b1]) (by simp [hR])) ?_;simp only [hRE, m1, m2, b1, b2, c1, go_sem];repeat refine sd2 ?_
  refine .now (PostN.val [20736, 30192] (.inr rfl) (by simp) (p := True) (v0 := .bool true) ?_ trivial ?_ ?_ ⟨by omega, ?_, by omega, ?_, Nat.le_refl _, ?_, Nat.le_refl _, ?_, trivial⟩ ?_);·simp only [go_sem]
  ·simp [nmA]
  ·simp [Tx.rn]
  ·rw [zBm (hm0.imp id fun h => .inl h.2)];exact .ren (by simp [Tx.look]; rfl) (by simp [zBO, nmA, zCh, Dn]) (by simp [Tx.rn, Tx.rnL]; try simp [sg]; try rfl)
  ·exact zCW
  ·rw [zCM (by simp)];exact .pure (by simp [Tx.look, m2])
  ·rw [zNg (j := 1) (by simp)];exact .pure (by simp [Tx.look, m2, b2])
  ·simp [UpdAll, keys]
theorem zJm {F : SF} {L nx : Nat} (m : Nm) (hm0 : m.l < L ∨ (m.l = L ∧ m.i < nx)) (s : Bool) (k : Tk) (a : Nm) (haL : a.l ≤ L) (ham : a ≠ m) (z : List Pkx) (hFa : F a = some (.rows 38 4 true true (((k.w s) ++ z).map Pkx.row))) (which : Int) (at1 : Nat) (hat : which.tmod (k.w s).length = at1) (hlt : at1 < (k.w s).length) (hal : (k.w s).length ≤ 1000000) (p : Pkx) (hp : (k.w s)[at1]? = some p) (hsm : p.sm) (h : Gx) (o : List Pkx) (hst : zAa (k.g s) k.now 5 p = (h, o, 0)) (b : Nm) (hbL : b.l ≤ L) (hbm : b ≠ m) (hwl : (k.w !s).length ≤ 1000000) (hFb : F b = some (.rows 38 4 true true ((k.w !s).map Pkx.row))) (hF : F m = some (.rows 33 43 true false [k.rw s (.sl a 0 (k.w s).length) (.sl b 0 (k.w !s).length)])) :
  Con Tryz.prog 21 [.ptr m 0 0, .int .i64 (sI s), .int .i64 which, .bool true, .bool false] F L nx (nx + 1) (.bool true) [(m, .rows 33 43 true false [(k.ev s h (k.w s) o).rw s (.sl a 0 (k.w s).length) (.sl ⟨L, nx⟩ 0 ((k.w !s).length + o.length))]), (b, .dead), (⟨L, nx⟩, .rows 38 4 true true ((k.w (!s) ++ o).map Pkx.row))] [m, a, b] := by
 have hm : m.l ≤ L := by omega
 have m1 : ∀ k, (m = (⟨L + 1, k⟩ : Nm)) = False := zAG hm;have m2 : ∀ k, ((⟨L + 1, k⟩ : Nm) = m) = False := zAE hm;have a1 : ∀ k, (a = (⟨L + 1, k⟩ : Nm)) = False := zAG haL;have a2 : ∀ k, ((⟨L + 1, k⟩ : Nm) = a) = False := zAE haL;have a3 : ∀ k, ((⟨L + 1, k⟩ : Nm) == a) = false := fun k => by rw [beq_eq_false_iff_ne, ne_eq, a2 k]; exact not_false
 have d1 : (a = m) = False := eq_false ham;have d2 : (m = a) = False := eq_false (Ne.symm ham);have b1 : ∀ k, (b = (⟨L + 1, k⟩ : Nm)) = False := zAG (by omega);have b2 : ∀ k, ((⟨L + 1, k⟩ : Nm) = b) = False := zAE (by omega);have c1 : (b = m) = False := eq_false hbm;have c2 : (m = b) = False := eq_false (Ne.symm hbm);obtain ⟨w, hw⟩ : ∃ w, w = k.w s := ⟨_, rfl⟩;obtain ⟨RW, hRW⟩ : ∃ R, R = (w ++ z).map Pkx.row := ⟨_, rfl⟩;rw [← hw] at hFa hat hlt hal hp hF ⊢;have er := zGg w z hlt;have ln : RW.length = w.length + z.length := by rw [hRW]; simp
 have gr : RW.getD at1 [] = (pR p) := by
  rw [hRW, List.getD_eq_getElem?_getD, List.getElem?_map, List.getElem?_append_left hlt, hp]; rfl
 rw [← hRW] at er hFa;clear hRW;have l1 : (List.take at1 RW).length = at1 := by simp; omega
 have l2 : (List.take (w.length - (at1 + 1)) (List.drop (at1 + 1) RW)).length = w.length - (at1 + 1) := by simp; omega
 have l3 : at1 + (w.length - (at1 + 1)) = w.length - 1 := by omega
 have tn : ((at1 : Int) + 1).toNat = at1 + 1 := by omega
 have w1 : IntKind.i64.wrap ((at1 : Int) + 1) = (at1 : Int) + 1 := by simp [IntKind.wrap, IntKind.signed, IntKind.bits]; omega
 have e0 : ((w.length : Int) == 0) = false := by
  simp only [beq_eq_false_iff_ne, ne_eq]; omega
 obtain ⟨si, hsi⟩ : ∃ x, x = sI s := ⟨_, rfl⟩;obtain ⟨w2, hw2⟩ : ∃ w, w = k.w !s := ⟨_, rfl⟩;rw [← hw2] at hwl hFb hF ⊢;obtain ⟨R, hR⟩ : ∃ R : PV → List PV, R = fun v => k.rw s v (.sl b 0 w2.length) := ⟨_, rfl⟩
 have hR0 : ∀ v, k.rw s v (.sl b 0 w2.length) = R v := fun v => by rw [hR]
 have hD := fun (F : SF) (nx : Nat) (h1 : F b = some (.rows 38 4 true true (w2.map Pkx.row))) (h2 : F m = some (.rows 33 43 true false [R (.sl a 0 w.length)])) => zDL (F := F) (L := L + 1) (nx := nx) m (.inl (by omega)) s k 5 p hsm.1 hsm.2 (.sl a 0 w.length) (zER (by omega)) b (by omega) h o hst hbm (by rw [← hw2]; exact hwl) (by rw [← hw2]; exact h1) (by rw [← hw2, hR0]; exact h2)
 simp only [← hw2, ← hsi, ← hw] at hD;obtain ⟨RE, hRE⟩ : ∃ RE : PV → PV → List PV, RE = fun x y => (k.ev s h w o).rw s x y := ⟨_, rfl⟩
 have hRE0 : ∀ x y, (k.ev s h w o).rw s x y = RE x y := fun x y => by rw [hRE]
 simp only [hRE0] at hD ⊢;rw [hR0] at hF;rw [← hsi];cases s;all_goals
  simp only [sI, Tk.rw, Tk.ev, Tk.row] at hsi hR hRE;simp only [hsi] at hD;refine zTM (zBp (L + 1)) rfl rfl (fn := Tryz.f21) (c := Tryz.f21.body.getD .skip) (by kernel_rfl) (by rfl) (by kernel_rfl) rfl  (by simp; omega) ?_;intro F3 hF1 hF2;have kq := (hF1 m (by simp)).trans hF;have ka := (hF1 a (by simp)).trans hFa;have kb := (hF1 b (by simp)).trans hFb;refine vcu ⟨[some (.ptr m 0 0), some (.int .i64 si), some (.int .i64 which), some (.bool true), some (.bool false)] ++ oz 69, [], 1000⟩ ?_ ?_
  ·simp only [Tryz.f21, hsi, go_sem];repeat refine sd2 ?_
   exact ⟨(), (so0 hF2)⟩
  refine vcu ⟨[some (.ptr m 0 0), some (.int .i64 si), some (.int .i64 which), some (.bool true), some (.bool false)] ++ oz 69, [], 2000⟩ ?_ ?_
  ·simp only [Tryz.f21, kq, e0, hR, hsi, go_sem];repeat refine sd2 ?_
   exact ⟨(), (so0 hF2)⟩
  refine vcu ⟨[some (.ptr m 0 0), some (.int .i64 si), some (.int .i64 which), some (.bool true), some (.bool false), none, none, none, none, none, none, some (.int .i64 at1)] ++ oz 62, [], 10000⟩ ?_ ?_
  ·simp only [Tryz.f21, kq, hR, hsi, hat, go_sem];repeat refine sd2 ?_
   exact ⟨(), (so0 hF2)⟩
  refine vcu ⟨[some (.ptr m 0 0), some (.int .i64 si), some (.int .i64 which), some (.bool true), some (.bool false), none, none, none, none, none, none, some (.int .i64 at1), some (.ptr ⟨L + 1, 10288⟩ 0 0)] ++ oz 61, [(⟨L + 1, 10288⟩, .rows 38 4 true true [(pR p)])], 20000⟩ ?_ ?_
  ·simp only [Tryz.f21, kq, ka, hR, hsi, ln, gr, go_sem];repeat refine sd2 ?_
   exact ⟨(), (so0 hF2)⟩
  refine vcu ⟨[some (.ptr m 0 0), some (.int .i64 si), some (.int .i64 which), some (.bool true), some (.bool false), none, none, none, none, none, none, some (.int .i64 at1), some (.ptr ⟨L + 1, 10288⟩ 0 0)] ++ oz 61, [(⟨L + 1, 10288⟩, .rows 38 4 true true [(pR p)])], 30000⟩ ?_ ?_
  ·simp only [Tryz.f21, hsi, go_sem];repeat refine sd2 ?_
   exact ⟨(), (so0 hF2)⟩
  refine VT.of (zBp (L + 1)) ?_;simp only [Tryz.f21, hsi, go_sem];repeat refine sd2 ?_
  refine CallVC.same (hD _ _ (by simp [kb, b1]) (by simp [kq, m1, hR])) ?_;simp only [hRE, m1, m2, b1, b2, c1, go_sem];repeat refine sd2 ?_
  refine .now (PostN.val [30192] (.inr rfl) (by simp) (p := True) (v0 := .bool true) ?_ trivial ?_ ?_ ⟨by omega, ?_, by omega, ?_, Nat.le_refl _, ?_, trivial⟩ ?_);·simp only [go_sem]
  ·simp [nmA]
  ·simp [Tx.rn]
  ·rw [zBm (hm0.imp id fun h => .inl h.2)];exact .ren (by simp [Tx.look, m1]; rfl) (by simp [zBO, nmA, zCh, Dn, haL]) (by simp [Tx.rn, Tx.rnL, zDP haL]; try simp [sg]; try rfl)
  ·exact zCW
  ·rw [zCM (by simp)];exact .pure (by simp [Tx.look, m2, b2])
  ·simp [UpdAll, keys]
end Go.Proofs.YtifhjhbfhdcahaaGreat
end
