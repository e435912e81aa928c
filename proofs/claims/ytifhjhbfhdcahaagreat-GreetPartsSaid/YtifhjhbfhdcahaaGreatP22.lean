/- Lemmas for the walk: GK121, GK122. -/
import Derived.Test.YtifhjhbfhdcahaaGreatP20
import Derived.Test.YtifhjhbfhdcahaaGreatP21
set_option linter.all false
section
namespace Go.Proofs.YtifhjhbfhdcahaaGreat
open Go.Tx
set_option maxRecDepth 100000
set_option maxHeartbeats 16000000
theorem zLF {F : SF} {L nx : Nat} (m : Nm) (hm : m.l ≤ L) (s : Bool) (k : Tk) (which : Int) (kp lo : Bool) (a : Nm) (hFa : ∃ R, F a = some (.rows 38 4 true true R)) (vo : PV) (hF : F m = some (.rows 33 43 true false [k.rw s (.sl a 0 0) vo])) :
  Con Tryz.prog 21 [.ptr m 0 0, .int .i64 (sI s), .int .i64 which, .bool kp, .bool lo] F L nx nx (.bool true) [] [m] := by
 have m1 : ∀ k, (m = (⟨L + 1, k⟩ : Nm)) = False := zAG hm;have m2 : ∀ k, ((⟨L + 1, k⟩ : Nm) = m) = False := zAE hm;have e0 : (((0 : Nat) : Int) == 0) = true := rfl;have e1 : ((0 : Int) == 0) = true := rfl;cases s;all_goals
  simp only [sI, Tk.rw, Tk.row] at hF ⊢;refine zTk (zBp (L + 1)) rfl rfl (fn := Tryz.f21) (c := Tryz.f21.body.getD .skip) (by kernel_rfl) (by rfl) (by kernel_rfl) rfl  (by simp; omega) ?_;intro F3 hF1 hF2;have kq := (hF1 m (by simp)).trans hF;refine VT.of (zBp (L + 1)) ?_;simp only [Tryz.f21, kq, e0, go_sem];repeat refine sd2 ?_
  exact .bool (.inr rfl) rfl rfl (by simp [UpdAll])
theorem zJo {F : SF} {L nx : Nat} (m : Nm) (hm0 : m.l < L ∨ (m.l = L ∧ m.i < nx)) (s : Bool) (k : Tk) (a : Nm) (haL : a.l ≤ L) (ham : a ≠ m) (z : List Pkx) (hFa : F a = some (.rows 38 4 true true (((k.w s) ++ z).map Pkx.row))) (which : Int) (at1 : Nat) (hat : which.tmod (k.w s).length = at1) (hlt : at1 < (k.w s).length) (hal : (k.w s).length ≤ 1000000) (p : Pkx) (hp : (k.w s)[at1]? = some p) (vb : PV) (hvb : zO0 L vb) (hF : F m = some (.rows 33 43 true false [k.rw s (.sl a 0 (k.w s).length) vb])) :
  Con Tryz.prog 21 [.ptr m 0 0, .int .i64 (sI s), .int .i64 which, .bool false, .bool true] F L nx (nx + 1) (.bool true) [(m, .rows 33 43 true false [k.rw s (.sl ⟨L, nx⟩ 0 ((k.w s).length - 1)) vb]), (⟨L, nx⟩, .rows 38 4 true true (((k.w s).eraseIdx at1).map Pkx.row))] [m, a] := by
 have hm : m.l ≤ L := by omega
 have m1 : ∀ k, (m = (⟨L + 1, k⟩ : Nm)) = False := zAG hm;have m2 : ∀ k, ((⟨L + 1, k⟩ : Nm) = m) = False := zAE hm;have a1 : ∀ k, (a = (⟨L + 1, k⟩ : Nm)) = False := zAG haL;have a2 : ∀ k, ((⟨L + 1, k⟩ : Nm) = a) = False := zAE haL;have a3 : ∀ k, ((⟨L + 1, k⟩ : Nm) == a) = false := fun k => by rw [beq_eq_false_iff_ne, ne_eq, a2 k]; exact not_false
 have d1 : (a = m) = False := eq_false ham;have d2 : (m = a) = False := eq_false (Ne.symm ham);obtain ⟨w, hw⟩ : ∃ w, w = k.w s := ⟨_, rfl⟩;obtain ⟨RW, hRW⟩ : ∃ R, R = (w ++ z).map Pkx.row := ⟨_, rfl⟩;rw [← hw] at hFa hat hlt hal hp hF ⊢;have er := zGm w z hlt;have ln : RW.length = w.length + z.length := by rw [hRW]; simp
 have gr : RW.getD at1 [] = (pR p) := by
  rw [hRW, zH, zT, wD hlt, hp]; rfl
 rw [← hRW] at er hFa;clear hRW;have l1 : (List.take at1 RW).length = at1 := by simp; omega
 have l2 : (List.take (w.length - (at1 + 1)) (List.drop (at1 + 1) RW)).length = w.length - (at1 + 1) := by simp; omega
 have l3 : at1 + (w.length - (at1 + 1)) = w.length - 1 := by omega
 have tn : ((at1 : Int) + 1).toNat = at1 + 1 := by omega
 have w1 : IntKind.i64.wrap ((at1 : Int) + 1) = (at1 : Int) + 1 := by simp [IntKind.wrap, IntKind.signed, IntKind.bits]; omega
 have e0 : ((w.length : Int) == 0) = false := by
  simp only [beq_eq_false_iff_ne, ne_eq]; omega
 obtain ⟨si, hsi⟩ : ∃ x, x = sI s := ⟨_, rfl⟩;obtain ⟨R, hR⟩ : ∃ R : PV → List PV, R = fun v => k.rw s v vb := ⟨_, rfl⟩
 have hR0 : ∀ v, k.rw s v vb = R v := fun v => by rw [hR]
 rw [hR0] at hF;rw [hR0];rw [← hsi];cases s;all_goals
  simp only [sI, Tk.rw, Tk.row] at hsi hR;refine zTb (zBp (L + 1)) rfl rfl (fn := Tryz.f21) (c := Tryz.f21.body.getD .skip) (by kernel_rfl) (by rfl) (by kernel_rfl) rfl  (by simp; omega) ?_;intro F3 hF1 hF2;have kq := (hF1 m (by simp)).trans hF;have ka := (hF1 a (by simp)).trans hFa;refine vcu ⟨[some (.ptr m 0 0), some (.int .i64 si), some (.int .i64 which), some (.bool false), some (.bool true)] ++ oz 69, [], 1000⟩ ?_ ?_
  ·simp only [Tryz.f21, hR, hsi, go_sem];repeat refine sd2 ?_
   exact ⟨(), (so0 hF2)⟩
  refine vcu ⟨[some (.ptr m 0 0), some (.int .i64 si), some (.int .i64 which), some (.bool false), some (.bool true)] ++ oz 69, [], 2000⟩ ?_ ?_
  ·simp only [Tryz.f21, kq, e0, hR, hsi, go_sem];repeat refine sd2 ?_
   exact ⟨(), (so0 hF2)⟩
  refine vcu ⟨[some (.ptr m 0 0), some (.int .i64 si), some (.int .i64 which), some (.bool false), some (.bool true), none, none, none, none, none, none, some (.int .i64 at1)] ++ oz 62, [], 10000⟩ ?_ ?_
  ·simp only [Tryz.f21, kq, hR, hsi, hat, go_sem];repeat refine sd2 ?_
   exact ⟨(), (so0 hF2)⟩
  refine vcu ⟨[some (.ptr m 0 0), some (.int .i64 si), some (.int .i64 which), some (.bool false), some (.bool true), none, none, none, none, none, none, some (.int .i64 at1), some (.ptr ⟨L + 1, 10288⟩ 0 0)] ++ oz 61, [(⟨L + 1, 10288⟩, .rows 38 4 true true [(pR p)])], 20000⟩ ?_ ?_
  ·simp only [Tryz.f21, kq, ka, hR, hsi, ln, gr, go_sem];repeat refine sd2 ?_
   exact ⟨(), (so0 hF2)⟩
  refine vcu ⟨[some (.ptr m 0 0), some (.int .i64 si), some (.int .i64 which), some (.bool false), some (.bool true), none, none, none, none, none, none, some (.int .i64 at1), some (.ptr ⟨L + 1, 10288⟩ 0 0)] ++ oz 61, [(m, .rows 33 43 true false [R (.sl ⟨L + 1, 20736⟩ 0 (w.length - 1))]), (⟨L + 1, 20736⟩, .rows 38 4 true true ((w.eraseIdx at1).map Pkx.row)), (⟨L + 1, 10288⟩, .rows 38 4 true true [(pR p)])], 30000⟩ ?_ ?_
  ·simp only [Tryz.f21, kq, m1, ka, hR, hsi, a1, a3, ln, l1, l2, l3, tn, w1, er, vY, zE, go_sem];repeat refine sd2 ?_
   exact ⟨⟨by omega, by omega, by omega, .inl trivial⟩, ⟨by omega, by omega, by omega⟩, ⟨by omega, by omega⟩, zAF (fun x => if x = m then 1 else if x = a then 0 else x.i + 2) (by simp only [zCb, List.map, m2, a2, d1, if_true, if_false]; kernel_rfl), (), (so0 hF2 (h2 := by simp [zAv, Tx.look, m1]) (h3 := by simp [zA1, keys, m1, m2]))⟩
  refine VT.of (zBp (L + 1)) ?_;simp only [Tryz.f21, hR, hsi, go_sem];repeat refine sd2 ?_
  refine .now (PostN.val [20736] (.inr rfl) (by simp) (p := True) (v0 := .bool true) ?_ trivial ?_ ?_ ⟨by omega, ?_, zA _, ?_, trivial⟩ ?_);·simp only [go_sem]
  ·simp [nmA]
  ·simp [Tx.rn]
  ·rw [zBk (hm0.imp id fun h => .inl h.2)];exact .ren (by simp [Tx.look]; rfl) (by simp [zBN, nmA, zCj, Dn, (hvb nx [20736]).1]) (by simp [Tx.rn, Tx.rnL, (hvb nx [20736]).2]; try simp [sg]; try rfl)
  ·rw [zCO (by simp)];exact .pure (by simp [Tx.look, m2])
  ·simp [UpdAll, keys]
theorem zBY {F : SF} {L nx : Nat} (m : Nm) (hm0 : m.l < L ∨ (m.l = L ∧ m.i < nx)) (s : Bool) (k : Tk) (a : Nm) (haL : a.l ≤ L) (ham : a ≠ m) (z : List Pkx) (hFa : F a = some (.rows 38 4 true true (((k.w s) ++ z).map Pkx.row))) (which : Int) (at1 : Nat) (hat : which.tmod (k.w s).length = at1) (hlt : at1 < (k.w s).length) (hal : (k.w s).length ≤ 1000000) (p : Pkx) (hp : (k.w s)[at1]? = some p) (hsm : p.sm) (h : Gx) (o : List Pkx) (hst : zAY (k.g s) k.now 5 p = (h, o, 0)) (b : Nm) (hbL : b.l ≤ L) (hbm : b ≠ m) (hwl : (k.w !s).length ≤ 1000000) (hFb : F b = some (.rows 38 4 true true ((k.w !s).map Pkx.row))) (hF : F m = some (.rows 33 43 true false [k.rw s (.sl a 0 (k.w s).length) (.sl b 0 (k.w !s).length)])) :
  Con Tryz.prog 21 [.ptr m 0 0, .int .i64 (sI s), .int .i64 which, .bool false, .bool false] F L nx (nx + 2) (.bool true) [(m, .rows 33 43 true false [(k.ev s h (k.w s) o).rw s (.sl ⟨L, nx⟩ 0 ((k.w s).length - 1)) (.sl ⟨L, nx + 1⟩ 0 ((k.w !s).length + o.length))]), (b, .dead), (⟨L, nx⟩, .rows 38 4 true true (((k.w s).eraseIdx at1).map Pkx.row)), (⟨L, nx + 1⟩, .rows 38 4 true true ((k.w (!s) ++ o).map Pkx.row))] [m, a, b] := by
 have hm : m.l ≤ L := by omega
 have m1 : ∀ k, (m = (⟨L + 1, k⟩ : Nm)) = False := zAG hm;have m2 : ∀ k, ((⟨L + 1, k⟩ : Nm) = m) = False := zAE hm;have a1 : ∀ k, (a = (⟨L + 1, k⟩ : Nm)) = False := zAG haL;have a2 : ∀ k, ((⟨L + 1, k⟩ : Nm) = a) = False := zAE haL;have a3 : ∀ k, ((⟨L + 1, k⟩ : Nm) == a) = false := fun k => by rw [beq_eq_false_iff_ne, ne_eq, a2 k]; exact not_false
 have d1 : (a = m) = False := eq_false ham;have d2 : (m = a) = False := eq_false (Ne.symm ham);have b1 : ∀ k, (b = (⟨L + 1, k⟩ : Nm)) = False := zAG (by omega);have b2 : ∀ k, ((⟨L + 1, k⟩ : Nm) = b) = False := zAE (by omega);have c1 : (b = m) = False := eq_false hbm;have c2 : (m = b) = False := eq_false (Ne.symm hbm);obtain ⟨w, hw⟩ : ∃ w, w = k.w s := ⟨_, rfl⟩;obtain ⟨RW, hRW⟩ : ∃ R, R = (w ++ z).map Pkx.row := ⟨_, rfl⟩;rw [← hw] at hFa hat hlt hal hp hF ⊢;have er := zGm w z hlt;have ln : RW.length = w.length + z.length := by rw [hRW]; simp
 have gr : RW.getD at1 [] = (pR p) := by
  rw [hRW, zH, zT, wD hlt, hp]; rfl
 rw [← hRW] at er hFa;clear hRW;have l1 : (List.take at1 RW).length = at1 := by simp; omega
 have l2 : (List.take (w.length - (at1 + 1)) (List.drop (at1 + 1) RW)).length = w.length - (at1 + 1) := by simp; omega
 have l3 : at1 + (w.length - (at1 + 1)) = w.length - 1 := by omega
 have tn : ((at1 : Int) + 1).toNat = at1 + 1 := by omega
 have w1 : IntKind.i64.wrap ((at1 : Int) + 1) = (at1 : Int) + 1 := by simp [IntKind.wrap, IntKind.signed, IntKind.bits]; omega
 have e0 : ((w.length : Int) == 0) = false := by
  simp only [beq_eq_false_iff_ne, ne_eq]; omega
 obtain ⟨si, hsi⟩ : ∃ x, x = sI s := ⟨_, rfl⟩;obtain ⟨w2, hw2⟩ : ∃ w, w = k.w !s := ⟨_, rfl⟩;rw [← hw2] at hwl hFb hF ⊢;obtain ⟨R, hR⟩ : ∃ R : PV → List PV, R = fun v => k.rw s v (.sl b 0 w2.length) := ⟨_, rfl⟩
 have hR0 : ∀ v, k.rw s v (.sl b 0 w2.length) = R v := fun v => by rw [hR]
 have hD := fun (F : SF) (nx : Nat) (h1 : F b = some (.rows 38 4 true true (w2.map Pkx.row))) (h2 : F m = some (.rows 33 43 true false [R (.sl ⟨L + 1, 20736⟩ 0 (w.length - 1))])) => zCC (F := F) (L := L + 1) (nx := nx) m (.inl (by omega)) s k 5 p hsm.1 hsm.2 (.sl ⟨L + 1, 20736⟩ 0 (w.length - 1)) (zDN (zA _)) b (by omega) h o hst hbm (by rw [← hw2]; exact hwl) (by rw [← hw2]; exact h1) (by rw [← hw2, hR0]; exact h2)
 simp only [← hw2, ← hsi, ← hw] at hD;obtain ⟨RE, hRE⟩ : ∃ RE : PV → PV → List PV, RE = fun x y => (k.ev s h w o).rw s x y := ⟨_, rfl⟩
 have hRE0 : ∀ x y, (k.ev s h w o).rw s x y = RE x y := fun x y => by rw [hRE]
 simp only [hRE0] at hD ⊢;rw [hR0] at hF;rw [← hsi];cases s;all_goals
  simp only [sI, Tk.rw, Tk.ev, Tk.row] at hsi hR hRE;simp only [hsi] at hD;refine zTb (zBp (L + 1)) rfl rfl (fn := Tryz.f21) (c := Tryz.f21.body.getD .skip) (by kernel_rfl) (by rfl) (by kernel_rfl) rfl  (by simp; omega) ?_;intro F3 hF1 hF2;have kq := (hF1 m (by simp)).trans hF;have ka := (hF1 a (by simp)).trans hFa;have kb := (hF1 b (by simp)).trans hFb;refine vcu ⟨[some (.ptr m 0 0), some (.int .i64 si), some (.int .i64 which), some (.bool false), some (.bool false)] ++ oz 69, [], 1000⟩ ?_ ?_
  ·simp only [Tryz.f21, hsi, go_sem];repeat refine sd2 ?_
   exact ⟨(), (so0 hF2)⟩
  refine vcu ⟨[some (.ptr m 0 0), some (.int .i64 si), some (.int .i64 which), some (.bool false), some (.bool false)] ++ oz 69, [], 2000⟩ ?_ ?_
  ·simp only [Tryz.f21, kq, e0, hR, hsi, go_sem];repeat refine sd2 ?_
   exact ⟨(), (so0 hF2)⟩
  refine vcu ⟨[some (.ptr m 0 0), some (.int .i64 si), some (.int .i64 which), some (.bool false), some (.bool false), none, none, none, none, none, none, some (.int .i64 at1)] ++ oz 62, [], 10000⟩ ?_ ?_
  ·simp only [Tryz.f21, kq, hR, hsi, hat, go_sem];repeat refine sd2 ?_
   exact ⟨(), (so0 hF2)⟩
  refine vcu ⟨[some (.ptr m 0 0), some (.int .i64 si), some (.int .i64 which), some (.bool false), some (.bool false), none, none, none, none, none, none, some (.int .i64 at1), some (.ptr ⟨L + 1, 10288⟩ 0 0)] ++ oz 61, [(⟨L + 1, 10288⟩, .rows 38 4 true true [(pR p)])], 20000⟩ ?_ ?_
  ·simp only [Tryz.f21, kq, ka, hR, hsi, ln, gr, go_sem];repeat refine sd2 ?_
   exact ⟨(), (so0 hF2)⟩
  refine vcu ⟨[some (.ptr m 0 0), some (.int .i64 si), some (.int .i64 which), some (.bool false), some (.bool false), none, none, none, none, none, none, some (.int .i64 at1), some (.ptr ⟨L + 1, 10288⟩ 0 0)] ++ oz 61, [(m, .rows 33 43 true false [R (.sl ⟨L + 1, 20736⟩ 0 (w.length - 1))]), (⟨L + 1, 20736⟩, .rows 38 4 true true ((w.eraseIdx at1).map Pkx.row)), (⟨L + 1, 10288⟩, .rows 38 4 true true [(pR p)])], 30000⟩ ?_ ?_
  ·simp only [Tryz.f21, kq, m1, ka, hR, hsi, a1, a3, ln, l1, l2, l3, tn, w1, er, vY, zE, go_sem];repeat refine sd2 ?_
   exact ⟨⟨by omega, by omega, by omega, .inl trivial⟩, ⟨by omega, by omega, by omega⟩, ⟨by omega, by omega⟩, zAF (fun x => if x = m then 1 else if x = a then 0 else x.i + 2) (by simp only [zCb, List.map, m2, a2, d1, if_true, if_false]; kernel_rfl), (), (so0 hF2 (h2 := by simp [zAv, Tx.look, m1]) (h3 := by simp [zA1, keys, m1, m2]))⟩
  refine VT.of (zBp (L + 1)) ?_;simp only [Tryz.f21, m2, hR, hsi, go_sem];repeat refine sd2 ?_
  refine CallVC.same (hD _ _ (by simp [kb, c1, b1]) (by simp [hR])) ?_;simp only [hRE, m1, m2, b1, b2, c1, go_sem];repeat refine sd2 ?_
  refine .now (PostN.val [20736, 30192] (.inr rfl) (by simp) (p := True) (v0 := .bool true) ?_ trivial ?_ ?_ ⟨by omega, ?_, by omega, ?_, zA _, ?_, zA _, ?_, trivial⟩ ?_);·simp only [go_sem]
  ·simp [nmA]
  ·simp [Tx.rn]
  ·rw [zBk (hm0.imp id fun h => .inl h.2)];exact .ren (by simp [Tx.look]; rfl) (by simp [zBN, nmA, zCj, Dn]) (by simp [Tx.rn, Tx.rnL]; try simp [sg]; try rfl)
  ·exact zCY
  ·rw [zCO (by simp)];exact .pure (by simp [Tx.look, m2])
  ·rw [zNn (j := 1) (by simp)];exact .pure (by simp [Tx.look, m2, b2])
  ·simp [UpdAll, keys]
theorem zJp {F : SF} {L nx : Nat} (m : Nm) (hm0 : m.l < L ∨ (m.l = L ∧ m.i < nx)) (s : Bool) (k : Tk) (a : Nm) (haL : a.l ≤ L) (ham : a ≠ m) (z : List Pkx) (hFa : F a = some (.rows 38 4 true true (((k.w s) ++ z).map Pkx.row))) (which : Int) (at1 : Nat) (hat : which.tmod (k.w s).length = at1) (hlt : at1 < (k.w s).length) (hal : (k.w s).length ≤ 1000000) (p : Pkx) (hp : (k.w s)[at1]? = some p) (hsm : p.sm) (h : Gx) (o : List Pkx) (hst : zAY (k.g s) k.now 5 p = (h, o, 0)) (b : Nm) (hbL : b.l ≤ L) (hbm : b ≠ m) (hwl : (k.w !s).length ≤ 1000000) (hFb : F b = some (.rows 38 4 true true ((k.w !s).map Pkx.row))) (hF : F m = some (.rows 33 43 true false [k.rw s (.sl a 0 (k.w s).length) (.sl b 0 (k.w !s).length)])) :
  Con Tryz.prog 21 [.ptr m 0 0, .int .i64 (sI s), .int .i64 which, .bool true, .bool false] F L nx (nx + 1) (.bool true) [(m, .rows 33 43 true false [(k.ev s h (k.w s) o).rw s (.sl a 0 (k.w s).length) (.sl ⟨L, nx⟩ 0 ((k.w !s).length + o.length))]), (b, .dead), (⟨L, nx⟩, .rows 38 4 true true ((k.w (!s) ++ o).map Pkx.row))] [m, a, b] := by
 have hm : m.l ≤ L := by omega
 have m1 : ∀ k, (m = (⟨L + 1, k⟩ : Nm)) = False := zAG hm;have m2 : ∀ k, ((⟨L + 1, k⟩ : Nm) = m) = False := zAE hm;have a1 : ∀ k, (a = (⟨L + 1, k⟩ : Nm)) = False := zAG haL;have a2 : ∀ k, ((⟨L + 1, k⟩ : Nm) = a) = False := zAE haL;have a3 : ∀ k, ((⟨L + 1, k⟩ : Nm) == a) = false := fun k => by rw [beq_eq_false_iff_ne, ne_eq, a2 k]; exact not_false
 have d1 : (a = m) = False := eq_false ham;have d2 : (m = a) = False := eq_false (Ne.symm ham);have b1 : ∀ k, (b = (⟨L + 1, k⟩ : Nm)) = False := zAG (by omega);have b2 : ∀ k, ((⟨L + 1, k⟩ : Nm) = b) = False := zAE (by omega);have c1 : (b = m) = False := eq_false hbm;have c2 : (m = b) = False := eq_false (Ne.symm hbm);obtain ⟨w, hw⟩ : ∃ w, w = k.w s := ⟨_, rfl⟩;obtain ⟨RW, hRW⟩ : ∃ R, R = (w ++ z).map Pkx.row := ⟨_, rfl⟩;rw [← hw] at hFa hat hlt hal hp hF ⊢;have er := zGm w z hlt;have ln : RW.length = w.length + z.length := by rw [hRW]; simp
 have gr : RW.getD at1 [] = (pR p) := by
  rw [hRW, zH, zT, wD hlt, hp]; rfl
 rw [← hRW] at er hFa;clear hRW;have l1 : (List.take at1 RW).length = at1 := by simp; omega
 have l2 : (List.take (w.length - (at1 + 1)) (List.drop (at1 + 1) RW)).length = w.length - (at1 + 1) := by simp; omega
 have l3 : at1 + (w.length - (at1 + 1)) = w.length - 1 := by omega
 have tn : ((at1 : Int) + 1).toNat = at1 + 1 := by omega
 have w1 : IntKind.i64.wrap ((at1 : Int) + 1) = (at1 : Int) + 1 := by simp [IntKind.wrap, IntKind.signed, IntKind.bits]; omega
 have e0 : ((w.length : Int) == 0) = false := by
  simp only [beq_eq_false_iff_ne, ne_eq]; omega
 obtain ⟨si, hsi⟩ : ∃ x, x = sI s := ⟨_, rfl⟩;obtain ⟨w2, hw2⟩ : ∃ w, w = k.w !s := ⟨_, rfl⟩;rw [← hw2] at hwl hFb hF ⊢;obtain ⟨R, hR⟩ : ∃ R : PV → List PV, R = fun v => k.rw s v (.sl b 0 w2.length) := ⟨_, rfl⟩
 have hR0 : ∀ v, k.rw s v (.sl b 0 w2.length) = R v := fun v => by rw [hR]
 have hD := fun (F : SF) (nx : Nat) (h1 : F b = some (.rows 38 4 true true (w2.map Pkx.row))) (h2 : F m = some (.rows 33 43 true false [R (.sl a 0 w.length)])) => zCC (F := F) (L := L + 1) (nx := nx) m (.inl (by omega)) s k 5 p hsm.1 hsm.2 (.sl a 0 w.length) (zDN (by omega)) b (by omega) h o hst hbm (by rw [← hw2]; exact hwl) (by rw [← hw2]; exact h1) (by rw [← hw2, hR0]; exact h2)
 simp only [← hw2, ← hsi, ← hw] at hD;obtain ⟨RE, hRE⟩ : ∃ RE : PV → PV → List PV, RE = fun x y => (k.ev s h w o).rw s x y := ⟨_, rfl⟩
 have hRE0 : ∀ x y, (k.ev s h w o).rw s x y = RE x y := fun x y => by rw [hRE]
 simp only [hRE0] at hD ⊢;rw [hR0] at hF;rw [← hsi];cases s;all_goals
  simp only [sI, Tk.rw, Tk.ev, Tk.row] at hsi hR hRE;simp only [hsi] at hD;refine zTb (zBp (L + 1)) rfl rfl (fn := Tryz.f21) (c := Tryz.f21.body.getD .skip) (by kernel_rfl) (by rfl) (by kernel_rfl) rfl  (by simp; omega) ?_;intro F3 hF1 hF2;have kq := (hF1 m (by simp)).trans hF;have ka := (hF1 a (by simp)).trans hFa;have kb := (hF1 b (by simp)).trans hFb;refine vcu ⟨[some (.ptr m 0 0), some (.int .i64 si), some (.int .i64 which), some (.bool true), some (.bool false)] ++ oz 69, [], 1000⟩ ?_ ?_
  ·simp only [Tryz.f21, hsi, go_sem];repeat refine sd2 ?_
   exact ⟨(), (so0 hF2)⟩
  refine vcu ⟨[some (.ptr m 0 0), some (.int .i64 si), some (.int .i64 which), some (.bool true), some (.bool false)] ++ oz 69, [], 2000⟩ ?_ ?_
  ·simp only [Tryz.f21, kq, e0, hR, hsi, go_sem];repeat refine sd2 ?_
   exact ⟨(), (so0 hF2)⟩
  refine vcu ⟨[some (.ptr m 0 0), some (.int .i64 si), some (.int .i64 which), some (.bool true), some (.bool false), none, none, none, none, none, none, some (.int .i64 at1)] ++ oz 62, [], 10000⟩ ?_ ?_
  ·simp only [Tryz.f21, kq, hR, hsi, hat, go_sem];repeat refine sd2 ?_
   exact ⟨(), (so0 hF2)⟩
  refine vcu ⟨[some (.ptr m 0 0), some (.int .i64 si), some (.int .i64 which), some (.bool true), some (.bool false), none, none, none, none, none, none, some (.int .i64 at1), some (.ptr ⟨L + 1, 10288⟩ 0 0)] ++ oz 61, [(⟨L + 1, 10288⟩, .rows 38 4 true true [(pR p)])], 20000⟩ ?_ ?_
  ·simp only [Tryz.f21, kq, ka, hR, hsi, ln, gr, go_sem];repeat refine sd2 ?_
   exact ⟨(), (so0 hF2)⟩
  refine vcu ⟨[some (.ptr m 0 0), some (.int .i64 si), some (.int .i64 which), some (.bool true), some (.bool false), none, none, none, none, none, none, some (.int .i64 at1), some (.ptr ⟨L + 1, 10288⟩ 0 0)] ++ oz 61, [(⟨L + 1, 10288⟩, .rows 38 4 true true [(pR p)])], 30000⟩ ?_ ?_
  ·simp only [Tryz.f21, hsi, go_sem];repeat refine sd2 ?_
   exact ⟨(), (so0 hF2)⟩
  refine VT.of (zBp (L + 1)) ?_;simp only [Tryz.f21, hsi, go_sem];repeat refine sd2 ?_
  refine CallVC.same (hD _ _ (by simp [kb, b1]) (by simp [kq, m1, hR])) ?_;simp only [hRE, m1, m2, b1, b2, c1, go_sem];repeat refine sd2 ?_
  refine .now (PostN.val [30192] (.inr rfl) (by simp) (p := True) (v0 := .bool true) ?_ trivial ?_ ?_ ⟨by omega, ?_, by omega, ?_, zA _, ?_, trivial⟩ ?_);·simp only [go_sem]
  ·simp [nmA]
  ·simp [Tx.rn]
  ·rw [zBk (hm0.imp id fun h => .inl h.2)];exact .ren (by simp [Tx.look, m1]; rfl) (by simp [zBN, nmA, zCj, Dn, haL]) (by simp [Tx.rn, Tx.rnL, zDR haL]; try simp [sg]; try rfl)
  ·exact zCY
  ·rw [zCO (by simp)];exact .pure (by simp [Tx.look, m2, b2])
  ·simp [UpdAll, keys]
structure TlI where
 i : Nat
 q0 : Nat
 q1 : Nat
 k : Tk
 w : Nat
theorem zGq {F : SF} {L nx : Nat} (m : Nm) (hm0 : m.l < L ∨ (m.l = L ∧ m.i < nx)) (k k' : Tk) (hrun : qR 200 k = some k') (hwy : Wy k 500) (b : Nm) (hbL : b.l ≤ L) (hbm : b ≠ m) (hFb : F b = some (.rows 38 4 true true (k.w1.map Pkx.row))) (a : Nm) (haL : a.l ≤ L) (ham : a ≠ m) (hab : a ≠ b) (hFa : F a = some (.rows 38 4 true true (k.w0.map Pkx.row))) (hF : F m = some (.rows 33 43 true false [k.row (.sl a 0 k.w0.length) (.sl b 0 k.w1.length)])) :
  Con Tryz.prog 14 [.ptr m 0 0] F L nx (nx + 2) (.bool true) [(m, .rows 33 43 true false [k'.row (.sl ⟨L, nx⟩ 0 k'.w0.length) (.sl ⟨L, nx + 1⟩ 0 k'.w1.length)]), (a, .dead), (b, .dead), (⟨L, nx⟩, .rows 38 4 true true (k'.w0.map Pkx.row)), (⟨L, nx + 1⟩, .rows 38 4 true true (k'.w1.map Pkx.row))] [m, b, a] := by
 have hm : m.l ≤ L := by omega
 have m1 : ∀ k, (m = (⟨L + 1, k⟩ : Nm)) = False := zAG hm;have m2 : ∀ k, ((⟨L + 1, k⟩ : Nm) = m) = False := zAE hm;have b1 : ∀ k, (b = (⟨L + 1, k⟩ : Nm)) = False := zAG hbL;have b2 : ∀ k, ((⟨L + 1, k⟩ : Nm) = b) = False := zAE hbL;have c1 : (b = m) = False := eq_false hbm;have c2 : (m = b) = False := eq_false (Ne.symm hbm);have a1 : ∀ k, (a = (⟨L + 1, k⟩ : Nm)) = False := zAG haL;have a2 : ∀ k, ((⟨L + 1, k⟩ : Nm) = a) = False := zAE haL;have d1 : (a = m) = False := eq_false ham;have d2 : (m = a) = False := eq_false (Ne.symm ham);have d3 : (a = b) = False := eq_false hab;have d4 : (b = a) = False := eq_false (Ne.symm hab);simp only [Tk.row];refine zTb (zBp (L + 1)) rfl rfl (fn := Tryz.f14) (c := Tryz.f14.body.getD .skip) (by kernel_rfl) (by rfl) (by kernel_rfl) rfl  (by simp; omega) ?_;intro F3 hF1 hF2;have kq := (hF1 m (by simp)).trans hF;have kb := (hF1 b (by simp)).trans hFb;have ka := (hF1 a (by simp)).trans hFa;refine VT.sub (zTq (L := L + 1) b m (e := 33) (wd := 43) (o := true) (p := false) (row := k.row (.sl a 0 k.w0.length) (.sl b 0 k.w1.length)) (row1 := k.row (.sl a 0 k.w0.length) (.sl ⟨L + 1, 0⟩ 0 k.w1.length)) (by simpa [Tx.look] using kb) (by simpa [Tx.look] using kq) (by simp [c2]) (by simp [m1]) rfl (fun c => (zGp k _ _ _ c).imp id fun ⟨u, v⟩ => ⟨0, _, u, v⟩)) ?_
 refine VT.sub (zTq (L := L + 1) a m (e := 33) (wd := 43) (o := true) (p := false) (row := k.row (.sl a 0 k.w0.length) (.sl ⟨L + 1, 0⟩ 0 k.w1.length)) (row1 := k.row (.sl ⟨L + 1, 1⟩ 0 k.w0.length) (.sl ⟨L + 1, 0⟩ 0 k.w1.length)) (by simpa [Tx.look, zAs, setH, m1, m2, b1, b2, c1, c2, a1, a2, d1, d2, d3, d4] using ka) (by simp [Tx.look, zAs, setH, m1, b2, c2]) (by simp [d2]) (by simp [m1]) rfl (fun c => (zGo k _ _ _ c).imp id fun ⟨u, v⟩ => ⟨0, _, u, v⟩)) ?_;refine vcu ⟨[some (.ptr m 0 0), none, some (.bool false)] ++ oz 77, [(m, .rows 33 43 true false [(gR k.g0 (gR k.g1 [.sl ⟨L + 1, 1⟩ 0 k.w0.length, .sl ⟨L + 1, 0⟩ 0 k.w1.length, .int .i64 k.now]))]), (a, .dead), (b, .dead), (⟨L + 1, 1⟩, .rows 38 4 true true (k.w0.map Pkx.row)), (⟨L + 1, 0⟩, .rows 38 4 true true (k.w1.map Pkx.row))], 1000⟩ ?_ ?_
 ·simp only [Tryz.f14, m1, m2, b2, c2, a1, a2, d1, d2, d3, Tk.row, go_sem];repeat refine sd2 ?_
  refine ⟨(), (so0 hF2 (h2 := by simp [zAv, Tx.look, m1, m2, b2, c2, a1, a2, d1, d3]) (h3 := by simp [zA1, keys, m1, m2, b1, b2, c1, c2, a1, a2, d1, d2, d3, d4]))⟩
 refine VT.of (zBp (L + 1)) ?_;simp only [Tryz.f14, go_sem];repeat refine sd2 ?_
 refine loopK.intro _ _ (I := fun x : TlI => ⟨[some (.ptr m 0 0), none, some (.bool false), some (.int .i64 x.i)] ++ oz 76, [(m, .rows 33 43 true false [(gR x.k.g0 (gR x.k.g1 [.sl ⟨L + 1, x.q0⟩ 0 x.k.w0.length, .sl ⟨L + 1, x.q1⟩ 0 x.k.w1.length, .int .i64 x.k.now]))]), (a, .dead), (b, .dead), (⟨L + 1, x.q0⟩, .rows 38 4 true true (x.k.w0.map Pkx.row)), (⟨L + 1, x.q1⟩, .rows 38 4 true true (x.k.w1.map Pkx.row))], 20000 + 10000 * x.i⟩) (pre := fun x => x.q0 ≠ x.q1 ∧ x.q0 < 20000 + 10000 * x.i ∧ x.q1 < 20000 + 10000 * x.i ∧ x.i ≤ 200 ∧ qR (200 - x.i) x.k = some k' ∧ Wy x.k (500 + x.i)) (μ := fun x => 200 - x.i) ⟨0, 1, 0, k, 0⟩ ⟨by simp, by simp, by simp, by simp, hrun, hwy⟩ ((so0 hF2 (h2 := by simp [zAv, Tx.look, m2, b2, c1, a2, d1, d4]) (h3 := by simp [zA1, keys, m1, m2, b1, b2, c1, c2, a1, a2, d1, d2, d3, d4]))) ?_
 rintro ⟨i, q0, q1, ⟨g0, g1, w0, w1, now⟩, w⟩ ⟨hq, hq0, hq1, hi200, hrun, hwy⟩
 simp only at hq hq0 hq1 hi200 hrun hwy ⊢;obtain ⟨f, hf⟩ : ∃ f, 200 - i = f + 1 := by
  rcases Nat.eq_zero_or_pos (200 - i) with h | h;·rw [h] at hrun; cases hrun
  ·exact ⟨200 - i - 1, by omega⟩
 have h1 : decide ((i : Int) < 200) = true := dT (by omega);have u0 : (q0 = q1) = False := eq_false hq;have u1 : (q1 = q0) = False := eq_false (Ne.symm hq);have v01 : (q0 == q1) = false := by simp [hq]
 have xq0 : ∀ c, (20000 + (10000 * i + c) = q0) = False := fun c => eq_false (by omega)
 have xq1 : ∀ c, (20000 + (10000 * i + c) = q1) = False := fun c => eq_false (by omega)
 have sq0 : ∀ c, (q0 = 20000 + (10000 * i + c)) = False := fun c => eq_false (by omega)
 have sq1 : ∀ c, (q1 = 20000 + (10000 * i + c)) = False := fun c => eq_false (by omega)
 have nt : (!true) = false := rfl;rw [hf, zDk] at hrun;by_cases hE : zLB ⟨g0, g1, w0, w1, now⟩
 ·rw [if_pos hE] at hrun;obtain ⟨rfl⟩ : (⟨g0, g1, w0, w1, now⟩ : Tk) = k' := Option.some.inj hrun;obtain ⟨z0, z1, z2, z3⟩ := hE;simp only at z0 z1 z2 z3;have e0 : decide ((w0.length : Int) > 0) = false := dF (by rw [z0]; simp);have e1 : decide ((w1.length : Int) > 0) = false := dF (by rw [z1]; simp);have e2 : decide (g0.due ≥ 0) = false := dF (by omega);have e3 : decide (g1.due ≥ 0) = false := dF (by omega);clear z0 z1 z2 z3 hrun hwy;simp only [h1, e0, e1, e2, e3, m1, c2, d2, zE, go_sem];repeat refine sd2 ?_
  refine .now (PostN.val [q0, q1] (.inr rfl) (by simp [u0]) (p := True) (v0 := .bool true) ?_ trivial ?_ ?_ ⟨by omega, ?_, by omega, ?_, by omega, ?_, zA _, ?_, zA _, ?_, trivial⟩ ?_);·simp only [go_sem]
  ·simp [nmA]
  ·simp [Tx.rn]
  ·rw [zBk (hm0.imp id fun h => .inl h.2)];exact .ren (by simp [Tx.look]; rfl) (by simp [zBN, nmA, zCj, Dn]) (by simp [Tx.rn, Tx.rnL]; try simp [sg, List.idxOf_cons, v01]; try rfl)
  ·exact zCY
  ·exact zCY
  ·rw [zCO (by simp)];exact .pure (by simp [Tx.look, m2, b2, a2])
  ·rw [zNn (j := 1) (by simp)];exact .pure (by simp [Tx.look, m2, b2, a2, u1])
  ·simp [UpdAll, keys]
 rw [if_neg hE] at hrun;obtain ⟨k1, hS, hR⟩ : ∃ k1, qS ⟨g0, g1, w0, w1, now⟩ = some k1 ∧ qR f k1 = some k' := by
  cases hS : qS ⟨g0, g1, w0, w1, now⟩ with
  | none => rw [hS] at hrun; cases hrun
  | some k1 => rw [hS] at hrun; exact ⟨k1, rfl, hrun⟩
 have hf2 : f = 200 - (i + 1) := by omega
 have wl0 : w0.length ≤ 700 := by have h := hwy.1; simp only at h; omega
 have wl1 : w1.length ≤ 700 := by have h := hwy.2.1; simp only at h; omega
 have ml0 : (w0.map Pkx.row).length = w0.length := zL ..;have ml1 : (w1.map Pkx.row).length = w1.length := zL ..;clear hrun;rcases zOa hS with ⟨p, l, g, o, hl, hst, rfl⟩ | ⟨z0, p, l, g, o, hl, hst, rfl⟩ | ⟨z0, z1, hd, g, o, hst, rfl⟩ | ⟨z0, z1, hd, g, o, hst, rfl⟩
 ·simp only at hst hl;have e0 : decide ((w0.length : Int) > 0) = true := dT (by rw [hl]; simp);have ho := zHV hst;have hw2 := hwy.ev (s := false) (g := g) (v := l) (o := o) (by intro x hx; show x ∈ w0; rw [hl]; exact uR _ hx) (by show l.length ≤ w0.length; rw [hl]; simp) ho;have hsm : p.sm := (hwy.w false).2 p (by show p ∈ w0; rw [hl]; exact vI ..);have hlt : 0 < w0.length := by rw [hl]; simp
  have hp : w0[0]? = some p := by rw [hl]; rfl
  have her : w0.eraseIdx 0 = l := by rw [hl]; rfl
  have hln : w0.length - 1 = l.length := by rw [hl]; simp
  clear hwy ho;simp only [h1, e0, m1, c2, d2, zE, go_sem];repeat refine sd2 ?_
  refine CallVC.same (zBY (L := L + 1) m (.inl (by omega)) false ⟨g0, g1, w0, w1, now⟩ ⟨L + 1, q0⟩ (zA _) (by simp [m2]) [] (by simp [Tk.w, m2, b2, a2]) 0 0 (by simp) hlt (by simp only [Tk.w]; omega) p hp hsm g o hst ⟨L + 1, q1⟩ (zA _) (by simp [m2]) (by simp only [Tk.w, wB]; omega) (by simp [Tk.w, m2, b2, a2, u1]) (by simp [Tk.rw, Tk.row, Tk.w])) ?_;simp only [Tk.ev, Tk.rw, Tk.w, wB, Tk.row, zC, nt, her, hln, u1, xq0, xq1, m1, m2, b2, c2, a2, d2, kS3, zE, go_sem];repeat refine sd2 ?_
  refine ⟨⟨i + 1, 20000 + (10000 * i + 320), 20000 + (10000 * i + 321), Tk.ev ⟨g0, g1, w0, w1, now⟩ false g l o, 0⟩, ⟨by simp only []; omega, by simp only []; omega, by simp only []; omega, by simp only []; omega, by rw [← hf2]; exact hR, hw2⟩, by simp only []; omega, ?_⟩;exact (so0 hF2 (h1 := by (simp only [go_sem, zA2, wM]; try trivial)) (h2 := by simp [zAv, Tx.look, m2, b2, c1, a2, d1, d4, Tk.ev, xq0, xq1, zQ]) (h3 := by simp [zA1, keys, m1, m2, b1, b2, c1, c2, a1, a2, d1, d2, d3, d4]) (h4 := by simp only []; omega))
 ·simp only at hst hl;simp only at z0;have e0 : decide ((w0.length : Int) > 0) = false := dF (by rw [z0]; simp);have e1 : decide ((w1.length : Int) > 0) = true := dT (by rw [hl]; simp);have ho := zHV hst;have hw2 := hwy.ev (s := true) (g := g) (v := l) (o := o) (by intro x hx; show x ∈ w1; rw [hl]; exact uR _ hx) (by show l.length ≤ w1.length; rw [hl]; simp) ho;have hsm : p.sm := (hwy.w true).2 p (by show p ∈ w1; rw [hl]; exact vI ..);have hlt : 0 < w1.length := by rw [hl]; simp
  have hp : w1[0]? = some p := by rw [hl]; rfl
  have her : w1.eraseIdx 0 = l := by rw [hl]; rfl
  have hln : w1.length - 1 = l.length := by rw [hl]; simp
  clear hwy ho;simp only [h1, e0, e1, m1, c2, d2, zE, go_sem];repeat refine sd2 ?_
  refine CallVC.same (zBY (L := L + 1) m (.inl (by omega)) true ⟨g0, g1, w0, w1, now⟩ ⟨L + 1, q1⟩ (zA _) (by simp [m2]) [] (by simp [Tk.w, m2, b2, a2, u1]) 0 0 (by simp) hlt (by simp only [Tk.w]; omega) p hp hsm g o hst ⟨L + 1, q0⟩ (zA _) (by simp [m2]) (by simp only [Tk.w, wP]; omega) (by simp [Tk.w, m2, b2, a2]) (by simp [Tk.rw, Tk.row, Tk.w])) ?_;simp only [Tk.ev, Tk.rw, Tk.w, wB, Tk.row, zC, nt, her, hln, u0, xq0, xq1, m1, m2, b2, c2, a2, d2, kS3, zE, go_sem];repeat refine sd2 ?_
  refine ⟨⟨i + 1, 20000 + (10000 * i + 577), 20000 + (10000 * i + 576), Tk.ev ⟨g0, g1, w0, w1, now⟩ true g l o, 0⟩, ⟨by simp only []; omega, by simp only []; omega, by simp only []; omega, by simp only []; omega, by rw [← hf2]; exact hR, hw2⟩, by simp only []; omega, ?_⟩;exact (so0 hF2 (h1 := by (simp only [go_sem, zA2, wM]; try trivial)) (h2 := by simp [zAv, Tx.look, m2, b2, c1, a2, d1, d4, Tk.ev, xq0, xq1, zQ]) (h3 := by simp [zA1, keys, m1, m2, b1, b2, c1, c2, a1, a2, d1, d2, d3, d4]) (h4 := by simp only []; omega))
 ·simp only at hst hd;simp only at z0;have e0 : decide ((w0.length : Int) > 0) = false := dF (by rw [z0]; simp);simp only at z1;have e1 : decide ((w1.length : Int) > 0) = false := dF (by rw [z1]; simp);have e2 : decide (g0.due ≥ 0) = true := dT (by omega);have ho := zHV hst;have hw2 := (hwy.tm (max now g0.due)).ev (s := false) (g := g) (v := w0) (o := o) (fun x hx => hx) (zA _) ho;clear hwy ho;simp only [h1, e0, e1, e2, m1, c2, d2, zE, go_sem];repeat refine sd2 ?_
  refine ⟨zAF (fun x => if x = m then 1 else x.i + 2) (by simp only [zCb, List.map, if_true]; kernel_rfl), ?_⟩;refine zTV (args2 := [.ptr m 0 0, .int .i64 0, .agg (.int .i64 4 :: pk0.row)]) (by simp [pk0, Pkx.row, WkL, Wk]) (by simp [zAu, wkN, pk0, Pkx.row]) (zCC (L := L + 1) m (.inl (by omega)) false ⟨g0, g1, w0, w1, max now g0.due⟩ 4 pk0 (by simp [pk0]) (by simp [pk0]) (.sl ⟨L + 1, q0⟩ 0 w0.length) (zDN (zA _)) ⟨L + 1, q1⟩ (zA _) g o hst (by simp [m2]) (by simp only [Tk.w, wB]; omega) (by simp [Tk.w, m2, b2, a2, u1]) (by simp [Tk.rw, Tk.row, Tk.w])) ?_;simp only [Tk.ev, Tk.rw, Tk.w, wB, Tk.row, zC, nt, u1, xq0, xq1, m1, m2, b2, c2, a2, d2, zE, go_sem];repeat refine sd2 ?_
  refine ⟨⟨i + 1, q0, 20000 + (10000 * i + 1344), Tk.ev (Tk.tm ⟨g0, g1, w0, w1, now⟩ (max now g0.due)) false g w0 o, 0⟩, ⟨by simp only []; omega, by simp only []; omega, by simp only []; omega, by simp only []; omega, by rw [← hf2]; exact hR, hw2⟩, by simp only []; omega, ?_⟩;exact (so0 hF2 (h1 := by (simp only [go_sem, zA2, wM]; try trivial)) (h2 := by simp [zAv, Tx.look, m2, b2, c1, a2, d1, d4, Tk.ev, Tk.tm, xq0, xq1, zQ]) (h3 := by simp [zA1, keys, m1, m2, b1, b2, c1, c2, a1, a2, d1, d2, d3, d4]) (h4 := by simp only []; omega))
 ·simp only at hst hd;simp only at z0;have e0 : decide ((w0.length : Int) > 0) = false := dF (by rw [z0]; simp);simp only at z1;have e1 : decide ((w1.length : Int) > 0) = false := dF (by rw [z1]; simp);have e2 : decide (g0.due ≥ 0) = false := dF (by omega);have hd1 : g1.due ≥ 0 := by
   by_cases h : g1.due ≥ 0;·exact h
   ·exact absurd ⟨z0, z1, hd, by show g1.due < 0; omega⟩ hE
  have e3 : decide (g1.due ≥ 0) = true := dT hd1;have ho := zHV hst;have hw2 := (hwy.tm (max now g1.due)).ev (s := true) (g := g) (v := w1) (o := o) (fun x hx => hx) (zA _) ho;clear hwy ho;simp only [h1, e0, e1, e2, e3, m1, c2, d2, zE, go_sem];repeat refine sd2 ?_
  refine ⟨zAF (fun x => if x = m then 1 else x.i + 2) (by simp only [zCb, List.map, if_true]; kernel_rfl), ?_⟩;refine zTV (args2 := [.ptr m 0 0, .int .i64 1, .agg (.int .i64 4 :: pk0.row)]) (by simp [pk0, Pkx.row, WkL, Wk]) (by simp [zAu, wkN, pk0, Pkx.row]) (zCC (L := L + 1) m (.inl (by omega)) true ⟨g0, g1, w0, w1, max now g1.due⟩ 4 pk0 (by simp [pk0]) (by simp [pk0]) (.sl ⟨L + 1, q1⟩ 0 w1.length) (zDN (zA _)) ⟨L + 1, q0⟩ (zA _) g o hst (by simp [m2]) (by simp only [Tk.w, wP]; omega) (by simp [Tk.w, m2, b2, a2]) (by simp [Tk.rw, Tk.row, Tk.w])) ?_;simp only [Tk.ev, Tk.rw, Tk.w, wB, Tk.row, zC, nt, u0, xq0, xq1, m1, m2, b2, c2, a2, d2, zE, go_sem];repeat refine sd2 ?_
  refine ⟨⟨i + 1, 20000 + (10000 * i + 1600), q1, Tk.ev (Tk.tm ⟨g0, g1, w0, w1, now⟩ (max now g1.due)) true g w1 o, 0⟩, ⟨by simp only []; omega, by simp only []; omega, by simp only []; omega, by simp only []; omega, by rw [← hf2]; exact hR, hw2⟩, by simp only []; omega, ?_⟩;exact (so0 hF2 (h1 := by (simp only [go_sem, zA2, wM]; try trivial)) (h2 := by simp [zAv, Tx.look, m2, b2, c1, a2, d1, d4, Tk.ev, Tk.tm, u1, xq0, xq1, zQ]) (h3 := by simp [zA1, keys, m1, m2, b1, b2, c1, c2, a1, a2, d1, d2, d3, d4]) (h4 := by simp only []; omega))
end Go.Proofs.YtifhjhbfhdcahaaGreat
end
