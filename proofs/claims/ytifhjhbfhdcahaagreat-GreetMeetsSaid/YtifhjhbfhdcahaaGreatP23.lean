/- Lemmas for the walk: GK104, GK105, GD42, GK102, GD43. -/
import Derived.Test.YtifhjhbfhdcahaaGreatP20
import Derived.Test.YtifhjhbfhdcahaaGreatShelfP
import Derived.Test.YtifhjhbfhdcahaaGreatP19
import Derived.Test.YtifhjhbfhdcahaaGreatP13
set_option linter.all false
section
namespace Go.Proofs.YtifhjhbfhdcahaaGreat
open Go.Tx
set_option maxRecDepth 100000
set_option maxHeartbeats 16000000
theorem fnRep : Tryz.prog.funcs[30]? = some Tryz.f30 := by kernel_rfl
theorem repeat_ok {F : SF} {L nx : Nat} (s : List UInt8) (c : Nat) (hc : c ≤ 1000000) (hl : s.length * c ≤ 140737488355328) : Con Tryz.prog 30 [.str s, .int .i64 c] F L nx nx (.str (Lib.repeatL s c)) [] [] := by
 refine ⟨Nat.le_refl _, fun F2 hF2 E w args' hR _ _ hv => ?_⟩
 simp only [VRl, VR] at hv
 obtain ⟨_, _, rfl, rfl, _, _, rfl, rfl, rfl⟩ := hv
 have h := Tryz.strings_Repeat ⟨s.toArray⟩ c w (by omega) (by rw [strV_size]; exact hl)
 rw [callFunc_run fnRep (by rfl) (by kernel_rfl)]
 refine Calls.mono h ?_
 rintro e w' ⟨rfl, hb⟩
 refine ⟨_, rfl, E, ?_, StepR.same hR hb.os hb.tape hb.output hb.size hb.block, fun n h1 h2 => absurd h1 h2⟩
 simp only [VR]
 rfl
theorem repeat1 (a : UInt8) : ∀ c : Nat, Lib.repeatL [a] c = List.replicate c a
 | 0 => rfl
 | c + 1 => by
  have := repeat1 a c
  simp only [Lib.repeatL, List.replicate_succ] at this ⊢
  rw [this]; rfl
theorem rep_ok (a : UInt8) (c : Nat) (hc : c ≤ 1000000) : ∀ (F : SF) (L nx : Nat), Con Tryz.prog 30 [.str [a], .int .i64 c] F L nx nx (.str (List.replicate c a)) [] [] := fun F L nx => by
 have h := repeat_ok (F := F) (L := L) (nx := nx) [a] c hc (by simp; omega)
 rw [repeat1] at h
 exact h
theorem does0R_ok {F : SF} {L nx : Nat} (m : Nm) (hm0 : m.l < L ∨ (m.l = L ∧ m.i < nx)) (k : Tk) (kind : Int) (p : Pkx) (hlen : p.cs.length ≤ 1000000) (hb : ∀ c ∈ p.cs, c.bd.length ≤ 1000000) (va : PV) (hva : Outs L va) (b : Nm) (hbL : b.l ≤ L) (h : Gx) (x : Pkx) (hst : gStep k.g0 k.now kind p = (h, [x], 0)) (hbm : b ≠ m) (hwl : k.w1.length ≤ 1000000) (hFb : F b = some (.rows 38 4 true true (k.w1.map Pkx.row))) (hqm : capNm b ≠ m) (c : Nat) (hFq : F (capNm b) = some (.cap b c)) (hc : k.w1.length + 1 ≤ c) (hF : F m = some (.rows 33 43 true false [k.row va (.sl b 0 k.w1.length)])) :
  Con Tryz.prog 12 [.ptr m 0 0, .int .i64 0, .agg (.int .i64 kind :: p.row)] F L nx (nx + 0) (.bool true) [(m, .rows 33 43 true false [(Tk.row { k with g0 := h } va (.sl b 0 (k.w1.length + 1)))]), (b, .rows 38 4 true true ((k.w1 ++ [x]).map Pkx.row))] [m, b, capNm b] := by
 have hm : m.l ≤ L := by omega
 have m1 : ∀ k, (m = (⟨L + 1, k⟩ : Nm)) = False := nm_out hm
 have m2 : ∀ k, ((⟨L + 1, k⟩ : Nm) = m) = False := nm_out' hm
 have b1 : ∀ k, (b = (⟨L + 1, k⟩ : Nm)) = False := nm_out (by omega)
 have b2 : ∀ k, ((⟨L + 1, k⟩ : Nm) = b) = False := nm_out' (by omega)
 have c1 : (b = m) = False := eq_false hbm
 have c2 : (m = b) = False := eq_false (Ne.symm hbm)
 have hS := fun F L nx => stepV_ok (F := F) (L := L) (nx := nx) hst hlen hb
 have hG := step_good hst
 have hC := fun F L nx => gCheck_ok (F := F) (L := L) (nx := nx) h
 rw [hG.ok, if_pos rfl] at hC
 have hta := hG.ta
 have t1 : (h.ta != k.now) = false := by simp; omega
 have e0 : ((0 : Int) == 8) = false := rfl
 have n0 : ((0 : Int) != 0) = false := rfl
 have z1 : ((1 : Int) - 0) = 1 := rfl
 have z2 : ((1 : Int) - 1) = 0 := rfl
 have hx := hG.pk x (by simp)
 have hX := fun F L nx => pkCheck_ok (F := F) (L := L) (nx := nx) x (by
  have := hx.1; unfold Pkx.ok Pkx.hd at this; simp only [Bool.and_eq_true, decide_eq_true_eq] at this; omega) (by
  have := hx.1; unfold Pkx.ok at this; simp only [Bool.and_eq_true, List.all_eq_true] at this
  intro c hc
  have := this.1.2 c hc
  unfold Ckx.ok at this; simp only [Bool.and_eq_true, decide_eq_true_eq] at this; omega)
 rw [hx.1, if_pos rfl] at hX
 have x1 : (x.fr != h.fr) = false := by have := hx.2.1; simp; omega
 have x2 : (x.tt != h.tt) = false := by have := hx.2.2; simp; omega
 have kz : outP [x] = .fs 4 [(pR x)] := rfl
 clear hx
 clear hG hst
 simp only [Tk.row, Gx.row, Pkx.row, kz] at hF hS hC hX ⊢
 refine Con.bodyNT (cxcOk (L + 1)) rfl rfl (fn := Tryz.f12) (c := Tryz.f12.body.getD .skip) (by kernel_rfl) (by rfl) (by kernel_rfl) rfl (by simp [capNm]; omega) ?_
 intro F3 hF1 hF2
 have kq := (hF1 m (by simp)).trans hF
 have kb := (hF1 b (by simp)).trans hFb
 have kc := (hF1 (capNm b) (by simp)).trans hFq
 have kcL : (capNm b).l ≤ L := hbL
 have u1 : ∀ k, (capNm b = (⟨L + 1, k⟩ : Nm)) = False := nm_out kcL
 have u2 : ∀ k, ((⟨L + 1, k⟩ : Nm) = capNm b) = False := nm_out' kcL
 have u3 : (capNm b = m) = False := eq_false hqm
 have qb : (capNm b = b) = False := eq_false (fun h => by have := congrArg Nm.i h; simp [capNm] at this)
 have u4 : (m = capNm b) = False := eq_false (Ne.symm hqm)
 have dc : decide (k.w1.length + 1 ≤ c) = true := dT hc
 refine VT.cut (cxcOk (L + 1)) (by kernel_rfl) (fun _ : Unit => ⟨[some (.ptr m 0 0), some (.int .i64 0), none, none, none, some (.ptr ⟨L + 1, 0⟩ 0 0)] ++ oz 103, [(⟨L + 1, 0⟩, .rows 40 5 true true [[.int .i64 kind, .int .i64 p.fr, .int .i64 p.tt, .int .i64 p.tg, .fs 3 (p.cs.map Ckx.row)]])], 10000⟩) (fun _ => True) ?_ ?_
 ·simp only [capR, twoT, Tryz.f12, hdC, Option.getD_some, cxc, go_sem, meths]
  repeat refine sd2 ?_
  refine ⟨(), (so0 hF2)⟩
 intro _ _
 refine VT.cut (cxcOk (L + 1)) (by kernel_rfl) (fun _ : Unit => ⟨[some (.ptr m 0 0), some (.int .i64 0), none, none, none, none, none, some (.ptr ⟨L + 1, 10480⟩ 0 0), some (.fs 4 [(pR x)]), some (.int .i64 0)] ++ oz 99, [(⟨L + 1, 10480⟩, .rows 28 20 true true [(gR h [])])], 20000⟩) (fun _ => True) ?_ ?_
 ·simp only [capR, Tryz.f12, hdC, tlC, Option.getD_some, cxc, kq, m1, Nat.add_zero, go_sem, meths]
  repeat refine sd2 ?_
  refine CallVC.same (hS _ _ _) ?_
  simp only [capR, go_sem]
  repeat refine sd2 ?_
  refine ⟨dyn1 m2, (), (so0 hF2)⟩
 intro _ _
 clear hS
 refine VT.cut (cxcOk (L + 1)) (by kernel_rfl) (fun _ : Unit => ⟨[some (.ptr m 0 0), some (.int .i64 0), none, none, none, none, none, some (.ptr ⟨L + 1, 10480⟩ 0 0), some (.fs 4 [(pR x)]), some (.int .i64 0)] ++ oz 99, [(⟨L + 1, 10480⟩, .rows 28 20 true true [(gR h [])])], 30000⟩) (fun _ => True) ?_ ?_
 ·simp only [capR, twoT, Tryz.f12, hdC, tlC, Option.getD_some, cxc, e0, go_sem, meths]
  repeat refine sd2 ?_
  refine ⟨(), (so0 hF2)⟩
 intro _ _
 have g1 : decide ((0 : Int) > 1) = false := rfl
 have g2 : decide ((1 : Int) > 1) = false := rfl
 have g1' : decide ((1 : Int) < 0) = false := rfl
 have g2' : decide ((1 : Int) < 1) = false := rfl
 have g3' : decide ((1 : Int) < ((1 : Nat) : Int)) = false := rfl
 refine VT.cut (cxcOk (L + 1)) (by kernel_rfl) (fun _ : Unit => ⟨[some (.ptr m 0 0), some (.int .i64 0), none, none, none, none, none, some (.ptr ⟨L + 1, 10480⟩ 0 0), some (.fs 4 [(pR x)])] ++ oz 100, [(⟨L + 1, 10480⟩, .rows 28 20 true true [(gR h [])])], 40000⟩) (fun _ => True) ?_ ?_
 ·simp only [capR, Tryz.f12, hdC, tlC, Option.getD_some, cxc, n0, go_sem, meths]
  repeat refine sd2 ?_
  refine CallVC.same (hC _ _ _) ?_
  simp only [capR, kq, m1, n0, t1, g3', go_sem]
  repeat refine sd2 ?_
  refine ⟨dyn1 m2, (), (so0 hF2)⟩
 intro _ _
 clear hC
 refine VT.cut (cxcOk (L + 1)) (by kernel_rfl) (fun _ : Unit => ⟨[some (.ptr m 0 0), some (.int .i64 0), none, none, none, none, none, some (.ptr ⟨L + 1, 10480⟩ 0 0), some (.fs 4 [(pR x)])] ++ oz 100, [(⟨L + 1, 10480⟩, .rows 28 20 true true [(gR h [])])], 70000⟩) (fun _ => True) ?_ ?_
 ·simp only [capR, twoT, Tryz.f12, hdC, tlC, Option.getD_some, cxc, go_sem, meths]
  repeat refine sd2 ?_
  refine loopK.intro _ _ (I := fun j : Nat => ⟨[some (.ptr m 0 0), some (.int .i64 0), none, none, none, none, none, some (.ptr ⟨L + 1, 10480⟩ 0 0), some (.fs 4 [(pR x)]), none, none, none, none, none, none, none, none, none, none, none, none, none, none, none, none, none, none, none, none, none, none, none, none, none, none, none, none, none, none, none, none, none, none, none, none, none, none, none, none, none, none, none, none, none, none, none, none, none, none, none, none, none, none, none, some (.fs 4 [(pR x)]), some (.int .i64 1), some (.int .i64 j)] ++ oz 42, [(⟨L + 1, 10480⟩, .rows 28 20 true true [(gR h [])])], 10000 * (j + 5)⟩) (pre := fun j => j ≤ 1) (μ := fun j => 1 - j) 0 (by omega) ?_ ?_
  ·refine Sub.of (hfz hF2) (by simp only [go_sem, subT, and_self, Int.natCast_zero, Int.natCast_one]; try trivial) ?_ (by simp [subK, keys]) (by simp)
   simp [subH, Tx.look]
  intro j hj
  by_cases hlt : j < 1
  ·obtain rfl : j = 0 := by omega
   have q1 : decide (((0 : Nat) : Int) < 1) = true := rfl
   have q2 : decide ((0 : Int) < 1) = true := rfl
   simp only [capR, twoT, q2, Int.natCast_zero, Nat.add_zero, go_sem]
   repeat refine sd2 ?_
   refine CallVC.same (hX _ _ _) ?_
   simp only [capR, twoT, n0, x1, x2, Nat.add_zero, go_sem]
   repeat refine sd2 ?_
   refine ⟨1, by omega, by omega, ?_⟩
   refine Sub.of (hfz hF2) (by simp only [go_sem, subT, Int.natCast_one]; try trivial) ?_ (by simp [subK, keys]) (by simp)
   simp [subH, Tx.look]
  ·obtain rfl : j = 1 := by omega
   have q1 : decide (((1 : Nat) : Int) < 1) = false := rfl
   have q2 : decide ((1 : Int) < 1) = false := rfl
   simp only [capR, twoT, q2, Int.natCast_one, go_sem]
   repeat refine sd2 ?_
   refine ⟨(), (so0 hF2)⟩
 intro _ _
 clear hX
 refine VT.cut (cxcOk (L + 1)) (by kernel_rfl) (fun _ : Unit => ⟨[some (.ptr m 0 0), some (.int .i64 0), none, none, none, none, none, none, some (.fs 4 [(pR x)])] ++ oz 100, [(m, .rows 33 43 true false [(gR h (gR k.g1 [va, (.sl b 0 k.w1.length), .int .i64 k.now]))])], 80000⟩) (fun _ => True) ?_ ?_
 ·simp only [capR, Tryz.f12, hdC, tlC, Option.getD_some, cxc, kq, m1, Nat.add_zero, go_sem, meths]
  repeat refine sd2 ?_
  refine ⟨dyn1 m2, (), (so0 hF2 (h2 := by simp [subH, Tx.look, m1]) (h3 := by simp [subK, keys, m2]))⟩
 intro _ _
 refine VT.of (cxcOk (L + 1)) ?_
 simp only [capR, semCap, capOf, semAppendC, isNilS, twoT, dc, kc, u3, Tryz.f12, tlC, Option.getD_some, cxc, kq, c1, c2, kb, z1, List.length_map, go_sem, meths]
 repeat refine sd2 ?_
 refine ⟨okDyn_num (fun x => if x = m then 1 else if x = b then 2 else if x = capNm b then 0 else x.i + 3) (by simp only [numF, List.map, c1, u3, qb, if_true, if_false]; kernel_rfl), .now (PostN.val [] (.inr rfl) (by simp) (p := True) (v0 := .bool true) ?_ trivial ?_ ?_ ⟨by omega, ?_, by omega, ?_, trivial⟩ ?_)⟩
 ·simp only [resVal, resVals, resVal1, one, go_sem]
 ·simp [nmA]
 ·simp [Tx.rn]
 ·rw [kp_nil]
  exact .ren (by simp [Tx.look]; rfl) (by simp [rowsNm, nmA, nmAL, Dn, (hva nx []).1, hbL]) (by simp [Tx.rn, Tx.rnL, (hva nx []).2, sg_out hbL]; try simp [sg])
 ·rw [kp_nil]
  exact .pure (by simp [Tx.look, c1, Pkx.row])
 ·simp [UpdAll, keys]
theorem does0G_ok {F : SF} {L nx : Nat} (m : Nm) (hm0 : m.l < L ∨ (m.l = L ∧ m.i < nx)) (k : Tk) (kind : Int) (p : Pkx) (hlen : p.cs.length ≤ 1000000) (hb : ∀ c ∈ p.cs, c.bd.length ≤ 1000000) (va : PV) (hva : Outs L va) (b : Nm) (hbL : b.l ≤ L) (h : Gx) (x : Pkx) (hst : gStep k.g0 k.now kind p = (h, [x], 0)) (hbm : b ≠ m) (hwl : k.w1.length ≤ 1000000) (hFb : F b = some (.rows 38 4 true true (k.w1.map Pkx.row))) (hqm : capNm b ≠ m) (c : Nat) (hFq : F (capNm b) = some (.cap b c)) (hc : c < k.w1.length + 1) (hF : F m = some (.rows 33 43 true false [k.row va (.sl b 0 k.w1.length)])) :
  Con Tryz.prog 12 [.ptr m 0 0, .int .i64 0, .agg (.int .i64 kind :: p.row)] F L nx (nx + 1) (.bool true) [(m, .rows 33 43 true false [(Tk.row { k with g0 := h } va (.sl ⟨L, nx⟩ 0 (k.w1.length + 1)))]), (⟨L, nx⟩, .rows 38 4 true true ((k.w1 ++ [x]).map Pkx.row))] [m, b, capNm b] := by
 have hm : m.l ≤ L := by omega
 have m1 : ∀ k, (m = (⟨L + 1, k⟩ : Nm)) = False := nm_out hm
 have m2 : ∀ k, ((⟨L + 1, k⟩ : Nm) = m) = False := nm_out' hm
 have b1 : ∀ k, (b = (⟨L + 1, k⟩ : Nm)) = False := nm_out (by omega)
 have b2 : ∀ k, ((⟨L + 1, k⟩ : Nm) = b) = False := nm_out' (by omega)
 have c1 : (b = m) = False := eq_false hbm
 have c2 : (m = b) = False := eq_false (Ne.symm hbm)
 have hS := fun F L nx => stepV_ok (F := F) (L := L) (nx := nx) hst hlen hb
 have hG := step_good hst
 have hC := fun F L nx => gCheck_ok (F := F) (L := L) (nx := nx) h
 rw [hG.ok, if_pos rfl] at hC
 have hta := hG.ta
 have t1 : (h.ta != k.now) = false := by simp; omega
 have e0 : ((0 : Int) == 8) = false := rfl
 have n0 : ((0 : Int) != 0) = false := rfl
 have z1 : ((1 : Int) - 0) = 1 := rfl
 have z2 : ((1 : Int) - 1) = 0 := rfl
 have hx := hG.pk x (by simp)
 have hX := fun F L nx => pkCheck_ok (F := F) (L := L) (nx := nx) x (by
  have := hx.1; unfold Pkx.ok Pkx.hd at this; simp only [Bool.and_eq_true, decide_eq_true_eq] at this; omega) (by
  have := hx.1; unfold Pkx.ok at this; simp only [Bool.and_eq_true, List.all_eq_true] at this
  intro c hc
  have := this.1.2 c hc
  unfold Ckx.ok at this; simp only [Bool.and_eq_true, decide_eq_true_eq] at this; omega)
 rw [hx.1, if_pos rfl] at hX
 have x1 : (x.fr != h.fr) = false := by have := hx.2.1; simp; omega
 have x2 : (x.tt != h.tt) = false := by have := hx.2.2; simp; omega
 have kz : outP [x] = .fs 4 [(pR x)] := rfl
 clear hx
 clear hG hst
 simp only [Tk.row, Gx.row, Pkx.row, kz] at hF hS hC hX ⊢
 refine Con.bodyNT (cxcOk (L + 1)) rfl rfl (fn := Tryz.f12) (c := Tryz.f12.body.getD .skip) (by kernel_rfl) (by rfl) (by kernel_rfl) rfl (by simp [capNm]; omega) ?_
 intro F3 hF1 hF2
 have kq := (hF1 m (by simp)).trans hF
 have kb := (hF1 b (by simp)).trans hFb
 have kc := (hF1 (capNm b) (by simp)).trans hFq
 have kcL : (capNm b).l ≤ L := hbL
 have u1 : ∀ k, (capNm b = (⟨L + 1, k⟩ : Nm)) = False := nm_out kcL
 have u2 : ∀ k, ((⟨L + 1, k⟩ : Nm) = capNm b) = False := nm_out' kcL
 have u3 : (capNm b = m) = False := eq_false hqm
 have u4 : (m = capNm b) = False := eq_false (Ne.symm hqm)
 have dc : decide (k.w1.length + 1 ≤ c) = false := dF (by omega)
 refine VT.cut (cxcOk (L + 1)) (by kernel_rfl) (fun _ : Unit => ⟨[some (.ptr m 0 0), some (.int .i64 0), none, none, none, some (.ptr ⟨L + 1, 0⟩ 0 0)] ++ oz 103, [(⟨L + 1, 0⟩, .rows 40 5 true true [[.int .i64 kind, .int .i64 p.fr, .int .i64 p.tt, .int .i64 p.tg, .fs 3 (p.cs.map Ckx.row)]])], 10000⟩) (fun _ => True) ?_ ?_
 ·simp only [capR, twoT, Tryz.f12, hdC, Option.getD_some, cxc, go_sem, meths]
  repeat refine sd2 ?_
  refine ⟨(), (so0 hF2)⟩
 intro _ _
 refine VT.cut (cxcOk (L + 1)) (by kernel_rfl) (fun _ : Unit => ⟨[some (.ptr m 0 0), some (.int .i64 0), none, none, none, none, none, some (.ptr ⟨L + 1, 10480⟩ 0 0), some (.fs 4 [(pR x)]), some (.int .i64 0)] ++ oz 99, [(⟨L + 1, 10480⟩, .rows 28 20 true true [(gR h [])])], 20000⟩) (fun _ => True) ?_ ?_
 ·simp only [capR, Tryz.f12, hdC, tlC, Option.getD_some, cxc, kq, m1, Nat.add_zero, go_sem, meths]
  repeat refine sd2 ?_
  refine CallVC.same (hS _ _ _) ?_
  simp only [capR, go_sem]
  repeat refine sd2 ?_
  refine ⟨dyn1 m2, (), (so0 hF2)⟩
 intro _ _
 clear hS
 refine VT.cut (cxcOk (L + 1)) (by kernel_rfl) (fun _ : Unit => ⟨[some (.ptr m 0 0), some (.int .i64 0), none, none, none, none, none, some (.ptr ⟨L + 1, 10480⟩ 0 0), some (.fs 4 [(pR x)]), some (.int .i64 0)] ++ oz 99, [(⟨L + 1, 10480⟩, .rows 28 20 true true [(gR h [])])], 30000⟩) (fun _ => True) ?_ ?_
 ·simp only [capR, twoT, Tryz.f12, hdC, tlC, Option.getD_some, cxc, e0, go_sem, meths]
  repeat refine sd2 ?_
  refine ⟨(), (so0 hF2)⟩
 intro _ _
 have g1 : decide ((0 : Int) > 1) = false := rfl
 have g2 : decide ((1 : Int) > 1) = false := rfl
 have g1' : decide ((1 : Int) < 0) = false := rfl
 have g2' : decide ((1 : Int) < 1) = false := rfl
 have g3' : decide ((1 : Int) < ((1 : Nat) : Int)) = false := rfl
 refine VT.cut (cxcOk (L + 1)) (by kernel_rfl) (fun _ : Unit => ⟨[some (.ptr m 0 0), some (.int .i64 0), none, none, none, none, none, some (.ptr ⟨L + 1, 10480⟩ 0 0), some (.fs 4 [(pR x)])] ++ oz 100, [(⟨L + 1, 10480⟩, .rows 28 20 true true [(gR h [])])], 40000⟩) (fun _ => True) ?_ ?_
 ·simp only [capR, Tryz.f12, hdC, tlC, Option.getD_some, cxc, n0, go_sem, meths]
  repeat refine sd2 ?_
  refine CallVC.same (hC _ _ _) ?_
  simp only [capR, kq, m1, n0, t1, g3', go_sem]
  repeat refine sd2 ?_
  refine ⟨dyn1 m2, (), (so0 hF2)⟩
 intro _ _
 clear hC
 refine VT.cut (cxcOk (L + 1)) (by kernel_rfl) (fun _ : Unit => ⟨[some (.ptr m 0 0), some (.int .i64 0), none, none, none, none, none, some (.ptr ⟨L + 1, 10480⟩ 0 0), some (.fs 4 [(pR x)])] ++ oz 100, [(⟨L + 1, 10480⟩, .rows 28 20 true true [(gR h [])])], 70000⟩) (fun _ => True) ?_ ?_
 ·simp only [capR, twoT, Tryz.f12, hdC, tlC, Option.getD_some, cxc, go_sem, meths]
  repeat refine sd2 ?_
  refine loopK.intro _ _ (I := fun j : Nat => ⟨[some (.ptr m 0 0), some (.int .i64 0), none, none, none, none, none, some (.ptr ⟨L + 1, 10480⟩ 0 0), some (.fs 4 [(pR x)]), none, none, none, none, none, none, none, none, none, none, none, none, none, none, none, none, none, none, none, none, none, none, none, none, none, none, none, none, none, none, none, none, none, none, none, none, none, none, none, none, none, none, none, none, none, none, none, none, none, none, none, none, none, none, none, some (.fs 4 [(pR x)]), some (.int .i64 1), some (.int .i64 j)] ++ oz 42, [(⟨L + 1, 10480⟩, .rows 28 20 true true [(gR h [])])], 10000 * (j + 5)⟩) (pre := fun j => j ≤ 1) (μ := fun j => 1 - j) 0 (by omega) ?_ ?_
  ·refine Sub.of (hfz hF2) (by simp only [go_sem, subT, and_self, Int.natCast_zero, Int.natCast_one]; try trivial) ?_ (by simp [subK, keys]) (by simp)
   simp [subH, Tx.look]
  intro j hj
  by_cases hlt : j < 1
  ·obtain rfl : j = 0 := by omega
   have q1 : decide (((0 : Nat) : Int) < 1) = true := rfl
   have q2 : decide ((0 : Int) < 1) = true := rfl
   simp only [capR, twoT, q2, Int.natCast_zero, Nat.add_zero, go_sem]
   repeat refine sd2 ?_
   refine CallVC.same (hX _ _ _) ?_
   simp only [capR, twoT, n0, x1, x2, Nat.add_zero, go_sem]
   repeat refine sd2 ?_
   refine ⟨1, by omega, by omega, ?_⟩
   refine Sub.of (hfz hF2) (by simp only [go_sem, subT, Int.natCast_one]; try trivial) ?_ (by simp [subK, keys]) (by simp)
   simp [subH, Tx.look]
  ·obtain rfl : j = 1 := by omega
   have q1 : decide (((1 : Nat) : Int) < 1) = false := rfl
   have q2 : decide ((1 : Int) < 1) = false := rfl
   simp only [capR, twoT, q2, Int.natCast_one, go_sem]
   repeat refine sd2 ?_
   refine ⟨(), (so0 hF2)⟩
 intro _ _
 clear hX
 refine VT.cut (cxcOk (L + 1)) (by kernel_rfl) (fun _ : Unit => ⟨[some (.ptr m 0 0), some (.int .i64 0), none, none, none, none, none, none, some (.fs 4 [(pR x)])] ++ oz 100, [(m, .rows 33 43 true false [(gR h (gR k.g1 [va, (.sl b 0 k.w1.length), .int .i64 k.now]))])], 80000⟩) (fun _ => True) ?_ ?_
 ·simp only [capR, Tryz.f12, hdC, tlC, Option.getD_some, cxc, kq, m1, Nat.add_zero, go_sem, meths]
  repeat refine sd2 ?_
  refine ⟨dyn1 m2, (), (so0 hF2 (h2 := by simp [subH, Tx.look, m1]) (h3 := by simp [subK, keys, m2]))⟩
 intro _ _
 refine VT.of (cxcOk (L + 1)) ?_
 simp only [capR, semCap, capOf, semAppendC, isNilS, twoT, dc, kc, u3, Tryz.f12, tlC, Option.getD_some, cxc, kq, m1, m2, c1, kb, z1, List.length_map, go_sem, meths]
 repeat refine sd2 ?_
 refine ⟨okDyn_num (fun x => if x = m then 1 else if x = b then 0 else if x = capNm b then 0 else x.i + 2) (by simp only [numF, List.map, m2, b2, c1, u2, u3, if_true, if_false]; kernel_rfl), .now (PostN.val [80352] (.inr rfl) (by simp) (p := True) (v0 := .bool true) ?_ trivial ?_ ?_ ⟨by omega, ?_, Nat.le_refl _, ?_, trivial⟩ ?_)⟩
 ·simp only [resVal, resVals, resVal1, one, go_sem]
 ·simp [nmA]
 ·simp [Tx.rn]
 ·rw [kp_out (hm0.imp id fun h => .inl h.2)]
  exact .ren (by simp [Tx.look]; rfl) (by simp [rowsNm, nmA, nmAL, Dn, (hva nx [80352]).1]) (by simp [Tx.rn, Tx.rnL, (hva nx [80352]).2]; try simp [sg])
 ·rw [kp_at0 (by simp)]
  exact .pure (by simp [Tx.look, m2, Pkx.row])
 ·simp [UpdAll, keys]
theorem Ini.row_inj {a b : Ini} (h : a.row = b.row) : a = b := by
 obtain ⟨a1, a2, a3, a4, a5, a6⟩ := a
 obtain ⟨b1, b2, b3, b4, b5, b6⟩ := b
 simp only [Ini.row, List.cons.injEq, PV.int.injEq, PV.str.injEq, true_and, and_true] at h
 obtain ⟨rfl, rfl, rfl, rfl, rfl, rfl⟩ := h
 rfl
theorem ini_read {d : Ini} (h : d.ok = true) : iniOk ⟨iniK d.ck, 0, d.oct⟩ = true ∧ iniG ⟨iniK d.ck, 0, d.oct⟩ = d := by
 have hb := iniBack h
 unfold getIniV at hb
 have hk : iniK d.ck = 1 ∨ iniK d.ck = 2 := by unfold iniK; split <;> simp
 rw [if_pos hk] at hb
 cases ho : iniOk ⟨iniK d.ck, 0, d.oct⟩
 ·rw [ho, if_neg (by simp)] at hb
  simp at hb
 ·rw [ho, if_pos rfl] at hb
  simp only [PV.tup.injEq, List.cons.injEq, PV.agg.injEq, and_true] at hb
  exact ⟨rfl, Ini.row_inj hb⟩
theorem ini_read1 {d : Ini} (h : plainB d = true) : iniOk ⟨1, 0, d.oct⟩ = true ∧ iniG ⟨1, 0, d.oct⟩ = d := by
 obtain ⟨h1, h2⟩ := gd_plain h
 have := ini_read h1
 rw [show iniK d.ck = 1 by rw [h2]; rfl] at this
 exact this
theorem ini_read2 {d : Ini} (h : d.ok = true) (hc : d.ck ≠ []) : iniOk ⟨2, 0, d.oct⟩ = true ∧ iniG ⟨2, 0, d.oct⟩ = d := by
 have := ini_read h
 rw [show iniK d.ck = 2 by unfold iniK; rw [if_neg hc]] at this
 exact this
theorem ck_parts (g : Gx) {d : Ini} (hd : plainB d = true) {t : Int} (ht : 0 ≤ t ∧ t ≤ 1099511627776) : (ckS g d.oct t).length = 62 ∧ (getB ((ckS g d.oct t).take 6) : Int) = t ∧ ((ckS g d.oct t).drop 6).take 16 = d.oct := by
 have ho : d.oct.length = 16 := by rw [gd_oct, (gd_plain hd).2]; rfl
 have hp : (putB 6 t.toNat).length = 6 := putB_len 6 _
 refine ⟨by rw [ckS_len]; omega, ?_, ?_⟩
 ·unfold ckS
  simp only [List.append_assoc]
  rw [List.take_append_of_le_length (by omega), List.take_of_length_le (by omega), getB_putB (by omega)]
  omega
 ·unfold ckS
  simp only [List.append_assoc]
  rw [List.drop_append_of_le_length (by omega), List.drop_of_length_le (by omega), List.nil_append, List.take_append_of_le_length (by omega), List.take_of_length_le (by omega)]
theorem echo_own (g : Gx) {d : Ini} (hd : plainB d = true) {t : Int} (ht : 0 ≤ t ∧ t ≤ 1099511627776) (now : Int) : gEcho g now (ckS g d.oct t) =
  (if g.st ≤ 3 ∧ (now < t ∨ 60000 < now - t) then (g, gSend g d.tag ⟨6, 0, []⟩)
  else if g.st ≤ 3 then ({ gRest g 4 with peer := d }, gTell { gRest g 4 with peer := d } 11)
  else if g.st = 4 ∧ d = g.peer then (g, gTell g 11) else (g, [])) := by
 obtain ⟨h1, h2, h3⟩ := ck_parts g hd ht
 obtain ⟨i1, i2⟩ := ini_read1 hd
 unfold gEcho
 simp only [h1, h2, h3, i1, i2, (timB_iff t).2 ht, and_self, if_true]
theorem ckS_congr {g h : Gx} (h1 : h.own.tag = g.own.tag) (h2 : h.fr = g.fr) (h3 : h.tt = g.tt) (h4 : h.sec = g.sec) (b : List UInt8) (t : Int) : ckS h b t = ckS g b t := by
 unfold ckS; rw [h1, h2, h3, h4]
def newG (fr tt : Int) (sec : List UInt8) (own : Ini) : Gx := ⟨1, fr, tt, sec, own, zIni, [], 0, -1, 0⟩
theorem gNew_ok {F : SF} {L nx : Nat} (fr tt : Int) (sec : List UInt8) (own : Ini) :
  Con Tryz.prog 29 [.int .i64 fr, .int .i64 tt, .str sec, .agg own.row] F L nx nx (if (newG fr tt sec own).ok then .tup [.agg (newG fr tt sec own).row, .int .i64 0] else .tup [.agg zGx.row, .int .i64 2]) [] [] := by
 have hC := fun F L nx => gCheck_ok (F := F) (L := L) (nx := nx) (newG fr tt sec own)
 have e330 : ((330 : Int) != 0) = true := rfl
 have e0 : ((0 : Int) != 0) = false := rfl
 cases hok : (newG fr tt sec own).ok
 ·rw [hok, if_neg (by simp)] at hC
  rw [if_neg (by simp)]
  simp only [newG, Gx.row, Ini.row, zGx, zIni] at hC ⊢
  refine bdy Tryz.f29 ?_
  intro F3 hF1 hF2
  simp only [Tryz.f29, cx, go_sem, meths]
  repeat refine sd2 ?_
  refine CallVC.same (hC _ _ _) ?_
  simp only [e330, go_sem]
  repeat refine sd2 ?_
  exact PostF.same (p := True) (.inr rfl) (by simp only [resVal, resVals, resVal1, one, go_sem]) trivial (by simp [Tx.nf, nfl]) (by simp [UpdAll])
 ·rw [hok, if_pos rfl] at hC
  rw [if_pos rfl]
  simp only [newG, Gx.row, Ini.row, zIni] at hC ⊢
  refine bdy Tryz.f29 ?_
  intro F3 hF1 hF2
  simp only [Tryz.f29, cx, go_sem, meths]
  repeat refine sd2 ?_
  refine CallVC.same (hC _ _ _) ?_
  simp only [e0, go_sem]
  repeat refine sd2 ?_
  exact PostF.same (p := True) (.inr rfl) (by simp only [resVal, resVals, resVal1, one, go_sem]) trivial (by simp [Tx.nf, nfl]) (by simp [UpdAll])
def sideG (second : Bool) (n : Nat) : Gx :=
 ⟨1, if second then 2 else 1, if second then 1 else 2, List.replicate 32 (if second then 98 else 97), ⟨if second then 70000 + (n : Int) else 1 + (n : Int), 1000 + (n : Int), 1 + ((n % 9 : Nat) : Int), 1 + ((n / 9 % 9 : Nat) : Int), 65536 * (n : Int), []⟩, zIni, [], 0, -1, 0⟩
def sdB (c : UInt8) (i : Nat) : List UInt8 := List.replicate i c ++ List.replicate (32 - i) 0
theorem sdB_len (c : UInt8) {i : Nat} (h : i ≤ 32) : (sdB c i).length = 32 := by simp [sdB]; omega
theorem sdB_set (c d : UInt8) {i : Nat} (h : i < 32) : ((sdB c i).set i d).set i c = sdB c (i + 1) := by
 rw [List.set_set]
 unfold sdB
 rw [List.set_append_right _ _ (by simp), List.length_replicate, Nat.sub_self, show 32 - i = (32 - (i + 1)) + 1 by omega, List.replicate_succ, List.set_cons_zero, List.replicate_succ' (n := i), List.append_assoc]
 rfl
theorem sdB_set1 (c : UInt8) {i : Nat} (h : i < 32) : (sdB c i).set i c = sdB c (i + 1) := by
 have := sdB_set c c h
 rwa [List.set_set] at this
theorem rowB_drop (l : List UInt8) (i : Nat) : List.drop 1 ((l.map rowB).getD i []) = [] := by
 rw [List.getD_eq_getElem?_getD, List.getElem?_map]
 cases l[i]? <;> rfl
theorem wi64 {n : Nat} (h : n < 2 ^ 62) : IntKind.i64.wrap (n : Int) = n := by simp [IntKind.wrap, IntKind.signed, IntKind.bits]; omega
theorem rSide_ok {F : SF} {L nx : Nat} (second : Bool) (n : Nat) (hn : n < 65536) : Con Tryz.prog 40 [.bool second, .int .u16 n] F L nx nx (.agg (sideG second n).row) [] [] := by
 have wn := wi64 (n := n) (by omega)
 have d9 : (n : Int).tmod 9 = ((n % 9 : Nat) : Int) := by rw [Int.tmod_eq_emod_of_nonneg (by omega)]; rfl
 have q9 : (n : Int).tdiv 9 = ((n / 9 : Nat) : Int) := by rw [Int.tdiv_eq_ediv_of_nonneg (by omega)]; rfl
 have e9 : ((n / 9 : Nat) : Int).tmod 9 = ((n / 9 % 9 : Nat) : Int) := by rw [Int.tmod_eq_emod_of_nonneg (by omega)]; rfl
 have u9 : IntKind.u16.wrap ((n / 9 : Nat) : Int) = ((n / 9 : Nat) : Int) := by simp [IntKind.wrap, IntKind.signed, IntKind.bits]; omega
 have v9 := wi64 (n := n % 9) (by omega)
 have w9 := wi64 (n := n / 9 % 9) (by omega)
 refine Con.bodyT (cxOk (L + 1)) rfl rfl (fn := Tryz.f40) (c := Tryz.f40.body.getD .skip) (by kernel_rfl) (by rfl) (by kernel_rfl) rfl (by simp) ?_
 intro F3 hF1 hF2
 refine vcu ⟨[some (.bool second), some (.int .u16 n), none, none, some (.ptr ⟨L + 1, 0⟩ 0 0)] ++ oz 48, [(⟨L + 1, 0⟩, .rows 28 20 true true [zGx.row])], 10000⟩ ?_ ?_
 ·simp only [Tryz.f40, hdC, Option.getD_some, cx, go_sem, meths]
  repeat refine sd2 ?_
  refine ⟨(), (so0 hF2 (h2 := by simp [subH, Tx.look, zGx, Gx.row, zIni]))⟩
 refine vcu ⟨[some (.bool second), some (.int .u16 n), none, none, some (.ptr ⟨L + 1, 0⟩ 0 0), some (.sl ⟨L + 1, 10000⟩ 0 32)] ++ oz 47, [(⟨L + 1, 0⟩, .rows 28 20 true true [zGx.row]), (⟨L + 1, 10000⟩, .rows 5 1 true true ((sdB 0 0).map rowB))], 20000⟩ ?_ ?_
 ·simp only [Tryz.f40, hdC, tlC, Option.getD_some, cx, go_sem, meths]
  repeat refine sd2 ?_
  refine ⟨(), (so0 hF2 (h2 := by simp [subH, Tx.look, sdB, List.replicate, rowB]))⟩
 obtain ⟨c, hc⟩ : ∃ c : UInt8, c = if second then 98 else 97 := ⟨_, rfl⟩
 have hz0 : sdB 0 0 = sdB c 0 := by simp [sdB]
 rw [hz0]
 refine vcu ⟨[some (.bool second), some (.int .u16 n), none, none, some (.ptr ⟨L + 1, 0⟩ 0 0), some (.sl ⟨L + 1, 10000⟩ 0 32)] ++ oz 47, [(⟨L + 1, 0⟩, .rows 28 20 true true [zGx.row]), (⟨L + 1, 10000⟩, .rows 5 1 true true ((sdB c 32).map rowB))], 10000000⟩ ?_ ?_
 ·simp only [Tryz.f40, hdC, tlC, Option.getD_some, cx, go_sem, meths]
  repeat refine sd2 ?_
  refine loopK.intro _ _ (I := fun i : Nat => ⟨[some (.bool second), some (.int .u16 n), none, none, some (.ptr ⟨L + 1, 0⟩ 0 0), some (.sl ⟨L + 1, 10000⟩ 0 32), some (.int .i64 i)] ++ oz 46, [(⟨L + 1, 0⟩, .rows 28 20 true true [zGx.row]), (⟨L + 1, 10000⟩, .rows 5 1 true true ((sdB c i).map rowB))], 10000 * (i + 3)⟩) (pre := fun i => i ≤ 32) (μ := fun i => 32 - i) 0 (by omega) ?_ ?_
  ·refine Sub.of (hfz hF2) (by simp only [go_sem, subT, and_self, Int.natCast_zero]; try trivial) ?_ (by simp [subK, keys]) (by simp)
   simp [subH, Tx.look]
  intro i hi
  have hl := sdB_len c hi
  have hml : ((sdB c i).map rowB).length = 32 := by rw [List.length_map, hl]
  by_cases hlt : i < 32
  ·have g1 : decide ((i : Int) < 32) = true := dT (by omega)
   cases second with
   | false =>
    rw [if_neg (by simp)] at hc
    have s1 := rowB_set (sdB c i) i c
    rw [sdB_set1 c hlt] at s1
    have c97 : ((c.toNat : Nat) : Int) = 97 := by rw [hc]; rfl
    rw [c97] at s1
    have gd := rowB_drop (sdB c i) i
    simp only [g1, s1, gd, hml, Int.toNat_natCast, Nat.add_assoc, go_sem]
    repeat refine sd2 ?_
    refine ⟨i + 1, by omega, by omega, ?_⟩
    refine Sub.of (hfz hF2) (by simp only [go_sem, subT, and_self, Int.natCast_succ]; try trivial) ?_ (by simp [subK, keys]) (by simp only []; omega)
    simp only [subH, Tx.look, nm_eq, if_true, if_false, and_true, Nat.reduceEqDiff]
   | true =>
    rw [if_pos rfl] at hc
    have s0 := rowB_set (sdB c i) i 97
    have s1 := rowB_set ((sdB c i).set i 97) i c
    rw [sdB_set c 97 hlt] at s1
    have c98 : ((c.toNat : Nat) : Int) = 98 := by rw [hc]; rfl
    have c97 : (((97 : UInt8).toNat : Nat) : Int) = 97 := rfl
    rw [c98] at s1
    rw [c97] at s0
    have hml2 : (((sdB c i).set i 97).map rowB).length = 32 := by rw [List.length_map, List.length_set, hl]
    have gd := rowB_drop (sdB c i) i
    have gd2 := rowB_drop ((sdB c i).set i 97) i
    simp only [g1, s0, s1, gd, gd2, hml, hml2, Int.toNat_natCast, Nat.add_assoc, go_sem]
    repeat refine sd2 ?_
    refine ⟨i + 1, by omega, by omega, ?_⟩
    refine Sub.of (hfz hF2) (by simp only [go_sem, subT, and_self, Int.natCast_succ]; try trivial) ?_ (by simp [subK, keys]) (by simp only []; omega)
    simp only [subH, Tx.look, nm_eq, if_true, if_false, and_true, Nat.reduceEqDiff]
  ·obtain rfl : i = 32 := by omega
   have g1 : decide (((32 : Nat) : Int) < 32) = false := dF (by omega)
   have g1' : decide ((32 : Int) < 32) = false := dF (by omega)
   simp only [g1, go_sem]
   repeat refine sd2 ?_
   refine ⟨(), (so0 hF2)⟩
 have hs32 : sdB c 32 = List.replicate 32 c := by simp [sdB]
 rw [hs32]
 obtain ⟨S, hS⟩ : ∃ S, S = List.replicate 32 c := ⟨_, rfl⟩
 rw [← hS]
 have hSl : S.length = 32 := by rw [hS]; simp
 have hrb := rowB_bytes S
 have htk : List.take 32 (S.map rowB) = S.map rowB := List.take_of_length_le (by simp [hSl])
 have hlm : (S.map rowB).length = 32 := by simp [hSl]
 have hib := isByte_g S
 refine VT.of (cxOk (L + 1)) ?_
 cases second with
 | false =>
  have hgS : sideG false n = ⟨1, 1, 2, S, ⟨1 + (n : Int), 1000 + (n : Int), 1 + ((n % 9 : Nat) : Int), 1 + ((n / 9 % 9 : Nat) : Int), 65536 * (n : Int), []⟩, zIni, [], 0, -1, 0⟩ := by rw [hS, hc]; rfl
  rw [hgS]
  simp only [Tryz.f40, tlC, Option.getD_some, cx, wn, d9, q9, e9, u9, v9, w9, hrb, htk, hlm, zGx, Gx.row, zIni, go_sem, meths]
  repeat refine sd2 ?_
  exact PostF.same (p := True) (.inr rfl) (by simp only [resVal, resVals, resVal1, one, go_sem]) trivial (by simp [Tx.nf, nfl]) (by simp [UpdAll])
 | true =>
  have hgS : sideG true n = ⟨1, 2, 1, S, ⟨70000 + (n : Int), 1000 + (n : Int), 1 + ((n % 9 : Nat) : Int), 1 + ((n / 9 % 9 : Nat) : Int), 65536 * (n : Int), []⟩, zIni, [], 0, -1, 0⟩ := by rw [hS, hc]; rfl
  rw [hgS]
  simp only [Tryz.f40, tlC, Option.getD_some, cx, wn, d9, q9, e9, u9, v9, w9, hrb, htk, hlm, zGx, Gx.row, zIni, Nat.add_zero, go_sem, meths]
  repeat refine sd2 ?_
  exact PostF.same (p := True) (.inr rfl) (by simp only [resVal, resVals, resVal1, one, go_sem]) trivial (by simp [Tx.nf, nfl]) (by simp [UpdAll])
theorem rSome33_ok {F : SF} {L nx : Nat} (n : Nat) (hn : n < 65536) : Con Tryz.prog 16 [.agg [.nilS, .nilS], .int .u16 n, .bool false, .nilS] F L nx nx (.agg ((Tk.mk (sideG false n) (sideG true (n / 2)) [] [] 0).row .nilS .nilS)) [] [] := by
 have s0 := fun F L nx => rSide_ok (F := F) (L := L) (nx := nx) false n hn
 have s1 := fun F L nx => rSide_ok (F := F) (L := L) (nx := nx) true (n / 2) (by omega)
 have q2 : (n : Int).tdiv 2 = ((n / 2 : Nat) : Int) := by rw [Int.tdiv_eq_ediv_of_nonneg (by omega)]; rfl
 have u2 : IntKind.u16.wrap ((n / 2 : Nat) : Int) = ((n / 2 : Nat) : Int) := by simp [IntKind.wrap, IntKind.signed, IntKind.bits]; omega
 obtain ⟨a, ha⟩ : ∃ a, a = sideG false n := ⟨_, rfl⟩
 obtain ⟨b, hb⟩ : ∃ b, b = sideG true (n / 2) := ⟨_, rfl⟩
 simp only [← ha, ← hb, Gx.row] at s0 s1
 rw [← ha, ← hb]
 simp only [Tk.row]
 have g0 : decide ((0 : Int) < 0) = false := rfl
 refine bdy Tryz.f16 ?_
 intro F3 hF1 hF2
 simp only [Tryz.f16, cx, go_sem, meths]
 repeat refine sd2 ?_
 refine CallVC.same (s0 _ _ _) ?_
 simp only [q2, u2, go_sem]
 repeat refine sd2 ?_
 refine CallVC.same (s1 _ _ _) ?_
 simp only [go_sem]
 repeat refine sd2 ?_
 refine loopK.unit ?_
 simp only [g0, go_sem]
 repeat refine sd2 ?_
 exact PostF.same (p := True) (.inr rfl) (by simp only [resVal, resVals, resVal1, one, go_sem]) trivial (by simp [Tx.nf, nfl]) (by simp [UpdAll])
def side0 (n : Nat) : Tk := ⟨sideG false n, sideG true (n / 2), [], [], 0⟩
theorem lSides_ok {F : SF} {L nx : Nat} (n : Nat) (hn : n < 65536) : Con Tryz.prog 11 [.int .u16 n] F L nx nx (.agg ((side0 n).row .nilS .nilS)) [] [] := by
 have s0 := fun F L nx => rSome33_ok (F := F) (L := L) (nx := nx) n hn
 unfold side0
 obtain ⟨a, ha⟩ : ∃ a, a = sideG false n := ⟨_, rfl⟩
 obtain ⟨b, hb⟩ : ∃ b, b = sideG true (n / 2) := ⟨_, rfl⟩
 rw [← ha, ← hb] at s0 ⊢
 simp only [Tk.row] at s0 ⊢
 refine bdy Tryz.f11 ?_
 intro F3 hF1 hF2
 simp only [Tryz.f11, cx, go_sem, meths]
 repeat refine sd2 ?_
 refine CallVC.same (s0 _ _ _) ?_
 simp only [Nat.add_zero, go_sem]
 repeat refine sd2 ?_
 exact PostF.same (p := True) (.inr rfl) (by simp only [resVal, resVals, resVal1, one, go_sem]) trivial (by simp [Tx.nf, nfl]) (by simp [UpdAll])
theorem step_pk {g : Gx} {now : Int} {p : Pkx} (hg : g.ok = true) (ht : timB now = true) (hta : g.ta ≤ now) (hp : p.ok = true) : gStep g now 5 p = ((gRecv { g with ta := now } now p).1, (gRecv { g with ta := now } now p).2, 0) := by
 unfold gStep gEv
 rw [if_neg (by simp [hg]), if_neg (by simp [ht]; omega), if_neg (by simp [hp])]
 rfl
theorem step_tm {g : Gx} {now : Int} {p : Pkx} (hg : g.ok = true) (ht : timB now = true) (hta : g.ta ≤ now) : gStep g now 4 p = ((gTick { g with ta := now } now).1, (gTick { g with ta := now } now).2, 0) := by
 unfold gStep gEv
 rw [if_neg (by simp [hg]), if_neg (by simp [ht]; omega), if_neg (by simp)]
 rfl
theorem step_open {g : Gx} {now : Int} {p : Pkx} (hg : g.ok = true) (ht : timB now = true) (hta : g.ta ≤ now) (hst : g.st = 1) : gStep g now 1 p = (gBegin { g with ta := now } 2 now, gSend (gBegin { g with ta := now } 2 now) 0 ⟨1, 0, g.own.oct⟩, 0) := by
 unfold gStep gEv gOpen
 rw [if_neg (by simp [hg]), if_neg (by simp [ht]; omega), if_neg (by simp)]
 simp only [if_true, hst]
 rfl
theorem recv_kind {g : Gx} {now : Int} {tg : Int} {c : Ckx} : gRecv g now ⟨g.tt, g.fr, tg, [c]⟩ = gKind g now tg c := by
 unfold gRecv
 rw [if_pos ⟨rfl, rfl⟩]
 rfl
theorem kind_init {g : Gx} {now : Int} {d : Ini} (hd : plainB d = true) (hst : g.st ≤ 3) : gKind g now 0 ⟨1, 0, d.oct⟩ = (g, gSend g d.tag ⟨2, 0, Ini.oct { g.own with ck := ckS g d.oct now }⟩) := by
 obtain ⟨i1, i2⟩ := ini_read1 hd
 unfold gKind gAsked
 rw [if_pos rfl, if_pos ⟨i1, rfl, hst⟩, i2]
theorem kind_initA {g : Gx} {now : Int} {d : Ini} (hd : d.ok = true) (hc : d.ck ≠ []) (hst : g.st = 2) : gKind g now g.own.tag ⟨2, 0, d.oct⟩ = ({ gBegin g 3 now with ck := d.ck, peer := { d with ck := [] } }, gSend g d.tag ⟨10, 0, d.ck⟩) := by
 obtain ⟨i1, i2⟩ := ini_read2 hd hc
 unfold gKind gInitA
 rw [if_neg (by simp), if_neg (by simp), if_pos rfl, if_pos ⟨i1, hst⟩, i2]
 rfl
theorem kind_echo {g : Gx} {now : Int} {b : List UInt8} : gKind g now g.own.tag ⟨10, 0, b⟩ = gEcho g now b := by
 unfold gKind
 rw [if_neg (by simp), if_neg (by simp), if_neg (by simp), if_pos rfl]
theorem kind_ack {g : Gx} {now : Int} (hst : g.st = 3) : gKind g now g.own.tag ⟨11, 0, []⟩ = (gRest g 4, []) := by
 unfold gKind
 rw [if_neg (by simp), if_neg (by simp), if_neg (by simp), if_neg (by simp), if_pos rfl, if_pos hst]
def exA : Ini := ⟨11, 1000, 1, 1, 5, []⟩
def exB : Ini := ⟨22, 1000, 1, 1, 7, []⟩
def exG (second : Bool) : Gx := if second then newG 2 1 (List.replicate 32 98) exB else newG 1 2 (List.replicate 32 97) exA
def pk0 : Pkx := ⟨0, 0, 0, []⟩
structure ExRun (a1 a2 a3 a4 : Gx) (p1 p2 p3 p5 pl q2 q3 : Pkx) (b1 a5 bl b5 a6 : Gx) (c2 c3 c5 cl : Ckx) : Prop where
 s1 : gStep (exG false) 0 1 pk0 = (a1, [p1], 0)
 a1s : a1.st = 2
 a1d : a1.due = 400
 p1t : p1.tg = 0
 f1 : gStep a1 399 4 pk0 = (a2, [], 0)
 a2d : a2.due = 400
 f2 : gStep a2 400 4 pk0 = (a3, [q2], 0)
 a3d : a3.due = 1200
 f3 : gStep a3 1200 4 pk0 = (a4, [q3], 0)
 a4d : a4.due = 2800
 s2 : gStep (exG true) 10 5 p1 = (b1, [p2], 0)
 b1s : b1.st = 1
 p2t : p2.tg = 11
 p2c : p2.cs = [c2]
 c2k : c2.kd = 2
 s3 : gStep a1 20 5 p2 = (a5, [p3], 0)
 a5s : a5.st = 3
 p3t : p3.tg = 22
 p3c : p3.cs = [c3]
 c3k : c3.kd = 10
 sl : gStep b1 60011 5 p3 = (bl, [pl], 0)
 bls : bl.st = 1
 plt : pl.tg = 11
 plc : pl.cs = [cl]
 clk : cl.kd = 6
 s4 : gStep b1 30 5 p3 = (b5, [p5], 0)
 b5s : b5.st = 4
 p5c : p5.cs = [c5]
 c5k : c5.kd = 11
 s5 : gStep a5 40 5 p5 = (a6, [], 0)
 a6s : a6.st = 4
 e1 : gStep a4 1200 2 pk0 = (zGx, [], 8)
 e2 : gStep a4 1200 1 pk0 = (zGx, [], 8)
theorem exRun : ∃ a1 a2 a3 a4 p1 p2 p3 p5 pl q2 q3 b1 a5 bl b5 a6 c2 c3 c5 cl, ExRun a1 a2 a3 a4 p1 p2 p3 p5 pl q2 q3 b1 a5 bl b5 a6 c2 c3 c5 cl := by
 have s1 : gStep (exG false) 0 1 pk0 = (gBegin (exG false) 2 0, [⟨1, 2, 0, [⟨1, 0, exA.oct⟩]⟩], 0) := by kernel_rfl
 have G1 := step_good s1
 have P1 := (G1.pk _ (List.mem_singleton.2 rfl)).1
 have B0 : (exG true).ok = true := by kernel_rfl
 have hA : plainB exA = true := by kernel_rfl
 have hB : plainB exB = true := by kernel_rfl
 have s2 := step_pk B0 (now := 10) (by kernel_rfl) (by decide) P1
 rw [show (⟨1, 2, 0, [⟨1, 0, exA.oct⟩]⟩ : Pkx) = ⟨({ exG true with ta := 10 } : Gx).tt, ({ exG true with ta := 10 } : Gx).fr, 0, [⟨1, 0, exA.oct⟩]⟩ from rfl, recv_kind, kind_init hA (by decide)] at s2
 obtain ⟨C, hC⟩ : ∃ C, C = ckS { exG true with ta := 10 } exA.oct 10 := ⟨_, rfl⟩
 have hC2 := hC
 rw [← hC] at s2
 have hCl : C.length = 62 := by rw [hC]; exact (ck_parts _ hA (by decide)).1
 have G2 := step_good s2
 have P2 := (G2.pk _ (List.mem_singleton.2 rfl)).1
 have G2o := G2.ok
 have dok : ({ exB with ck := C } : Ini).ok = true := by
  have : exB.ok = true := by kernel_rfl
  unfold Ini.ok at this ⊢
  simp [hCl, exB, serB]
 have hCn : ({ exB with ck := C } : Ini).ck ≠ [] := by intro h; rw [show ({ exB with ck := C } : Ini).ck = C from rfl] at h; rw [h] at hCl; simp at hCl
 have r3 := recv_kind.trans (kind_initA (g := { gBegin (exG false) 2 0 with ta := 20 }) (now := 20) dok hCn rfl)
 have e3 : gRecv { gBegin (exG false) 2 0 with ta := 20 } 20 ⟨2, 1, 11, [⟨2, 0, Ini.oct { exB with ck := C }⟩]⟩ = ({ gBegin { gBegin (exG false) 2 0 with ta := 20 } 3 20 with ck := C, peer := exB }, [⟨1, 2, 22, [⟨10, 0, C⟩]⟩]) := r3
 rw [show (gSend { exG true with ta := 10 } exA.tag ⟨2, 0, Ini.oct { ({ exG true with ta := 10 } : Gx).own with ck := C }⟩) = [⟨2, 1, 11, [⟨2, 0, Ini.oct { exB with ck := C }⟩]⟩] from rfl] at s2
 have s3' : gStep (gBegin (exG false) 2 0) 20 5 ⟨2, 1, 11, [⟨2, 0, Ini.oct { exB with ck := C }⟩]⟩ = ({ gBegin { gBegin (exG false) 2 0 with ta := 20 } 3 20 with ck := C, peer := exB }, [⟨1, 2, 22, [⟨10, 0, C⟩]⟩], 0) := by
  exact (step_pk G1.ok (now := 20) (by kernel_rfl) (by rw [G1.ta]; decide) P2).trans (congrArg (fun r : Gx × List Pkx => (r.1, r.2, (0 : Int))) e3)
 have G3 := step_good s3'
 have P3 := (G3.pk _ (List.mem_singleton.2 rfl)).1
 have bta : ({ exG true with ta := 10 } : Gx).ta = 10 := rfl
 have rb : ∀ now : Int, gRecv { ({ exG true with ta := 10 } : Gx) with ta := now } now ⟨1, 2, 22, [⟨10, 0, C⟩]⟩ = gEcho { exG true with ta := now } now (ckS { exG true with ta := now } exA.oct 10) := by
  intro now
  have h := (recv_kind (g := { exG true with ta := now }) (now := now) (tg := 22) (c := ⟨10, 0, C⟩)).trans (kind_echo (g := { exG true with ta := now }) (now := now) (b := C))
  rw [show ckS { exG true with ta := now } exA.oct 10 = C from (ckS_congr rfl rfl rfl rfl _ _).trans hC2.symm]
  exact h
 have el := echo_own { exG true with ta := 60011 } hA (t := 10) (by decide) 60011
 rw [if_pos ⟨by decide, by decide⟩] at el
 have e4 := echo_own { exG true with ta := 30 } hA (t := 10) (by decide) 30
 rw [if_neg (by decide), if_pos (by decide)] at e4
 have sl : gStep { exG true with ta := 10 } 60011 5 ⟨1, 2, 22, [⟨10, 0, C⟩]⟩ = ({ exG true with ta := 60011 }, [⟨2, 1, 11, [⟨6, 0, []⟩]⟩], 0) := by
  exact (step_pk G2o (by kernel_rfl) (show (10 : Int) ≤ 60011 by decide) P3).trans <| congrArg (fun r : Gx × List Pkx => (r.1, r.2, (0 : Int))) ((rb 60011).trans el)
 have s4 : gStep { exG true with ta := 10 } 30 5 ⟨1, 2, 22, [⟨10, 0, C⟩]⟩ = ({ gRest { exG true with ta := 30 } 4 with peer := exA }, [⟨2, 1, 11, [⟨11, 0, []⟩]⟩], 0) := by
  exact (step_pk G2o (by kernel_rfl) (show (10 : Int) ≤ 30 by decide) P3).trans <| congrArg (fun r : Gx × List Pkx => (r.1, r.2, (0 : Int))) ((rb 30).trans e4)
 have P4 := ((step_good s4).pk _ (List.mem_singleton.2 rfl)).1
 have s5 : gStep { gBegin { gBegin (exG false) 2 0 with ta := 20 } 3 20 with ck := C, peer := exB } 40 5 ⟨2, 1, 11, [⟨11, 0, []⟩]⟩ = (gRest { ({ gBegin { gBegin (exG false) 2 0 with ta := 20 } 3 20 with ck := C, peer := exB } : Gx) with ta := 40 } 4, [], 0) := by
  exact (step_pk G3.ok (by kernel_rfl) (show (20 : Int) ≤ 40 by decide) P4).trans <| congrArg (fun r : Gx × List Pkx => (r.1, r.2, (0 : Int))) ((recv_kind (g := { ({ gBegin { gBegin (exG false) 2 0 with ta := 20 } 3 20 with ck := C, peer := exB } : Gx) with ta := 40 })).trans (kind_ack rfl))
 exact ⟨_, { gBegin (exG false) 2 0 with ta := 399 }, ⟨2, 1, 2, List.replicate 32 97, exA, zIni, [], 400, 1200, 2⟩, ⟨2, 1, 2, List.replicate 32 97, exA, zIni, [], 1200, 2800, 3⟩, _, _, _, _, _, ⟨1, 2, 0, [⟨1, 0, exA.oct⟩]⟩, ⟨1, 2, 0, [⟨1, 0, exA.oct⟩]⟩, _, _, _, _, _, _, _, _, _,
  { s1 := s1, a1s := rfl, a1d := rfl, p1t := rfl, f1 := by kernel_rfl, a2d := rfl, f2 := by kernel_rfl, a3d := rfl, f3 := by kernel_rfl, a4d := rfl, s2 := s2, b1s := rfl, p2t := rfl, p2c := rfl, c2k := rfl, s3 := s3', a5s := rfl, p3t := rfl, p3c := rfl, c3k := rfl, sl := sl, bls := rfl, plt := rfl, plc := rfl, clk := rfl, s4 := s4, b5s := rfl, p5c := rfl, c5k := rfl, s5 := s5, a6s := rfl, e1 := by kernel_rfl, e2 := by kernel_rfl }⟩
end Go.Proofs.YtifhjhbfhdcahaaGreat
end
