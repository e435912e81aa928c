/- Lemmas for the walk: GK101. -/
import Derived.Test.YtifhjhbfhdcahaaGreatP19
set_option linter.all false
section
namespace Go.Proofs.YtifhjhbfhdcahaaGreat
open Go.Tx
set_option maxRecDepth 100000
set_option maxHeartbeats 16000000
structure Tk where
 g0 : Gx
 g1 : Gx
 w0 : List Pkx
 w1 : List Pkx
 now : Int
def Tk.row (k : Tk) (a b : PV) : List PV := (gR k.g0 (gR k.g1 [a, b, .int .i64 k.now]))
noncomputable def cxc (L : Nat) : Cx := ⟨Tryz.prog, tys, meths, false, L, none, [], [], false, [{ v := .bool false, recovered := false }, { v := .bool false, recovered := false }], fun _ => False⟩
theorem cxcOk (L : Nat) : (cxc L).Ok := ⟨tysOk, fieldsOk, mixedOk, methsOk⟩
theorem stepV_ok {F : SF} {L nx : Nat} {g : Gx} {now kind : Int} {p : Pkx} {h : Gx} {o : List Pkx} {e : Int} (hs : gStep g now kind p = (h, o, e)) (hlen : p.cs.length ≤ 1000000) (hb : ∀ c ∈ p.cs, c.bd.length ≤ 1000000) :
  Con Tryz.prog 24 [.agg g.row, .int .i64 now, .agg (.int .i64 kind :: p.row)] F L nx nx (.tup [.agg h.row, outP o, .int .i64 e]) [] [] := by
 have := gStep_ok (F := F) (L := L) (nx := nx) g now kind p hlen hb
 rw [hs] at this
 exact this
def Outs (L : Nat) (v : PV) : Prop := ∀ nx news, nmA (Dn L news) v ∧ rn (sg L nx news) v = v
theorem outs_nil {L : Nat} : Outs L .nilS := fun nx news => ⟨by simp [nmA], by simp [Tx.rn]⟩
theorem outs_sl {L : Nat} {a : Nm} {i j : Nat} (h : a.l ≤ L) : Outs L (.sl a i j) := fun nx news => ⟨by simp [nmA, Dn]; omega, by simp [Tx.rn, sg_out h]⟩
theorem does0P0_ok {pu : Bool} {F : SF} {L nx : Nat} (m : Nm) (hm0 : m.l < L ∨ (m.l = L ∧ m.i < nx)) (k : Tk) (kind : Int) (p : Pkx) (hlen : p.cs.length ≤ 1000000) (hb : ∀ c ∈ p.cs, c.bd.length ≤ 1000000) (va : PV) (hva : Outs L va) (h : Gx) (x : Pkx) (hst : gStep k.g0 k.now kind p = (h, [x], 0)) (hF : F m = some (.rows 33 43 true pu [k.row va .nilS])) :
  Con Tryz.prog 12 [.ptr m 0 0, .int .i64 0, .agg (.int .i64 kind :: p.row)] F L nx (nx + 1) (.bool true) [(m, .rows 33 43 true false [(Tk.row { k with g0 := h } va (.sl ⟨L, nx⟩ 0 1))]), (⟨L, nx⟩, .rows 38 4 true true ([x].map Pkx.row))] [m] := by
 have hm : m.l ≤ L := by omega
 have m1 : ∀ k, (m = (⟨L + 1, k⟩ : Nm)) = False := nm_out hm
 have m2 : ∀ k, ((⟨L + 1, k⟩ : Nm) = m) = False := nm_out' hm
 have hS := fun F L nx => stepV_ok (F := F) (L := L) (nx := nx) hst hlen hb
 have hG := step_good hst
 have hC := fun F L nx => gCheck_ok (F := F) (L := L) (nx := nx) h
 rw [hG.ok, if_pos rfl] at hC
 have hta := hG.ta
 have t1 : (h.ta != k.now) = false := by simp; omega
 have e0 : ((0 : Int) == 8) = false := rfl
 have n0 : ((0 : Int) != 0) = false := rfl
 have z1 : ((1 : Int) - 0) = 1 := rfl
 have z2 : ((1 : Int) - 1) = 0 := rfl
 have hx := hG.pk x (by simp)
 have hX := fun F L nx => pkCheck_ok (F := F) (L := L) (nx := nx) x (by
  have := hx.1; unfold Pkx.ok Pkx.hd at this; simp only [Bool.and_eq_true, decide_eq_true_eq] at this; omega) (by
  have := hx.1; unfold Pkx.ok at this; simp only [Bool.and_eq_true, List.all_eq_true] at this
  intro c hc
  have := this.1.2 c hc
  unfold Ckx.ok at this; simp only [Bool.and_eq_true, decide_eq_true_eq] at this; omega)
 rw [hx.1, if_pos rfl] at hX
 have x1 : (x.fr != h.fr) = false := by have := hx.2.1; simp; omega
 have x2 : (x.tt != h.tt) = false := by have := hx.2.2; simp; omega
 have kz : outP [x] = .fs 4 [(pR x)] := rfl
 clear hx
 clear hG hst
 simp only [Tk.row, Gx.row, Pkx.row, kz] at hF hS hC hX ⊢
 refine Con.bodyNT (cxOk (L + 1)) rfl rfl (fn := Tryz.f12) (c := Tryz.f12.body.getD .skip) (by kernel_rfl) (by rfl) (by kernel_rfl) rfl  (by simp; omega) ?_
 intro F3 hF1 hF2
 have kq := (hF1 m (by simp)).trans hF
 refine vcu ⟨[some (.ptr m 0 0), some (.int .i64 0), none, none, none, some (.ptr ⟨L + 1, 0⟩ 0 0)] ++ oz 103, [(⟨L + 1, 0⟩, .rows 40 5 true true [[.int .i64 kind, .int .i64 p.fr, .int .i64 p.tt, .int .i64 p.tg, .fs 3 (p.cs.map Ckx.row)]])], 10000⟩ ?_ ?_
 ·simp only [Tryz.f12, hdC, Option.getD_some, cx, go_sem, meths]
  repeat refine sd2 ?_
  refine ⟨(), (so0 hF2)⟩
 refine vcu ⟨[some (.ptr m 0 0), some (.int .i64 0), none, none, none, none, none, some (.ptr ⟨L + 1, 10480⟩ 0 0), some (.fs 4 [(pR x)]), some (.int .i64 0)] ++ oz 99, [(⟨L + 1, 10480⟩, .rows 28 20 true true [(gR h [])])], 20000⟩ ?_ ?_
 ·simp only [Tryz.f12, hdC, tlC, Option.getD_some, cx, kq, m1, Nat.add_zero, go_sem, meths]
  repeat refine sd2 ?_
  refine CallVC.same (hS _ _ _) ?_
  simp only [go_sem]
  repeat refine sd2 ?_
  refine ⟨dyn1 m2, (), (so0 hF2)⟩
 clear hS
 refine vcu ⟨[some (.ptr m 0 0), some (.int .i64 0), none, none, none, none, none, some (.ptr ⟨L + 1, 10480⟩ 0 0), some (.fs 4 [(pR x)]), some (.int .i64 0)] ++ oz 99, [(⟨L + 1, 10480⟩, .rows 28 20 true true [(gR h [])])], 30000⟩ ?_ ?_
 ·simp only [Tryz.f12, hdC, tlC, Option.getD_some, cx, e0, go_sem, meths]
  repeat refine sd2 ?_
  refine ⟨(), (so0 hF2)⟩
 have g1 : decide ((0 : Int) > 1) = false := rfl
 have g2 : decide ((1 : Int) > 1) = false := rfl
 have g1' : decide ((1 : Int) < 0) = false := rfl
 have g2' : decide ((1 : Int) < 1) = false := rfl
 have g3' : decide ((1 : Int) < ((1 : Nat) : Int)) = false := rfl
 refine vcu ⟨[some (.ptr m 0 0), some (.int .i64 0), none, none, none, none, none, some (.ptr ⟨L + 1, 10480⟩ 0 0), some (.fs 4 [(pR x)])] ++ oz 100, [(⟨L + 1, 10480⟩, .rows 28 20 true true [(gR h [])])], 40000⟩ ?_ ?_
 ·simp only [Tryz.f12, hdC, tlC, Option.getD_some, cx, n0, go_sem, meths]
  repeat refine sd2 ?_
  refine CallVC.same (hC _ _ _) ?_
  simp only [kq, m1, n0, t1, g3', go_sem]
  repeat refine sd2 ?_
  refine ⟨dyn1 m2, (), (so0 hF2)⟩
 clear hC
 refine vcu ⟨[some (.ptr m 0 0), some (.int .i64 0), none, none, none, none, none, some (.ptr ⟨L + 1, 10480⟩ 0 0), some (.fs 4 [(pR x)])] ++ oz 100, [(⟨L + 1, 10480⟩, .rows 28 20 true true [(gR h [])])], 70000⟩ ?_ ?_
 ·simp only [Tryz.f12, hdC, tlC, Option.getD_some, cx, go_sem, meths]
  repeat refine sd2 ?_
  refine loopK.intro _ _ (I := fun j : Nat => ⟨[some (.ptr m 0 0), some (.int .i64 0), none, none, none, none, none, some (.ptr ⟨L + 1, 10480⟩ 0 0), some (.fs 4 [(pR x)]), none, none, none, none, none, none, none, none, none, none, none, none, none, none, none, none, none, none, none, none, none, none, none, none, none, none, none, none, none, none, none, none, none, none, none, none, none, none, none, none, none, none, none, none, none, none, none, none, none, none, none, none, none, none, none, some (.fs 4 [(pR x)]), some (.int .i64 1), some (.int .i64 j)] ++ oz 42, [(⟨L + 1, 10480⟩, .rows 28 20 true true [(gR h [])])], 10000 * (j + 5)⟩) (pre := fun j => j ≤ 1) (μ := fun j => 1 - j) 0 (by omega) ?_ ?_
  ·refine Sub.of (hfz hF2) (by simp only [go_sem, subT, and_self, Int.natCast_zero, Int.natCast_one]; try trivial) ?_ (by simp [subK, keys]) (by simp)
   simp [subH, Tx.look]
  intro j hj
  by_cases hlt : j < 1
  ·obtain rfl : j = 0 := by omega
   have q1 : decide (((0 : Nat) : Int) < 1) = true := rfl
   have q2 : decide ((0 : Int) < 1) = true := rfl
   simp only [q2, Int.natCast_zero, Nat.add_zero, go_sem]
   repeat refine sd2 ?_
   refine CallVC.same (hX _ _ _) ?_
   simp only [n0, x1, x2, Nat.add_zero, go_sem]
   repeat refine sd2 ?_
   refine ⟨1, by omega, by omega, ?_⟩
   refine Sub.of (hfz hF2) (by simp only [go_sem, subT, Int.natCast_one]; try trivial) ?_ (by simp [subK, keys]) (by simp)
   simp [subH, Tx.look]
  ·obtain rfl : j = 1 := by omega
   have q1 : decide (((1 : Nat) : Int) < 1) = false := rfl
   have q2 : decide ((1 : Int) < 1) = false := rfl
   simp only [q2, Int.natCast_one, go_sem]
   repeat refine sd2 ?_
   refine ⟨(), (so0 hF2)⟩
 clear hX
 refine vcu ⟨[some (.ptr m 0 0), some (.int .i64 0), none, none, none, none, none, none, some (.fs 4 [(pR x)])] ++ oz 100, [(m, .rows 33 43 true pu [(gR h (gR k.g1 [va, .nilS, .int .i64 k.now]))])], 80000⟩ ?_ ?_
 ·simp only [Tryz.f12, hdC, tlC, Option.getD_some, cx, kq, m1, Nat.add_zero, go_sem, meths]
  repeat refine sd2 ?_
  refine ⟨dyn1 m2, (), (so0 hF2 (h2 := by simp [subH, Tx.look, m1]) (h3 := by simp [subK, keys, m2]))⟩
 refine VT.of (cxOk (L + 1)) ?_
 simp only [Tryz.f12, tlC, Option.getD_some, cx, kq, m1, m2, z1, go_sem, meths]
 repeat refine sd2 ?_
 refine ⟨dyn1 m2, .now (PostN.val [80352] (.inr rfl) (by simp) (p := True) (v0 := .bool true) ?_ trivial ?_ ?_ ⟨by omega, ?_, Nat.le_refl _, ?_, trivial⟩ ?_)⟩
 ·simp only [resVal, resVals, resVal1, one, go_sem]
 ·simp [nmA]
 ·simp [Tx.rn]
 ·rw [kp_out (hm0.imp id fun h => .inl h.2)]
  exact .ren (by simp [Tx.look]; rfl) (by simp [rowsNm, nmA, nmAL, Dn, (hva nx [80352]).1]) (by simp [Tx.rn, Tx.rnL, (hva nx [80352]).2]; try simp [sg])
 ·rw [kp_at0 (by simp)]
  exact .pure (by simp [Tx.look, m2, Pkx.row])
 ·simp [UpdAll, keys]
theorem does0Z_ok {F : SF} {L nx : Nat} (m : Nm) (hm0 : m.l < L ∨ (m.l = L ∧ m.i < nx)) (k : Tk) (kind : Int) (p : Pkx) (hlen : p.cs.length ≤ 1000000) (hb : ∀ c ∈ p.cs, c.bd.length ≤ 1000000) (va : PV) (hva : Outs L va) (b : Nm) (hbL : b.l ≤ L) (h : Gx) (hst : gStep k.g0 k.now kind p = (h, [], 0)) (hbm : b ≠ m) (hwl : k.w1.length ≤ 1000000) (hFb : F b = some (.rows 38 4 true true (k.w1.map Pkx.row))) (hF : F m = some (.rows 33 43 true false [k.row va (.sl b 0 k.w1.length)])) :
  Con Tryz.prog 12 [.ptr m 0 0, .int .i64 0, .agg (.int .i64 kind :: p.row)] F L nx nx (.bool true) [(m, .rows 33 43 true false [(Tk.row { k with g0 := h } va (.sl b 0 k.w1.length))])] [m, b] := by
 have hm : m.l ≤ L := by omega
 have m1 : ∀ k, (m = (⟨L + 1, k⟩ : Nm)) = False := nm_out hm
 have m2 : ∀ k, ((⟨L + 1, k⟩ : Nm) = m) = False := nm_out' hm
 have b1 : ∀ k, (b = (⟨L + 1, k⟩ : Nm)) = False := nm_out (by omega)
 have b2 : ∀ k, ((⟨L + 1, k⟩ : Nm) = b) = False := nm_out' (by omega)
 have c1 : (b = m) = False := eq_false hbm
 have c2 : (m = b) = False := eq_false (Ne.symm hbm)
 have hS := fun F L nx => stepV_ok (F := F) (L := L) (nx := nx) hst hlen hb
 have hG := step_good hst
 have hC := fun F L nx => gCheck_ok (F := F) (L := L) (nx := nx) h
 rw [hG.ok, if_pos rfl] at hC
 have hta := hG.ta
 have t1 : (h.ta != k.now) = false := by simp; omega
 have e0 : ((0 : Int) == 8) = false := rfl
 have n0 : ((0 : Int) != 0) = false := rfl
 have z1 : ((1 : Int) - 0) = 1 := rfl
 have z2 : ((1 : Int) - 1) = 0 := rfl
 have kz : outP [] = .nilS := rfl
 clear hG hst
 simp only [Tk.row, Gx.row, Pkx.row, kz] at hF hS hC ⊢
 show Con _ _ _ F L nx (nx + 0) _ _ _
 refine Con.bodyNT (cxOk (L + 1)) rfl rfl (fn := Tryz.f12) (c := Tryz.f12.body.getD .skip) (by kernel_rfl) (by rfl) (by kernel_rfl) rfl  (by simp; omega) ?_
 intro F3 hF1 hF2
 have kq := (hF1 m (by simp)).trans hF
 have kb := (hF1 b (by simp)).trans hFb
 refine vcu ⟨[some (.ptr m 0 0), some (.int .i64 0), none, none, none, some (.ptr ⟨L + 1, 0⟩ 0 0)] ++ oz 103, [(⟨L + 1, 0⟩, .rows 40 5 true true [[.int .i64 kind, .int .i64 p.fr, .int .i64 p.tt, .int .i64 p.tg, .fs 3 (p.cs.map Ckx.row)]])], 10000⟩ ?_ ?_
 ·simp only [Tryz.f12, hdC, Option.getD_some, cx, go_sem, meths]
  repeat refine sd2 ?_
  refine ⟨(), (so0 hF2)⟩
 refine vcu ⟨[some (.ptr m 0 0), some (.int .i64 0), none, none, none, none, none, some (.ptr ⟨L + 1, 10480⟩ 0 0), some (.nilS), some (.int .i64 0)] ++ oz 99, [(⟨L + 1, 10480⟩, .rows 28 20 true true [(gR h [])])], 20000⟩ ?_ ?_
 ·simp only [Tryz.f12, hdC, tlC, Option.getD_some, cx, kq, m1, Nat.add_zero, go_sem, meths]
  repeat refine sd2 ?_
  refine CallVC.same (hS _ _ _) ?_
  simp only [go_sem]
  repeat refine sd2 ?_
  refine ⟨dyn1 m2, (), (so0 hF2)⟩
 clear hS
 refine vcu ⟨[some (.ptr m 0 0), some (.int .i64 0), none, none, none, none, none, some (.ptr ⟨L + 1, 10480⟩ 0 0), some (.nilS), some (.int .i64 0)] ++ oz 99, [(⟨L + 1, 10480⟩, .rows 28 20 true true [(gR h [])])], 30000⟩ ?_ ?_
 ·simp only [Tryz.f12, hdC, tlC, Option.getD_some, cx, e0, go_sem, meths]
  repeat refine sd2 ?_
  refine ⟨(), (so0 hF2)⟩
 have g1 : decide ((0 : Int) > 1) = false := rfl
 have g2 : decide ((1 : Int) > 1) = false := rfl
 have g1' : decide ((1 : Int) < 0) = false := rfl
 have g2' : decide ((1 : Int) < 1) = false := rfl
 have g3' : decide ((1 : Int) < ((1 : Nat) : Int)) = false := rfl
 refine vcu ⟨[some (.ptr m 0 0), some (.int .i64 0), none, none, none, none, none, some (.ptr ⟨L + 1, 10480⟩ 0 0), some (.nilS)] ++ oz 100, [(⟨L + 1, 10480⟩, .rows 28 20 true true [(gR h [])])], 40000⟩ ?_ ?_
 ·simp only [Tryz.f12, hdC, tlC, Option.getD_some, cx, n0, go_sem, meths]
  repeat refine sd2 ?_
  refine CallVC.same (hC _ _ _) ?_
  simp only [kq, m1, n0, t1, g1, go_sem]
  repeat refine sd2 ?_
  refine ⟨dyn1 m2, (), (so0 hF2)⟩
 clear hC
 refine vcu ⟨[some (.ptr m 0 0), some (.int .i64 0), none, none, none, none, none, some (.ptr ⟨L + 1, 10480⟩ 0 0), some (.nilS)] ++ oz 100, [(⟨L + 1, 10480⟩, .rows 28 20 true true [(gR h [])])], 70000⟩ ?_ ?_
 ·simp only [Tryz.f12, hdC, tlC, Option.getD_some, cx, go_sem, meths]
  repeat refine sd2 ?_
  refine loopK.unit ?_
  have q2 : decide ((0 : Int) < 0) = false := rfl
  simp only [q2, go_sem]
  repeat refine sd2 ?_
  refine ⟨(), (so0 hF2)⟩
 refine vcu ⟨[some (.ptr m 0 0), some (.int .i64 0), none, none, none, none, none, none, some (.nilS)] ++ oz 100, [(m, .rows 33 43 true false [(gR h (gR k.g1 [va, (.sl b 0 k.w1.length), .int .i64 k.now]))])], 80000⟩ ?_ ?_
 ·simp only [Tryz.f12, hdC, tlC, Option.getD_some, cx, kq, m1, Nat.add_zero, go_sem, meths]
  repeat refine sd2 ?_
  refine ⟨dyn1 m2, (), (so0 hF2 (h2 := by simp [subH, Tx.look, m1]) (h3 := by simp [subK, keys, m2]))⟩
 refine VT.of (cxOk (L + 1)) ?_
 simp only [Tryz.f12, tlC, Option.getD_some, cx, kq, c1, kb, z1, List.length_map, go_sem, meths]
 repeat refine sd2 ?_
 refine ⟨okDyn_num (fun x => if x = m then 1 else if x = b then 1 else x.i + 2) (by simp only [numF, List.map, if_true]; kernel_rfl), .now (PostN.val [] (.inr rfl) (by simp) (p := True) (v0 := .bool true) ?_ trivial ?_ ?_ ⟨by omega, ?_, trivial⟩ ?_)⟩
 ·simp only [resVal, resVals, resVal1, one, go_sem]
 ·simp [nmA]
 ·simp [Tx.rn]
 ·rw [kp_nil]
  exact .ren (by simp [Tx.look]; rfl) (by simp [rowsNm, nmA, nmAL, Dn, (hva nx []).1, hbL]) (by simp [Tx.rn, Tx.rnL, (hva nx []).2, sg_out hbL]; try simp [sg])
 ·simp [UpdAll, keys]
theorem does0P_ok {F : SF} {L nx : Nat} (m : Nm) (hm0 : m.l < L ∨ (m.l = L ∧ m.i < nx)) (k : Tk) (kind : Int) (p : Pkx) (hlen : p.cs.length ≤ 1000000) (hb : ∀ c ∈ p.cs, c.bd.length ≤ 1000000) (va : PV) (hva : Outs L va) (b : Nm) (hbL : b.l ≤ L) (h : Gx) (x : Pkx) (hst : gStep k.g0 k.now kind p = (h, [x], 0)) (hbm : b ≠ m) (hwl : k.w1.length ≤ 1000000) (hFb : F b = some (.rows 38 4 true true (k.w1.map Pkx.row))) (hF : F m = some (.rows 33 43 true false [k.row va (.sl b 0 k.w1.length)])) :
  Con Tryz.prog 12 [.ptr m 0 0, .int .i64 0, .agg (.int .i64 kind :: p.row)] F L nx (nx + 1) (.bool true) [(m, .rows 33 43 true false [(Tk.row { k with g0 := h } va (.sl ⟨L, nx⟩ 0 (k.w1.length + 1)))]), (b, .dead), (⟨L, nx⟩, .rows 38 4 true true ((k.w1 ++ [x]).map Pkx.row))] [m, b] := by
 have hm : m.l ≤ L := by omega
 have m1 : ∀ k, (m = (⟨L + 1, k⟩ : Nm)) = False := nm_out hm
 have m2 : ∀ k, ((⟨L + 1, k⟩ : Nm) = m) = False := nm_out' hm
 have b1 : ∀ k, (b = (⟨L + 1, k⟩ : Nm)) = False := nm_out (by omega)
 have b2 : ∀ k, ((⟨L + 1, k⟩ : Nm) = b) = False := nm_out' (by omega)
 have c1 : (b = m) = False := eq_false hbm
 have c2 : (m = b) = False := eq_false (Ne.symm hbm)
 have hS := fun F L nx => stepV_ok (F := F) (L := L) (nx := nx) hst hlen hb
 have hG := step_good hst
 have hC := fun F L nx => gCheck_ok (F := F) (L := L) (nx := nx) h
 rw [hG.ok, if_pos rfl] at hC
 have hta := hG.ta
 have t1 : (h.ta != k.now) = false := by simp; omega
 have e0 : ((0 : Int) == 8) = false := rfl
 have n0 : ((0 : Int) != 0) = false := rfl
 have z1 : ((1 : Int) - 0) = 1 := rfl
 have z2 : ((1 : Int) - 1) = 0 := rfl
 have hx := hG.pk x (by simp)
 have hX := fun F L nx => pkCheck_ok (F := F) (L := L) (nx := nx) x (by
  have := hx.1; unfold Pkx.ok Pkx.hd at this; simp only [Bool.and_eq_true, decide_eq_true_eq] at this; omega) (by
  have := hx.1; unfold Pkx.ok at this; simp only [Bool.and_eq_true, List.all_eq_true] at this
  intro c hc
  have := this.1.2 c hc
  unfold Ckx.ok at this; simp only [Bool.and_eq_true, decide_eq_true_eq] at this; omega)
 rw [hx.1, if_pos rfl] at hX
 have x1 : (x.fr != h.fr) = false := by have := hx.2.1; simp; omega
 have x2 : (x.tt != h.tt) = false := by have := hx.2.2; simp; omega
 have kz : outP [x] = .fs 4 [(pR x)] := rfl
 clear hx
 clear hG hst
 simp only [Tk.row, Gx.row, Pkx.row, kz] at hF hS hC hX ⊢
 refine Con.bodyNT (cxOk (L + 1)) rfl rfl (fn := Tryz.f12) (c := Tryz.f12.body.getD .skip) (by kernel_rfl) (by rfl) (by kernel_rfl) rfl  (by simp; omega) ?_
 intro F3 hF1 hF2
 have kq := (hF1 m (by simp)).trans hF
 have kb := (hF1 b (by simp)).trans hFb
 refine vcu ⟨[some (.ptr m 0 0), some (.int .i64 0), none, none, none, some (.ptr ⟨L + 1, 0⟩ 0 0)] ++ oz 103, [(⟨L + 1, 0⟩, .rows 40 5 true true [[.int .i64 kind, .int .i64 p.fr, .int .i64 p.tt, .int .i64 p.tg, .fs 3 (p.cs.map Ckx.row)]])], 10000⟩ ?_ ?_
 ·simp only [Tryz.f12, hdC, Option.getD_some, cx, go_sem, meths]
  repeat refine sd2 ?_
  refine ⟨(), (so0 hF2)⟩
 refine vcu ⟨[some (.ptr m 0 0), some (.int .i64 0), none, none, none, none, none, some (.ptr ⟨L + 1, 10480⟩ 0 0), some (.fs 4 [(pR x)]), some (.int .i64 0)] ++ oz 99, [(⟨L + 1, 10480⟩, .rows 28 20 true true [(gR h [])])], 20000⟩ ?_ ?_
 ·simp only [Tryz.f12, hdC, tlC, Option.getD_some, cx, kq, m1, Nat.add_zero, go_sem, meths]
  repeat refine sd2 ?_
  refine CallVC.same (hS _ _ _) ?_
  simp only [go_sem]
  repeat refine sd2 ?_
  refine ⟨dyn1 m2, (), (so0 hF2)⟩
 clear hS
 refine vcu ⟨[some (.ptr m 0 0), some (.int .i64 0), none, none, none, none, none, some (.ptr ⟨L + 1, 10480⟩ 0 0), some (.fs 4 [(pR x)]), some (.int .i64 0)] ++ oz 99, [(⟨L + 1, 10480⟩, .rows 28 20 true true [(gR h [])])], 30000⟩ ?_ ?_
 ·simp only [Tryz.f12, hdC, tlC, Option.getD_some, cx, e0, go_sem, meths]
  repeat refine sd2 ?_
  refine ⟨(), (so0 hF2)⟩
 have g1 : decide ((0 : Int) > 1) = false := rfl
 have g2 : decide ((1 : Int) > 1) = false := rfl
 have g1' : decide ((1 : Int) < 0) = false := rfl
 have g2' : decide ((1 : Int) < 1) = false := rfl
 have g3' : decide ((1 : Int) < ((1 : Nat) : Int)) = false := rfl
 refine vcu ⟨[some (.ptr m 0 0), some (.int .i64 0), none, none, none, none, none, some (.ptr ⟨L + 1, 10480⟩ 0 0), some (.fs 4 [(pR x)])] ++ oz 100, [(⟨L + 1, 10480⟩, .rows 28 20 true true [(gR h [])])], 40000⟩ ?_ ?_
 ·simp only [Tryz.f12, hdC, tlC, Option.getD_some, cx, n0, go_sem, meths]
  repeat refine sd2 ?_
  refine CallVC.same (hC _ _ _) ?_
  simp only [kq, m1, n0, t1, g3', go_sem]
  repeat refine sd2 ?_
  refine ⟨dyn1 m2, (), (so0 hF2)⟩
 clear hC
 refine vcu ⟨[some (.ptr m 0 0), some (.int .i64 0), none, none, none, none, none, some (.ptr ⟨L + 1, 10480⟩ 0 0), some (.fs 4 [(pR x)])] ++ oz 100, [(⟨L + 1, 10480⟩, .rows 28 20 true true [(gR h [])])], 70000⟩ ?_ ?_
 ·simp only [Tryz.f12, hdC, tlC, Option.getD_some, cx, go_sem, meths]
  repeat refine sd2 ?_
  refine loopK.intro _ _ (I := fun j : Nat => ⟨[some (.ptr m 0 0), some (.int .i64 0), none, none, none, none, none, some (.ptr ⟨L + 1, 10480⟩ 0 0), some (.fs 4 [(pR x)]), none, none, none, none, none, none, none, none, none, none, none, none, none, none, none, none, none, none, none, none, none, none, none, none, none, none, none, none, none, none, none, none, none, none, none, none, none, none, none, none, none, none, none, none, none, none, none, none, none, none, none, none, none, none, none, some (.fs 4 [(pR x)]), some (.int .i64 1), some (.int .i64 j)] ++ oz 42, [(⟨L + 1, 10480⟩, .rows 28 20 true true [(gR h [])])], 10000 * (j + 5)⟩) (pre := fun j => j ≤ 1) (μ := fun j => 1 - j) 0 (by omega) ?_ ?_
  ·refine Sub.of (hfz hF2) (by simp only [go_sem, subT, and_self, Int.natCast_zero, Int.natCast_one]; try trivial) ?_ (by simp [subK, keys]) (by simp)
   simp [subH, Tx.look]
  intro j hj
  by_cases hlt : j < 1
  ·obtain rfl : j = 0 := by omega
   have q1 : decide (((0 : Nat) : Int) < 1) = true := rfl
   have q2 : decide ((0 : Int) < 1) = true := rfl
   simp only [q2, Int.natCast_zero, Nat.add_zero, go_sem]
   repeat refine sd2 ?_
   refine CallVC.same (hX _ _ _) ?_
   simp only [n0, x1, x2, Nat.add_zero, go_sem]
   repeat refine sd2 ?_
   refine ⟨1, by omega, by omega, ?_⟩
   refine Sub.of (hfz hF2) (by simp only [go_sem, subT, Int.natCast_one]; try trivial) ?_ (by simp [subK, keys]) (by simp)
   simp [subH, Tx.look]
  ·obtain rfl : j = 1 := by omega
   have q1 : decide (((1 : Nat) : Int) < 1) = false := rfl
   have q2 : decide ((1 : Int) < 1) = false := rfl
   simp only [q2, Int.natCast_one, go_sem]
   repeat refine sd2 ?_
   refine ⟨(), (so0 hF2)⟩
 clear hX
 refine vcu ⟨[some (.ptr m 0 0), some (.int .i64 0), none, none, none, none, none, none, some (.fs 4 [(pR x)])] ++ oz 100, [(m, .rows 33 43 true false [(gR h (gR k.g1 [va, (.sl b 0 k.w1.length), .int .i64 k.now]))])], 80000⟩ ?_ ?_
 ·simp only [Tryz.f12, hdC, tlC, Option.getD_some, cx, kq, m1, Nat.add_zero, go_sem, meths]
  repeat refine sd2 ?_
  refine ⟨dyn1 m2, (), (so0 hF2 (h2 := by simp [subH, Tx.look, m1]) (h3 := by simp [subK, keys, m2]))⟩
 refine VT.of (cxOk (L + 1)) ?_
 simp only [Tryz.f12, tlC, Option.getD_some, cx, kq, m1, m2, b2, c1, c2, kb, z1, List.length_map, go_sem, meths]
 repeat refine sd2 ?_
 refine ⟨okDyn_num (fun x => if x = m then 1 else if x = b then 1 else x.i + 2) (by simp only [numF, List.map, m2, b2, if_true, if_false]; kernel_rfl), .now (PostN.val [80352] (.inr rfl) (by simp) (p := True) (v0 := .bool true) ?_ trivial ?_ ?_ ⟨by omega, ?_, by omega, ?_, Nat.le_refl _, ?_, trivial⟩ ?_)⟩
 ·simp only [resVal, resVals, resVal1, one, go_sem]
 ·simp [nmA]
 ·simp [Tx.rn]
 ·rw [kp_out (hm0.imp id fun h => .inl h.2)]
  exact .ren (by simp [Tx.look]; rfl) (by simp [rowsNm, nmA, nmAL, Dn, (hva nx [80352]).1]) (by simp [Tx.rn, Tx.rnL, (hva nx [80352]).2]; try simp [sg])
 ·exact BN_dead
 ·rw [kp_at0 (by simp)]
  exact .pure (by simp [Tx.look, m2, b2, Pkx.row])
 ·simp [UpdAll, keys]
theorem does1P0_ok {pu : Bool} {F : SF} {L nx : Nat} (m : Nm) (hm0 : m.l < L ∨ (m.l = L ∧ m.i < nx)) (k : Tk) (kind : Int) (p : Pkx) (hlen : p.cs.length ≤ 1000000) (hb : ∀ c ∈ p.cs, c.bd.length ≤ 1000000) (va : PV) (hva : Outs L va) (h : Gx) (x : Pkx) (hst : gStep k.g1 k.now kind p = (h, [x], 0)) (hF : F m = some (.rows 33 43 true pu [k.row .nilS va])) :
  Con Tryz.prog 12 [.ptr m 0 0, .int .i64 1, .agg (.int .i64 kind :: p.row)] F L nx (nx + 1) (.bool true) [(m, .rows 33 43 true false [(Tk.row { k with g1 := h } (.sl ⟨L, nx⟩ 0 1) va)]), (⟨L, nx⟩, .rows 38 4 true true ([x].map Pkx.row))] [m] := by
 have hm : m.l ≤ L := by omega
 have m1 : ∀ k, (m = (⟨L + 1, k⟩ : Nm)) = False := nm_out hm
 have m2 : ∀ k, ((⟨L + 1, k⟩ : Nm) = m) = False := nm_out' hm
 have hS := fun F L nx => stepV_ok (F := F) (L := L) (nx := nx) hst hlen hb
 have hG := step_good hst
 have hC := fun F L nx => gCheck_ok (F := F) (L := L) (nx := nx) h
 rw [hG.ok, if_pos rfl] at hC
 have hta := hG.ta
 have t1 : (h.ta != k.now) = false := by simp; omega
 have e0 : ((0 : Int) == 8) = false := rfl
 have n0 : ((0 : Int) != 0) = false := rfl
 have z1 : ((1 : Int) - 0) = 1 := rfl
 have z2 : ((1 : Int) - 1) = 0 := rfl
 have hx := hG.pk x (by simp)
 have hX := fun F L nx => pkCheck_ok (F := F) (L := L) (nx := nx) x (by
  have := hx.1; unfold Pkx.ok Pkx.hd at this; simp only [Bool.and_eq_true, decide_eq_true_eq] at this; omega) (by
  have := hx.1; unfold Pkx.ok at this; simp only [Bool.and_eq_true, List.all_eq_true] at this
  intro c hc
  have := this.1.2 c hc
  unfold Ckx.ok at this; simp only [Bool.and_eq_true, decide_eq_true_eq] at this; omega)
 rw [hx.1, if_pos rfl] at hX
 have x1 : (x.fr != h.fr) = false := by have := hx.2.1; simp; omega
 have x2 : (x.tt != h.tt) = false := by have := hx.2.2; simp; omega
 have kz : outP [x] = .fs 4 [(pR x)] := rfl
 clear hx
 clear hG hst
 simp only [Tk.row, Gx.row, Pkx.row, kz] at hF hS hC hX ⊢
 refine Con.bodyNT (cxOk (L + 1)) rfl rfl (fn := Tryz.f12) (c := Tryz.f12.body.getD .skip) (by kernel_rfl) (by rfl) (by kernel_rfl) rfl  (by simp; omega) ?_
 intro F3 hF1 hF2
 have kq := (hF1 m (by simp)).trans hF
 refine vcu ⟨[some (.ptr m 0 0), some (.int .i64 1), none, none, none, some (.ptr ⟨L + 1, 0⟩ 0 0)] ++ oz 103, [(⟨L + 1, 0⟩, .rows 40 5 true true [[.int .i64 kind, .int .i64 p.fr, .int .i64 p.tt, .int .i64 p.tg, .fs 3 (p.cs.map Ckx.row)]])], 10000⟩ ?_ ?_
 ·simp only [Tryz.f12, hdC, Option.getD_some, cx, go_sem, meths]
  repeat refine sd2 ?_
  refine ⟨(), (so0 hF2)⟩
 refine vcu ⟨[some (.ptr m 0 0), some (.int .i64 1), none, none, none, none, none, some (.ptr ⟨L + 1, 10480⟩ 0 0), some (.fs 4 [(pR x)]), some (.int .i64 0)] ++ oz 99, [(⟨L + 1, 10480⟩, .rows 28 20 true true [(gR h [])])], 20000⟩ ?_ ?_
 ·simp only [Tryz.f12, hdC, tlC, Option.getD_some, cx, kq, m1, Nat.add_zero, go_sem, meths]
  repeat refine sd2 ?_
  refine CallVC.same (hS _ _ _) ?_
  simp only [go_sem]
  repeat refine sd2 ?_
  refine ⟨dyn1 m2, (), (so0 hF2)⟩
 clear hS
 refine vcu ⟨[some (.ptr m 0 0), some (.int .i64 1), none, none, none, none, none, some (.ptr ⟨L + 1, 10480⟩ 0 0), some (.fs 4 [(pR x)]), some (.int .i64 0)] ++ oz 99, [(⟨L + 1, 10480⟩, .rows 28 20 true true [(gR h [])])], 30000⟩ ?_ ?_
 ·simp only [Tryz.f12, hdC, tlC, Option.getD_some, cx, e0, go_sem, meths]
  repeat refine sd2 ?_
  refine ⟨(), (so0 hF2)⟩
 have g1 : decide ((0 : Int) > 1) = false := rfl
 have g2 : decide ((1 : Int) > 1) = false := rfl
 have g1' : decide ((1 : Int) < 0) = false := rfl
 have g2' : decide ((1 : Int) < 1) = false := rfl
 have g3' : decide ((1 : Int) < ((1 : Nat) : Int)) = false := rfl
 refine vcu ⟨[some (.ptr m 0 0), some (.int .i64 1), none, none, none, none, none, some (.ptr ⟨L + 1, 10480⟩ 0 0), some (.fs 4 [(pR x)])] ++ oz 100, [(⟨L + 1, 10480⟩, .rows 28 20 true true [(gR h [])])], 40000⟩ ?_ ?_
 ·simp only [Tryz.f12, hdC, tlC, Option.getD_some, cx, n0, go_sem, meths]
  repeat refine sd2 ?_
  refine CallVC.same (hC _ _ _) ?_
  simp only [kq, m1, n0, t1, g3', go_sem]
  repeat refine sd2 ?_
  refine ⟨dyn1 m2, (), (so0 hF2)⟩
 clear hC
 refine vcu ⟨[some (.ptr m 0 0), some (.int .i64 1), none, none, none, none, none, some (.ptr ⟨L + 1, 10480⟩ 0 0), some (.fs 4 [(pR x)])] ++ oz 100, [(⟨L + 1, 10480⟩, .rows 28 20 true true [(gR h [])])], 70000⟩ ?_ ?_
 ·simp only [Tryz.f12, hdC, tlC, Option.getD_some, cx, go_sem, meths]
  repeat refine sd2 ?_
  refine loopK.intro _ _ (I := fun j : Nat => ⟨[some (.ptr m 0 0), some (.int .i64 1), none, none, none, none, none, some (.ptr ⟨L + 1, 10480⟩ 0 0), some (.fs 4 [(pR x)]), none, none, none, none, none, none, none, none, none, none, none, none, none, none, none, none, none, none, none, none, none, none, none, none, none, none, none, none, none, none, none, none, none, none, none, none, none, none, none, none, none, none, none, none, none, none, none, none, none, none, none, none, none, none, none, some (.fs 4 [(pR x)]), some (.int .i64 1), some (.int .i64 j)] ++ oz 42, [(⟨L + 1, 10480⟩, .rows 28 20 true true [(gR h [])])], 10000 * (j + 5)⟩) (pre := fun j => j ≤ 1) (μ := fun j => 1 - j) 0 (by omega) ?_ ?_
  ·refine Sub.of (hfz hF2) (by simp only [go_sem, subT, and_self, Int.natCast_zero, Int.natCast_one]; try trivial) ?_ (by simp [subK, keys]) (by simp)
   simp [subH, Tx.look]
  intro j hj
  by_cases hlt : j < 1
  ·obtain rfl : j = 0 := by omega
   have q1 : decide (((0 : Nat) : Int) < 1) = true := rfl
   have q2 : decide ((0 : Int) < 1) = true := rfl
   simp only [q2, Int.natCast_zero, Nat.add_zero, go_sem]
   repeat refine sd2 ?_
   refine CallVC.same (hX _ _ _) ?_
   simp only [n0, x1, x2, Nat.add_zero, go_sem]
   repeat refine sd2 ?_
   refine ⟨1, by omega, by omega, ?_⟩
   refine Sub.of (hfz hF2) (by simp only [go_sem, subT, Int.natCast_one]; try trivial) ?_ (by simp [subK, keys]) (by simp)
   simp [subH, Tx.look]
  ·obtain rfl : j = 1 := by omega
   have q1 : decide (((1 : Nat) : Int) < 1) = false := rfl
   have q2 : decide ((1 : Int) < 1) = false := rfl
   simp only [q2, Int.natCast_one, go_sem]
   repeat refine sd2 ?_
   refine ⟨(), (so0 hF2)⟩
 clear hX
 refine vcu ⟨[some (.ptr m 0 0), some (.int .i64 1), none, none, none, none, none, none, some (.fs 4 [(pR x)])] ++ oz 100, [(m, .rows 33 43 true pu [(gR k.g0 (gR h [.nilS, va, .int .i64 k.now]))])], 80000⟩ ?_ ?_
 ·simp only [Tryz.f12, hdC, tlC, Option.getD_some, cx, kq, m1, Nat.add_zero, go_sem, meths]
  repeat refine sd2 ?_
  refine ⟨dyn1 m2, (), (so0 hF2 (h2 := by simp [subH, Tx.look, m1]) (h3 := by simp [subK, keys, m2]))⟩
 refine VT.of (cxOk (L + 1)) ?_
 simp only [Tryz.f12, tlC, Option.getD_some, cx, kq, m1, m2, z2, Nat.add_zero, go_sem, meths]
 repeat refine sd2 ?_
 refine ⟨dyn1 m2, .now (PostN.val [80352] (.inr rfl) (by simp) (p := True) (v0 := .bool true) ?_ trivial ?_ ?_ ⟨by omega, ?_, Nat.le_refl _, ?_, trivial⟩ ?_)⟩
 ·simp only [resVal, resVals, resVal1, one, go_sem]
 ·simp [nmA]
 ·simp [Tx.rn]
 ·rw [kp_out (hm0.imp id fun h => .inl h.2)]
  exact .ren (by simp [Tx.look]; rfl) (by simp [rowsNm, nmA, nmAL, Dn, (hva nx [80352]).1]) (by simp [Tx.rn, Tx.rnL, (hva nx [80352]).2]; try simp [sg])
 ·rw [kp_at0 (by simp)]
  exact .pure (by simp [Tx.look, m2, Pkx.row])
 ·simp [UpdAll, keys]
theorem does1Z_ok {F : SF} {L nx : Nat} (m : Nm) (hm0 : m.l < L ∨ (m.l = L ∧ m.i < nx)) (k : Tk) (kind : Int) (p : Pkx) (hlen : p.cs.length ≤ 1000000) (hb : ∀ c ∈ p.cs, c.bd.length ≤ 1000000) (va : PV) (hva : Outs L va) (b : Nm) (hbL : b.l ≤ L) (h : Gx) (hst : gStep k.g1 k.now kind p = (h, [], 0)) (hbm : b ≠ m) (hwl : k.w0.length ≤ 1000000) (hFb : F b = some (.rows 38 4 true true (k.w0.map Pkx.row))) (hF : F m = some (.rows 33 43 true false [k.row (.sl b 0 k.w0.length) va])) :
  Con Tryz.prog 12 [.ptr m 0 0, .int .i64 1, .agg (.int .i64 kind :: p.row)] F L nx nx (.bool true) [(m, .rows 33 43 true false [(Tk.row { k with g1 := h } (.sl b 0 k.w0.length) va)])] [m, b] := by
 have hm : m.l ≤ L := by omega
 have m1 : ∀ k, (m = (⟨L + 1, k⟩ : Nm)) = False := nm_out hm
 have m2 : ∀ k, ((⟨L + 1, k⟩ : Nm) = m) = False := nm_out' hm
 have b1 : ∀ k, (b = (⟨L + 1, k⟩ : Nm)) = False := nm_out (by omega)
 have b2 : ∀ k, ((⟨L + 1, k⟩ : Nm) = b) = False := nm_out' (by omega)
 have c1 : (b = m) = False := eq_false hbm
 have c2 : (m = b) = False := eq_false (Ne.symm hbm)
 have hS := fun F L nx => stepV_ok (F := F) (L := L) (nx := nx) hst hlen hb
 have hG := step_good hst
 have hC := fun F L nx => gCheck_ok (F := F) (L := L) (nx := nx) h
 rw [hG.ok, if_pos rfl] at hC
 have hta := hG.ta
 have t1 : (h.ta != k.now) = false := by simp; omega
 have e0 : ((0 : Int) == 8) = false := rfl
 have n0 : ((0 : Int) != 0) = false := rfl
 have z1 : ((1 : Int) - 0) = 1 := rfl
 have z2 : ((1 : Int) - 1) = 0 := rfl
 have kz : outP [] = .nilS := rfl
 clear hG hst
 simp only [Tk.row, Gx.row, Pkx.row, kz] at hF hS hC ⊢
 show Con _ _ _ F L nx (nx + 0) _ _ _
 refine Con.bodyNT (cxOk (L + 1)) rfl rfl (fn := Tryz.f12) (c := Tryz.f12.body.getD .skip) (by kernel_rfl) (by rfl) (by kernel_rfl) rfl  (by simp; omega) ?_
 intro F3 hF1 hF2
 have kq := (hF1 m (by simp)).trans hF
 have kb := (hF1 b (by simp)).trans hFb
 refine vcu ⟨[some (.ptr m 0 0), some (.int .i64 1), none, none, none, some (.ptr ⟨L + 1, 0⟩ 0 0)] ++ oz 103, [(⟨L + 1, 0⟩, .rows 40 5 true true [[.int .i64 kind, .int .i64 p.fr, .int .i64 p.tt, .int .i64 p.tg, .fs 3 (p.cs.map Ckx.row)]])], 10000⟩ ?_ ?_
 ·simp only [Tryz.f12, hdC, Option.getD_some, cx, go_sem, meths]
  repeat refine sd2 ?_
  refine ⟨(), (so0 hF2)⟩
 refine vcu ⟨[some (.ptr m 0 0), some (.int .i64 1), none, none, none, none, none, some (.ptr ⟨L + 1, 10480⟩ 0 0), some (.nilS), some (.int .i64 0)] ++ oz 99, [(⟨L + 1, 10480⟩, .rows 28 20 true true [(gR h [])])], 20000⟩ ?_ ?_
 ·simp only [Tryz.f12, hdC, tlC, Option.getD_some, cx, kq, m1, Nat.add_zero, go_sem, meths]
  repeat refine sd2 ?_
  refine CallVC.same (hS _ _ _) ?_
  simp only [go_sem]
  repeat refine sd2 ?_
  refine ⟨dyn1 m2, (), (so0 hF2)⟩
 clear hS
 refine vcu ⟨[some (.ptr m 0 0), some (.int .i64 1), none, none, none, none, none, some (.ptr ⟨L + 1, 10480⟩ 0 0), some (.nilS), some (.int .i64 0)] ++ oz 99, [(⟨L + 1, 10480⟩, .rows 28 20 true true [(gR h [])])], 30000⟩ ?_ ?_
 ·simp only [Tryz.f12, hdC, tlC, Option.getD_some, cx, e0, go_sem, meths]
  repeat refine sd2 ?_
  refine ⟨(), (so0 hF2)⟩
 have g1 : decide ((0 : Int) > 1) = false := rfl
 have g2 : decide ((1 : Int) > 1) = false := rfl
 have g1' : decide ((1 : Int) < 0) = false := rfl
 have g2' : decide ((1 : Int) < 1) = false := rfl
 have g3' : decide ((1 : Int) < ((1 : Nat) : Int)) = false := rfl
 refine vcu ⟨[some (.ptr m 0 0), some (.int .i64 1), none, none, none, none, none, some (.ptr ⟨L + 1, 10480⟩ 0 0), some (.nilS)] ++ oz 100, [(⟨L + 1, 10480⟩, .rows 28 20 true true [(gR h [])])], 40000⟩ ?_ ?_
 ·simp only [Tryz.f12, hdC, tlC, Option.getD_some, cx, n0, go_sem, meths]
  repeat refine sd2 ?_
  refine CallVC.same (hC _ _ _) ?_
  simp only [kq, m1, n0, t1, g1, go_sem]
  repeat refine sd2 ?_
  refine ⟨dyn1 m2, (), (so0 hF2)⟩
 clear hC
 refine vcu ⟨[some (.ptr m 0 0), some (.int .i64 1), none, none, none, none, none, some (.ptr ⟨L + 1, 10480⟩ 0 0), some (.nilS)] ++ oz 100, [(⟨L + 1, 10480⟩, .rows 28 20 true true [(gR h [])])], 70000⟩ ?_ ?_
 ·simp only [Tryz.f12, hdC, tlC, Option.getD_some, cx, go_sem, meths]
  repeat refine sd2 ?_
  refine loopK.unit ?_
  have q2 : decide ((0 : Int) < 0) = false := rfl
  simp only [q2, go_sem]
  repeat refine sd2 ?_
  refine ⟨(), (so0 hF2)⟩
 refine vcu ⟨[some (.ptr m 0 0), some (.int .i64 1), none, none, none, none, none, none, some (.nilS)] ++ oz 100, [(m, .rows 33 43 true false [(gR k.g0 (gR h [(.sl b 0 k.w0.length), va, .int .i64 k.now]))])], 80000⟩ ?_ ?_
 ·simp only [Tryz.f12, hdC, tlC, Option.getD_some, cx, kq, m1, Nat.add_zero, go_sem, meths]
  repeat refine sd2 ?_
  refine ⟨dyn1 m2, (), (so0 hF2 (h2 := by simp [subH, Tx.look, m1]) (h3 := by simp [subK, keys, m2]))⟩
 refine VT.of (cxOk (L + 1)) ?_
 simp only [Tryz.f12, tlC, Option.getD_some, cx, kq, c1, kb, z2, List.length_map, Nat.add_zero, go_sem, meths]
 repeat refine sd2 ?_
 refine ⟨okDyn_num (fun x => if x = m then 1 else if x = b then 1 else x.i + 2) (by simp only [numF, List.map, if_true]; kernel_rfl), .now (PostN.val [] (.inr rfl) (by simp) (p := True) (v0 := .bool true) ?_ trivial ?_ ?_ ⟨by omega, ?_, trivial⟩ ?_)⟩
 ·simp only [resVal, resVals, resVal1, one, go_sem]
 ·simp [nmA]
 ·simp [Tx.rn]
 ·rw [kp_nil]
  exact .ren (by simp [Tx.look]; rfl) (by simp [rowsNm, nmA, nmAL, Dn, (hva nx []).1, hbL]) (by simp [Tx.rn, Tx.rnL, (hva nx []).2, sg_out hbL]; try simp [sg])
 ·simp [UpdAll, keys]
theorem does1P_ok {F : SF} {L nx : Nat} (m : Nm) (hm0 : m.l < L ∨ (m.l = L ∧ m.i < nx)) (k : Tk) (kind : Int) (p : Pkx) (hlen : p.cs.length ≤ 1000000) (hb : ∀ c ∈ p.cs, c.bd.length ≤ 1000000) (va : PV) (hva : Outs L va) (b : Nm) (hbL : b.l ≤ L) (h : Gx) (x : Pkx) (hst : gStep k.g1 k.now kind p = (h, [x], 0)) (hbm : b ≠ m) (hwl : k.w0.length ≤ 1000000) (hFb : F b = some (.rows 38 4 true true (k.w0.map Pkx.row))) (hF : F m = some (.rows 33 43 true false [k.row (.sl b 0 k.w0.length) va])) :
  Con Tryz.prog 12 [.ptr m 0 0, .int .i64 1, .agg (.int .i64 kind :: p.row)] F L nx (nx + 1) (.bool true) [(m, .rows 33 43 true false [(Tk.row { k with g1 := h } (.sl ⟨L, nx⟩ 0 (k.w0.length + 1)) va)]), (b, .dead), (⟨L, nx⟩, .rows 38 4 true true ((k.w0 ++ [x]).map Pkx.row))] [m, b] := by
 have hm : m.l ≤ L := by omega
 have m1 : ∀ k, (m = (⟨L + 1, k⟩ : Nm)) = False := nm_out hm
 have m2 : ∀ k, ((⟨L + 1, k⟩ : Nm) = m) = False := nm_out' hm
 have b1 : ∀ k, (b = (⟨L + 1, k⟩ : Nm)) = False := nm_out (by omega)
 have b2 : ∀ k, ((⟨L + 1, k⟩ : Nm) = b) = False := nm_out' (by omega)
 have c1 : (b = m) = False := eq_false hbm
 have c2 : (m = b) = False := eq_false (Ne.symm hbm)
 have hS := fun F L nx => stepV_ok (F := F) (L := L) (nx := nx) hst hlen hb
 have hG := step_good hst
 have hC := fun F L nx => gCheck_ok (F := F) (L := L) (nx := nx) h
 rw [hG.ok, if_pos rfl] at hC
 have hta := hG.ta
 have t1 : (h.ta != k.now) = false := by simp; omega
 have e0 : ((0 : Int) == 8) = false := rfl
 have n0 : ((0 : Int) != 0) = false := rfl
 have z1 : ((1 : Int) - 0) = 1 := rfl
 have z2 : ((1 : Int) - 1) = 0 := rfl
 have hx := hG.pk x (by simp)
 have hX := fun F L nx => pkCheck_ok (F := F) (L := L) (nx := nx) x (by
  have := hx.1; unfold Pkx.ok Pkx.hd at this; simp only [Bool.and_eq_true, decide_eq_true_eq] at this; omega) (by
  have := hx.1; unfold Pkx.ok at this; simp only [Bool.and_eq_true, List.all_eq_true] at this
  intro c hc
  have := this.1.2 c hc
  unfold Ckx.ok at this; simp only [Bool.and_eq_true, decide_eq_true_eq] at this; omega)
 rw [hx.1, if_pos rfl] at hX
 have x1 : (x.fr != h.fr) = false := by have := hx.2.1; simp; omega
 have x2 : (x.tt != h.tt) = false := by have := hx.2.2; simp; omega
 have kz : outP [x] = .fs 4 [(pR x)] := rfl
 clear hx
 clear hG hst
 simp only [Tk.row, Gx.row, Pkx.row, kz] at hF hS hC hX ⊢
 refine Con.bodyNT (cxOk (L + 1)) rfl rfl (fn := Tryz.f12) (c := Tryz.f12.body.getD .skip) (by kernel_rfl) (by rfl) (by kernel_rfl) rfl  (by simp; omega) ?_
 intro F3 hF1 hF2
 have kq := (hF1 m (by simp)).trans hF
 have kb := (hF1 b (by simp)).trans hFb
 refine vcu ⟨[some (.ptr m 0 0), some (.int .i64 1), none, none, none, some (.ptr ⟨L + 1, 0⟩ 0 0)] ++ oz 103, [(⟨L + 1, 0⟩, .rows 40 5 true true [[.int .i64 kind, .int .i64 p.fr, .int .i64 p.tt, .int .i64 p.tg, .fs 3 (p.cs.map Ckx.row)]])], 10000⟩ ?_ ?_
 ·simp only [Tryz.f12, hdC, Option.getD_some, cx, go_sem, meths]
  repeat refine sd2 ?_
  refine ⟨(), (so0 hF2)⟩
 refine vcu ⟨[some (.ptr m 0 0), some (.int .i64 1), none, none, none, none, none, some (.ptr ⟨L + 1, 10480⟩ 0 0), some (.fs 4 [(pR x)]), some (.int .i64 0)] ++ oz 99, [(⟨L + 1, 10480⟩, .rows 28 20 true true [(gR h [])])], 20000⟩ ?_ ?_
 ·simp only [Tryz.f12, hdC, tlC, Option.getD_some, cx, kq, m1, Nat.add_zero, go_sem, meths]
  repeat refine sd2 ?_
  refine CallVC.same (hS _ _ _) ?_
  simp only [go_sem]
  repeat refine sd2 ?_
  refine ⟨dyn1 m2, (), (so0 hF2)⟩
 clear hS
 refine vcu ⟨[some (.ptr m 0 0), some (.int .i64 1), none, none, none, none, none, some (.ptr ⟨L + 1, 10480⟩ 0 0), some (.fs 4 [(pR x)]), some (.int .i64 0)] ++ oz 99, [(⟨L + 1, 10480⟩, .rows 28 20 true true [(gR h [])])], 30000⟩ ?_ ?_
 ·simp only [Tryz.f12, hdC, tlC, Option.getD_some, cx, e0, go_sem, meths]
  repeat refine sd2 ?_
  refine ⟨(), (so0 hF2)⟩
 have g1 : decide ((0 : Int) > 1) = false := rfl
 have g2 : decide ((1 : Int) > 1) = false := rfl
 have g1' : decide ((1 : Int) < 0) = false := rfl
 have g2' : decide ((1 : Int) < 1) = false := rfl
 have g3' : decide ((1 : Int) < ((1 : Nat) : Int)) = false := rfl
 refine vcu ⟨[some (.ptr m 0 0), some (.int .i64 1), none, none, none, none, none, some (.ptr ⟨L + 1, 10480⟩ 0 0), some (.fs 4 [(pR x)])] ++ oz 100, [(⟨L + 1, 10480⟩, .rows 28 20 true true [(gR h [])])], 40000⟩ ?_ ?_
 ·simp only [Tryz.f12, hdC, tlC, Option.getD_some, cx, n0, go_sem, meths]
  repeat refine sd2 ?_
  refine CallVC.same (hC _ _ _) ?_
  simp only [kq, m1, n0, t1, g3', go_sem]
  repeat refine sd2 ?_
  refine ⟨dyn1 m2, (), (so0 hF2)⟩
 clear hC
 refine vcu ⟨[some (.ptr m 0 0), some (.int .i64 1), none, none, none, none, none, some (.ptr ⟨L + 1, 10480⟩ 0 0), some (.fs 4 [(pR x)])] ++ oz 100, [(⟨L + 1, 10480⟩, .rows 28 20 true true [(gR h [])])], 70000⟩ ?_ ?_
 ·simp only [Tryz.f12, hdC, tlC, Option.getD_some, cx, go_sem, meths]
  repeat refine sd2 ?_
  refine loopK.intro _ _ (I := fun j : Nat => ⟨[some (.ptr m 0 0), some (.int .i64 1), none, none, none, none, none, some (.ptr ⟨L + 1, 10480⟩ 0 0), some (.fs 4 [(pR x)]), none, none, none, none, none, none, none, none, none, none, none, none, none, none, none, none, none, none, none, none, none, none, none, none, none, none, none, none, none, none, none, none, none, none, none, none, none, none, none, none, none, none, none, none, none, none, none, none, none, none, none, none, none, none, none, some (.fs 4 [(pR x)]), some (.int .i64 1), some (.int .i64 j)] ++ oz 42, [(⟨L + 1, 10480⟩, .rows 28 20 true true [(gR h [])])], 10000 * (j + 5)⟩) (pre := fun j => j ≤ 1) (μ := fun j => 1 - j) 0 (by omega) ?_ ?_
  ·refine Sub.of (hfz hF2) (by simp only [go_sem, subT, and_self, Int.natCast_zero, Int.natCast_one]; try trivial) ?_ (by simp [subK, keys]) (by simp)
   simp [subH, Tx.look]
  intro j hj
  by_cases hlt : j < 1
  ·obtain rfl : j = 0 := by omega
   have q1 : decide (((0 : Nat) : Int) < 1) = true := rfl
   have q2 : decide ((0 : Int) < 1) = true := rfl
   simp only [q2, Int.natCast_zero, Nat.add_zero, go_sem]
   repeat refine sd2 ?_
   refine CallVC.same (hX _ _ _) ?_
   simp only [n0, x1, x2, Nat.add_zero, go_sem]
   repeat refine sd2 ?_
   refine ⟨1, by omega, by omega, ?_⟩
   refine Sub.of (hfz hF2) (by simp only [go_sem, subT, Int.natCast_one]; try trivial) ?_ (by simp [subK, keys]) (by simp)
   simp [subH, Tx.look]
  ·obtain rfl : j = 1 := by omega
   have q1 : decide (((1 : Nat) : Int) < 1) = false := rfl
   have q2 : decide ((1 : Int) < 1) = false := rfl
   simp only [q2, Int.natCast_one, go_sem]
   repeat refine sd2 ?_
   refine ⟨(), (so0 hF2)⟩
 clear hX
 refine vcu ⟨[some (.ptr m 0 0), some (.int .i64 1), none, none, none, none, none, none, some (.fs 4 [(pR x)])] ++ oz 100, [(m, .rows 33 43 true false [(gR k.g0 (gR h [(.sl b 0 k.w0.length), va, .int .i64 k.now]))])], 80000⟩ ?_ ?_
 ·simp only [Tryz.f12, hdC, tlC, Option.getD_some, cx, kq, m1, Nat.add_zero, go_sem, meths]
  repeat refine sd2 ?_
  refine ⟨dyn1 m2, (), (so0 hF2 (h2 := by simp [subH, Tx.look, m1]) (h3 := by simp [subK, keys, m2]))⟩
 refine VT.of (cxOk (L + 1)) ?_
 simp only [Tryz.f12, tlC, Option.getD_some, cx, kq, m1, m2, b2, c1, c2, kb, z2, List.length_map, Nat.add_zero, go_sem, meths]
 repeat refine sd2 ?_
 refine ⟨okDyn_num (fun x => if x = m then 1 else if x = b then 1 else x.i + 2) (by simp only [numF, List.map, m2, b2, if_true, if_false]; kernel_rfl), .now (PostN.val [80352] (.inr rfl) (by simp) (p := True) (v0 := .bool true) ?_ trivial ?_ ?_ ⟨by omega, ?_, by omega, ?_, Nat.le_refl _, ?_, trivial⟩ ?_)⟩
 ·simp only [resVal, resVals, resVal1, one, go_sem]
 ·simp [nmA]
 ·simp [Tx.rn]
 ·rw [kp_out (hm0.imp id fun h => .inl h.2)]
  exact .ren (by simp [Tx.look]; rfl) (by simp [rowsNm, nmA, nmAL, Dn, (hva nx [80352]).1]) (by simp [Tx.rn, Tx.rnL, (hva nx [80352]).2]; try simp [sg])
 ·exact BN_dead
 ·rw [kp_at0 (by simp)]
  exact .pure (by simp [Tx.look, m2, b2, Pkx.row])
 ·simp [UpdAll, keys]
end Go.Proofs.YtifhjhbfhdcahaaGreat
end
