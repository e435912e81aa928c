/- Lemmas for the walk: GK103. -/
import Derived.Test.YtifhjhbfhdcahaaGreatP20
set_option linter.all false
section
namespace Go.Proofs.YtifhjhbfhdcahaaGreat
open Go.Tx
set_option maxRecDepth 100000
set_option maxHeartbeats 16000000
def Pkx.sm (p : Pkx) : Prop := p.cs.length ≤ 1000000 ∧ ∀ c ∈ p.cs, c.bd.length ≤ 1000000
theorem eraseRows (w z : List Pkx) {i : Nat} (h : i < w.length) : (((w ++ z).map Pkx.row).take i) ++ (((w ++ z).map Pkx.row).drop (i + 1)).take (w.length - (i + 1)) = (w.eraseIdx i).map Pkx.row := by
 rw [← List.map_take, ← List.map_drop, ← List.map_take, ← List.map_append, List.take_append_of_le_length (by omega), List.drop_append_of_le_length (by omega), List.take_append_of_le_length (by simp), List.take_of_length_le (l := List.drop _ _) (by simp), List.eraseIdx_eq_take_drop_succ]
theorem takes0E_ok {F : SF} {L nx : Nat} (m : Nm) (hm : m.l ≤ L) (k : Tk) (which : Int) (kp lo : Bool) (a : Nm) (hFa : ∃ R, F a = some (.rows 38 4 true true R)) (vo : PV) (hF : F m = some (.rows 33 43 true false [k.row (.sl a 0 0) vo])) :
  Con Tryz.prog 21 [.ptr m 0 0, .int .i64 0, .int .i64 which, .bool kp, .bool lo] F L nx nx (.bool true) [] [m] := by
 have m1 : ∀ k, (m = (⟨L + 1, k⟩ : Nm)) = False := nm_out hm
 have m2 : ∀ k, ((⟨L + 1, k⟩ : Nm) = m) = False := nm_out' hm
 have e0 : (((0 : Nat) : Int) == 0) = true := rfl
 have e1 : ((0 : Int) == 0) = true := rfl
 simp only [Tk.row] at hF ⊢
 refine Con.bodyT (cxOk (L + 1)) rfl rfl (fn := Tryz.f21) (c := Tryz.f21.body.getD .skip) (by kernel_rfl) (by rfl) (by kernel_rfl) rfl  (by simp; omega) ?_
 intro F3 hF1 hF2
 have kq := (hF1 m (by simp)).trans hF
 refine VT.of (cxOk (L + 1)) ?_
 simp only [Tryz.f21, Option.getD_some, cx, kq, e0, Nat.add_zero, go_sem, meths]
 repeat refine sd2 ?_
 exact .bool (.inr rfl) rfl rfl (by simp [UpdAll])
theorem takes0FTL_ok {F : SF} {L nx : Nat} (m : Nm) (hm0 : m.l < L ∨ (m.l = L ∧ m.i < nx)) (k : Tk) (a : Nm) (haL : a.l ≤ L) (ham : a ≠ m) (z : List Pkx) (hFa : F a = some (.rows 38 4 true true ((k.w0 ++ z).map Pkx.row))) (which : Int) (at1 : Nat) (hat : which.tmod k.w0.length = at1) (hlt : at1 < k.w0.length) (hal : k.w0.length ≤ 1000000) (p : Pkx) (hp : k.w0[at1]? = some p) (vb : PV) (hvb : Outs L vb) (hF : F m = some (.rows 33 43 true false [k.row (.sl a 0 k.w0.length) vb])) :
  Con Tryz.prog 21 [.ptr m 0 0, .int .i64 0, .int .i64 which, .bool false, .bool true] F L nx (nx + 1) (.bool true) [(m, .rows 33 43 true false [(Tk.row k (.sl ⟨L, nx⟩ 0 (k.w0.length - 1)) vb)]), (⟨L, nx⟩, .rows 38 4 true true ((k.w0.eraseIdx at1).map Pkx.row))] [m, a] := by
 have hm : m.l ≤ L := by omega
 have m1 : ∀ k, (m = (⟨L + 1, k⟩ : Nm)) = False := nm_out hm
 have m2 : ∀ k, ((⟨L + 1, k⟩ : Nm) = m) = False := nm_out' hm
 have a1 : ∀ k, (a = (⟨L + 1, k⟩ : Nm)) = False := nm_out haL
 have a2 : ∀ k, ((⟨L + 1, k⟩ : Nm) = a) = False := nm_out' haL
 have a3 : ∀ k, ((⟨L + 1, k⟩ : Nm) == a) = false := fun k => by rw [beq_eq_false_iff_ne, ne_eq, a2 k]; exact not_false
 have d1 : (a = m) = False := eq_false ham
 have d2 : (m = a) = False := eq_false (Ne.symm ham)
 obtain ⟨R, hR⟩ : ∃ R, R = (k.w0 ++ z).map Pkx.row := ⟨_, rfl⟩
 have er := eraseRows k.w0 z hlt
 have ln : R.length = k.w0.length + z.length := by rw [hR]; simp
 have gr : R.getD at1 [] = p.row := by
  rw [hR, List.getD_eq_getElem?_getD, List.getElem?_map, List.getElem?_append_left hlt, hp]; rfl
 rw [← hR] at er hFa
 clear hR
 have l1 : (List.take at1 R).length = at1 := by simp; omega
 have l2 : (List.take (k.w0.length - (at1 + 1)) (List.drop (at1 + 1) R)).length = k.w0.length - (at1 + 1) := by simp; omega
 have l3 : at1 + (k.w0.length - (at1 + 1)) = k.w0.length - 1 := by omega
 have tn : ((at1 : Int) + 1).toNat = at1 + 1 := by omega
 have w1 : IntKind.i64.wrap ((at1 : Int) + 1) = (at1 : Int) + 1 := by simp [IntKind.wrap, IntKind.signed, IntKind.bits]; omega
 have e0 : ((k.w0.length : Int) == 0) = false := by
  simp only [beq_eq_false_iff_ne, ne_eq]; omega
 simp only [Tk.row, Pkx.row] at hF gr ⊢
 refine Con.bodyNT (cxOk (L + 1)) rfl rfl (fn := Tryz.f21) (c := Tryz.f21.body.getD .skip) (by kernel_rfl) (by rfl) (by kernel_rfl) rfl  (by simp; omega) ?_
 intro F3 hF1 hF2
 have kq := (hF1 m (by simp)).trans hF
 have ka := (hF1 a (by simp)).trans hFa
 refine vcu ⟨[some (.ptr m 0 0), some (.int .i64 0), some (.int .i64 which), some (.bool false), some (.bool true)] ++ oz 69, [], 1000⟩ ?_ ?_
 ·simp only [Tryz.f21, hdC, Option.getD_some, cx, go_sem, meths]
  repeat refine sd2 ?_
  refine ⟨(), (so0 hF2)⟩
 refine vcu ⟨[some (.ptr m 0 0), some (.int .i64 0), some (.int .i64 which), some (.bool false), some (.bool true)] ++ oz 69, [], 2000⟩ ?_ ?_
 ·simp only [Tryz.f21, hdC, tlC, Option.getD_some, cx, kq, e0, Nat.add_zero, go_sem, meths]
  repeat refine sd2 ?_
  refine ⟨(), (so0 hF2)⟩
 refine vcu ⟨[some (.ptr m 0 0), some (.int .i64 0), some (.int .i64 which), some (.bool false), some (.bool true), none, none, none, none, none, none, some (.int .i64 at1)] ++ oz 62, [], 10000⟩ ?_ ?_
 ·simp only [Tryz.f21, hdC, tlC, Option.getD_some, cx, kq, hat, Nat.add_zero, go_sem, meths]
  repeat refine sd2 ?_
  refine ⟨(), (so0 hF2)⟩
 refine vcu ⟨[some (.ptr m 0 0), some (.int .i64 0), some (.int .i64 which), some (.bool false), some (.bool true), none, none, none, none, none, none, some (.int .i64 at1), some (.ptr ⟨L + 1, 10288⟩ 0 0)] ++ oz 61, [(⟨L + 1, 10288⟩, .rows 38 4 true true [(pR p)])], 20000⟩ ?_ ?_
 ·simp only [Tryz.f21, hdC, tlC, Option.getD_some, cx, kq, ka, ln, gr, Int.toNat_natCast, Nat.add_zero, go_sem, meths]
  repeat refine sd2 ?_
  refine ⟨(), (so0 hF2)⟩
 refine vcu ⟨[some (.ptr m 0 0), some (.int .i64 0), some (.int .i64 which), some (.bool false), some (.bool true), none, none, none, none, none, none, some (.int .i64 at1), some (.ptr ⟨L + 1, 10288⟩ 0 0)] ++ oz 61, [(m, .rows 33 43 true false [(gR k.g0 (gR k.g1 [.sl ⟨L + 1, 20736⟩ 0 (k.w0.length - 1), vb, .int .i64 k.now]))]), (⟨L + 1, 20736⟩, .rows 38 4 true true ((k.w0.eraseIdx at1).map Pkx.row)), (⟨L + 1, 10288⟩, .rows 38 4 true true [(pR p)])], 30000⟩ ?_ ?_
 ·simp only [Tryz.f21, hdC, tlC, Option.getD_some, cx, kq, m1, ka, a1, a3, ln, l1, l2, l3, tn, w1, er, Nat.sub_zero, Int.toNat_natCast, Nat.add_assoc, Nat.add_zero, go_sem, meths]
  repeat refine sd2 ?_
  refine ⟨⟨by omega, by omega, by omega, .inl trivial⟩, ⟨by omega, by omega, by omega⟩, ⟨by omega, by omega⟩, okDyn_num (fun x => if x = m then 1 else if x = a then 0 else x.i + 2) (by simp only [numF, List.map, m2, a2, d1, if_true, if_false]; kernel_rfl), (), (so0 hF2 (h2 := by simp [subH, Tx.look, m1]) (h3 := by simp [subK, keys, m1, m2]))⟩
 refine VT.of (cxOk (L + 1)) ?_
 simp only [Tryz.f21, tlC, Option.getD_some, cx, go_sem, meths]
 repeat refine sd2 ?_
 refine .now (PostN.val [20736] (.inr rfl) (by simp) (p := True) (v0 := .bool true) ?_ trivial ?_ ?_ ⟨by omega, ?_, Nat.le_refl _, ?_, trivial⟩ ?_)
 ·simp only [resVal, resVals, resVal1, one, go_sem]
 ·simp [nmA]
 ·simp [Tx.rn]
 ·rw [kp_out (hm0.imp id fun h => .inl h.2)]
  exact .ren (by simp [Tx.look]; rfl) (by simp [rowsNm, nmA, nmAL, Dn, (hvb nx [20736]).1]) (by simp [Tx.rn, Tx.rnL, (hvb nx [20736]).2]; try simp [sg]; try rfl)
 ·rw [kp_at0 (by simp)]
  exact .pure (by simp [Tx.look, m2])
 ·simp [UpdAll, keys]
theorem takes0FFZ_ok {F : SF} {L nx : Nat} (m : Nm) (hm0 : m.l < L ∨ (m.l = L ∧ m.i < nx)) (k : Tk) (a : Nm) (haL : a.l ≤ L) (ham : a ≠ m) (z : List Pkx) (hFa : F a = some (.rows 38 4 true true ((k.w0 ++ z).map Pkx.row))) (which : Int) (at1 : Nat) (hat : which.tmod k.w0.length = at1) (hlt : at1 < k.w0.length) (hal : k.w0.length ≤ 1000000) (p : Pkx) (hp : k.w0[at1]? = some p) (hsm : p.sm) (h : Gx) (hst : gStep k.g0 k.now 5 p = (h, [], 0)) (b : Nm) (hbL : b.l ≤ L) (hbm : b ≠ m) (hwl : k.w1.length ≤ 1000000) (hFb : F b = some (.rows 38 4 true true (k.w1.map Pkx.row))) (hF : F m = some (.rows 33 43 true false [k.row (.sl a 0 k.w0.length) (.sl b 0 k.w1.length)])) :
  Con Tryz.prog 21 [.ptr m 0 0, .int .i64 0, .int .i64 which, .bool false, .bool false] F L nx (nx + 1) (.bool true) [(m, .rows 33 43 true false [(Tk.row { k with g0 := h } (.sl ⟨L, nx⟩ 0 (k.w0.length - 1)) (.sl b 0 k.w1.length))]), (⟨L, nx⟩, .rows 38 4 true true ((k.w0.eraseIdx at1).map Pkx.row))] [m, a, b] := by
 have hm : m.l ≤ L := by omega
 have m1 : ∀ k, (m = (⟨L + 1, k⟩ : Nm)) = False := nm_out hm
 have m2 : ∀ k, ((⟨L + 1, k⟩ : Nm) = m) = False := nm_out' hm
 have a1 : ∀ k, (a = (⟨L + 1, k⟩ : Nm)) = False := nm_out haL
 have a2 : ∀ k, ((⟨L + 1, k⟩ : Nm) = a) = False := nm_out' haL
 have a3 : ∀ k, ((⟨L + 1, k⟩ : Nm) == a) = false := fun k => by rw [beq_eq_false_iff_ne, ne_eq, a2 k]; exact not_false
 have d1 : (a = m) = False := eq_false ham
 have d2 : (m = a) = False := eq_false (Ne.symm ham)
 have b1 : ∀ k, (b = (⟨L + 1, k⟩ : Nm)) = False := nm_out (by omega)
 have b2 : ∀ k, ((⟨L + 1, k⟩ : Nm) = b) = False := nm_out' (by omega)
 have c1 : (b = m) = False := eq_false hbm
 have c2 : (m = b) = False := eq_false (Ne.symm hbm)
 obtain ⟨R, hR⟩ : ∃ R, R = (k.w0 ++ z).map Pkx.row := ⟨_, rfl⟩
 have er := eraseRows k.w0 z hlt
 have ln : R.length = k.w0.length + z.length := by rw [hR]; simp
 have gr : R.getD at1 [] = p.row := by
  rw [hR, List.getD_eq_getElem?_getD, List.getElem?_map, List.getElem?_append_left hlt, hp]; rfl
 rw [← hR] at er hFa
 clear hR
 have l1 : (List.take at1 R).length = at1 := by simp; omega
 have l2 : (List.take (k.w0.length - (at1 + 1)) (List.drop (at1 + 1) R)).length = k.w0.length - (at1 + 1) := by simp; omega
 have l3 : at1 + (k.w0.length - (at1 + 1)) = k.w0.length - 1 := by omega
 have tn : ((at1 : Int) + 1).toNat = at1 + 1 := by omega
 have w1 : IntKind.i64.wrap ((at1 : Int) + 1) = (at1 : Int) + 1 := by simp [IntKind.wrap, IntKind.signed, IntKind.bits]; omega
 have e0 : ((k.w0.length : Int) == 0) = false := by
  simp only [beq_eq_false_iff_ne, ne_eq]; omega
 simp only [Tk.row, Pkx.row] at hF gr ⊢
 refine Con.bodyNT (cxOk (L + 1)) rfl rfl (fn := Tryz.f21) (c := Tryz.f21.body.getD .skip) (by kernel_rfl) (by rfl) (by kernel_rfl) rfl  (by simp; omega) ?_
 intro F3 hF1 hF2
 have kq := (hF1 m (by simp)).trans hF
 have ka := (hF1 a (by simp)).trans hFa
 have kb := (hF1 b (by simp)).trans hFb
 refine vcu ⟨[some (.ptr m 0 0), some (.int .i64 0), some (.int .i64 which), some (.bool false), some (.bool false)] ++ oz 69, [], 1000⟩ ?_ ?_
 ·simp only [Tryz.f21, hdC, Option.getD_some, cx, go_sem, meths]
  repeat refine sd2 ?_
  refine ⟨(), (so0 hF2)⟩
 refine vcu ⟨[some (.ptr m 0 0), some (.int .i64 0), some (.int .i64 which), some (.bool false), some (.bool false)] ++ oz 69, [], 2000⟩ ?_ ?_
 ·simp only [Tryz.f21, hdC, tlC, Option.getD_some, cx, kq, e0, Nat.add_zero, go_sem, meths]
  repeat refine sd2 ?_
  refine ⟨(), (so0 hF2)⟩
 refine vcu ⟨[some (.ptr m 0 0), some (.int .i64 0), some (.int .i64 which), some (.bool false), some (.bool false), none, none, none, none, none, none, some (.int .i64 at1)] ++ oz 62, [], 10000⟩ ?_ ?_
 ·simp only [Tryz.f21, hdC, tlC, Option.getD_some, cx, kq, hat, Nat.add_zero, go_sem, meths]
  repeat refine sd2 ?_
  refine ⟨(), (so0 hF2)⟩
 refine vcu ⟨[some (.ptr m 0 0), some (.int .i64 0), some (.int .i64 which), some (.bool false), some (.bool false), none, none, none, none, none, none, some (.int .i64 at1), some (.ptr ⟨L + 1, 10288⟩ 0 0)] ++ oz 61, [(⟨L + 1, 10288⟩, .rows 38 4 true true [(pR p)])], 20000⟩ ?_ ?_
 ·simp only [Tryz.f21, hdC, tlC, Option.getD_some, cx, kq, ka, ln, gr, Int.toNat_natCast, Nat.add_zero, go_sem, meths]
  repeat refine sd2 ?_
  refine ⟨(), (so0 hF2)⟩
 refine vcu ⟨[some (.ptr m 0 0), some (.int .i64 0), some (.int .i64 which), some (.bool false), some (.bool false), none, none, none, none, none, none, some (.int .i64 at1), some (.ptr ⟨L + 1, 10288⟩ 0 0)] ++ oz 61, [(m, .rows 33 43 true false [(gR k.g0 (gR k.g1 [.sl ⟨L + 1, 20736⟩ 0 (k.w0.length - 1), .sl b 0 k.w1.length, .int .i64 k.now]))]), (⟨L + 1, 20736⟩, .rows 38 4 true true ((k.w0.eraseIdx at1).map Pkx.row)), (⟨L + 1, 10288⟩, .rows 38 4 true true [(pR p)])], 30000⟩ ?_ ?_
 ·simp only [Tryz.f21, hdC, tlC, Option.getD_some, cx, kq, m1, ka, a1, a3, ln, l1, l2, l3, tn, w1, er, Nat.sub_zero, Int.toNat_natCast, Nat.add_assoc, Nat.add_zero, go_sem, meths]
  repeat refine sd2 ?_
  refine ⟨⟨by omega, by omega, by omega, .inl trivial⟩, ⟨by omega, by omega, by omega⟩, ⟨by omega, by omega⟩, okDyn_num (fun x => if x = m then 1 else if x = a then 0 else x.i + 2) (by simp only [numF, List.map, m2, a2, d1, if_true, if_false]; kernel_rfl), (), (so0 hF2 (h2 := by simp [subH, Tx.look, m1]) (h3 := by simp [subK, keys, m1, m2]))⟩
 refine VT.of (cxOk (L + 1)) ?_
 simp only [Tryz.f21, tlC, Option.getD_some, cx, m2, go_sem, meths]
 repeat refine sd2 ?_
 refine CallVC.same (does0Z_ok (L := L + 1) m (.inl (by omega)) k 5 p hsm.1 hsm.2 (.sl ⟨L + 1, 20736⟩ 0 (k.w0.length - 1)) (outs_sl (Nat.le_refl _)) b (by omega) h hst hbm hwl (by simp [c1, b1, kb]) (by simp [Tk.row])) ?_
 simp only [Tk.row, List.nil_append, m1, go_sem]
 repeat refine sd2 ?_
 refine .now (PostN.val [20736] (.inr rfl) (by simp) (p := True) (v0 := .bool true) ?_ trivial ?_ ?_ ⟨by omega, ?_, Nat.le_refl _, ?_, trivial⟩ ?_)
 ·simp only [resVal, resVals, resVal1, one, go_sem]
 ·simp [nmA]
 ·simp [Tx.rn]
 ·rw [kp_out (hm0.imp id fun h => .inl h.2)]
  exact .ren (by simp [Tx.look]; rfl) (by simp [rowsNm, nmA, nmAL, Dn, hbL]) (by simp [Tx.rn, Tx.rnL, sg_out hbL]; try simp [sg]; try rfl)
 ·rw [kp_at0 (by simp)]
  exact .pure (by simp [Tx.look, m2])
 ·simp [UpdAll, keys]
theorem takes0FFP_ok {F : SF} {L nx : Nat} (m : Nm) (hm0 : m.l < L ∨ (m.l = L ∧ m.i < nx)) (k : Tk) (a : Nm) (haL : a.l ≤ L) (ham : a ≠ m) (z : List Pkx) (hFa : F a = some (.rows 38 4 true true ((k.w0 ++ z).map Pkx.row))) (which : Int) (at1 : Nat) (hat : which.tmod k.w0.length = at1) (hlt : at1 < k.w0.length) (hal : k.w0.length ≤ 1000000) (p : Pkx) (hp : k.w0[at1]? = some p) (hsm : p.sm) (h : Gx) (x : Pkx) (hst : gStep k.g0 k.now 5 p = (h, [x], 0)) (b : Nm) (hbL : b.l ≤ L) (hbm : b ≠ m) (hwl : k.w1.length ≤ 1000000) (hFb : F b = some (.rows 38 4 true true (k.w1.map Pkx.row))) (hF : F m = some (.rows 33 43 true false [k.row (.sl a 0 k.w0.length) (.sl b 0 k.w1.length)])) :
  Con Tryz.prog 21 [.ptr m 0 0, .int .i64 0, .int .i64 which, .bool false, .bool false] F L nx (nx + 2) (.bool true) [(m, .rows 33 43 true false [(Tk.row { k with g0 := h } (.sl ⟨L, nx⟩ 0 (k.w0.length - 1)) (.sl ⟨L, nx + 1⟩ 0 (k.w1.length + 1)))]), (b, .dead), (⟨L, nx⟩, .rows 38 4 true true ((k.w0.eraseIdx at1).map Pkx.row)), (⟨L, nx + 1⟩, .rows 38 4 true true ((k.w1 ++ [x]).map Pkx.row))] [m, a, b] := by
 have hm : m.l ≤ L := by omega
 have m1 : ∀ k, (m = (⟨L + 1, k⟩ : Nm)) = False := nm_out hm
 have m2 : ∀ k, ((⟨L + 1, k⟩ : Nm) = m) = False := nm_out' hm
 have a1 : ∀ k, (a = (⟨L + 1, k⟩ : Nm)) = False := nm_out haL
 have a2 : ∀ k, ((⟨L + 1, k⟩ : Nm) = a) = False := nm_out' haL
 have a3 : ∀ k, ((⟨L + 1, k⟩ : Nm) == a) = false := fun k => by rw [beq_eq_false_iff_ne, ne_eq, a2 k]; exact not_false
 have d1 : (a = m) = False := eq_false ham
 have d2 : (m = a) = False := eq_false (Ne.symm ham)
 have b1 : ∀ k, (b = (⟨L + 1, k⟩ : Nm)) = False := nm_out (by omega)
 have b2 : ∀ k, ((⟨L + 1, k⟩ : Nm) = b) = False := nm_out' (by omega)
 have c1 : (b = m) = False := eq_false hbm
 have c2 : (m = b) = False := eq_false (Ne.symm hbm)
 obtain ⟨R, hR⟩ : ∃ R, R = (k.w0 ++ z).map Pkx.row := ⟨_, rfl⟩
 have er := eraseRows k.w0 z hlt
 have ln : R.length = k.w0.length + z.length := by rw [hR]; simp
 have gr : R.getD at1 [] = p.row := by
  rw [hR, List.getD_eq_getElem?_getD, List.getElem?_map, List.getElem?_append_left hlt, hp]; rfl
 rw [← hR] at er hFa
 clear hR
 have l1 : (List.take at1 R).length = at1 := by simp; omega
 have l2 : (List.take (k.w0.length - (at1 + 1)) (List.drop (at1 + 1) R)).length = k.w0.length - (at1 + 1) := by simp; omega
 have l3 : at1 + (k.w0.length - (at1 + 1)) = k.w0.length - 1 := by omega
 have tn : ((at1 : Int) + 1).toNat = at1 + 1 := by omega
 have w1 : IntKind.i64.wrap ((at1 : Int) + 1) = (at1 : Int) + 1 := by simp [IntKind.wrap, IntKind.signed, IntKind.bits]; omega
 have e0 : ((k.w0.length : Int) == 0) = false := by
  simp only [beq_eq_false_iff_ne, ne_eq]; omega
 simp only [Tk.row, Pkx.row] at hF gr ⊢
 refine Con.bodyNT (cxOk (L + 1)) rfl rfl (fn := Tryz.f21) (c := Tryz.f21.body.getD .skip) (by kernel_rfl) (by rfl) (by kernel_rfl) rfl  (by simp; omega) ?_
 intro F3 hF1 hF2
 have kq := (hF1 m (by simp)).trans hF
 have ka := (hF1 a (by simp)).trans hFa
 have kb := (hF1 b (by simp)).trans hFb
 refine vcu ⟨[some (.ptr m 0 0), some (.int .i64 0), some (.int .i64 which), some (.bool false), some (.bool false)] ++ oz 69, [], 1000⟩ ?_ ?_
 ·simp only [Tryz.f21, hdC, Option.getD_some, cx, go_sem, meths]
  repeat refine sd2 ?_
  refine ⟨(), (so0 hF2)⟩
 refine vcu ⟨[some (.ptr m 0 0), some (.int .i64 0), some (.int .i64 which), some (.bool false), some (.bool false)] ++ oz 69, [], 2000⟩ ?_ ?_
 ·simp only [Tryz.f21, hdC, tlC, Option.getD_some, cx, kq, e0, Nat.add_zero, go_sem, meths]
  repeat refine sd2 ?_
  refine ⟨(), (so0 hF2)⟩
 refine vcu ⟨[some (.ptr m 0 0), some (.int .i64 0), some (.int .i64 which), some (.bool false), some (.bool false), none, none, none, none, none, none, some (.int .i64 at1)] ++ oz 62, [], 10000⟩ ?_ ?_
 ·simp only [Tryz.f21, hdC, tlC, Option.getD_some, cx, kq, hat, Nat.add_zero, go_sem, meths]
  repeat refine sd2 ?_
  refine ⟨(), (so0 hF2)⟩
 refine vcu ⟨[some (.ptr m 0 0), some (.int .i64 0), some (.int .i64 which), some (.bool false), some (.bool false), none, none, none, none, none, none, some (.int .i64 at1), some (.ptr ⟨L + 1, 10288⟩ 0 0)] ++ oz 61, [(⟨L + 1, 10288⟩, .rows 38 4 true true [(pR p)])], 20000⟩ ?_ ?_
 ·simp only [Tryz.f21, hdC, tlC, Option.getD_some, cx, kq, ka, ln, gr, Int.toNat_natCast, Nat.add_zero, go_sem, meths]
  repeat refine sd2 ?_
  refine ⟨(), (so0 hF2)⟩
 refine vcu ⟨[some (.ptr m 0 0), some (.int .i64 0), some (.int .i64 which), some (.bool false), some (.bool false), none, none, none, none, none, none, some (.int .i64 at1), some (.ptr ⟨L + 1, 10288⟩ 0 0)] ++ oz 61, [(m, .rows 33 43 true false [(gR k.g0 (gR k.g1 [.sl ⟨L + 1, 20736⟩ 0 (k.w0.length - 1), .sl b 0 k.w1.length, .int .i64 k.now]))]), (⟨L + 1, 20736⟩, .rows 38 4 true true ((k.w0.eraseIdx at1).map Pkx.row)), (⟨L + 1, 10288⟩, .rows 38 4 true true [(pR p)])], 30000⟩ ?_ ?_
 ·simp only [Tryz.f21, hdC, tlC, Option.getD_some, cx, kq, m1, ka, a1, a3, ln, l1, l2, l3, tn, w1, er, Nat.sub_zero, Int.toNat_natCast, Nat.add_assoc, Nat.add_zero, go_sem, meths]
  repeat refine sd2 ?_
  refine ⟨⟨by omega, by omega, by omega, .inl trivial⟩, ⟨by omega, by omega, by omega⟩, ⟨by omega, by omega⟩, okDyn_num (fun x => if x = m then 1 else if x = a then 0 else x.i + 2) (by simp only [numF, List.map, m2, a2, d1, if_true, if_false]; kernel_rfl), (), (so0 hF2 (h2 := by simp [subH, Tx.look, m1]) (h3 := by simp [subK, keys, m1, m2]))⟩
 refine VT.of (cxOk (L + 1)) ?_
 simp only [Tryz.f21, tlC, Option.getD_some, cx, m2, go_sem, meths]
 repeat refine sd2 ?_
 refine CallVC.same (does0P_ok (L := L + 1) m (.inl (by omega)) k 5 p hsm.1 hsm.2 (.sl ⟨L + 1, 20736⟩ 0 (k.w0.length - 1)) (outs_sl (Nat.le_refl _)) b (by omega) h x hst hbm hwl (by simp [c1, b1, kb]) (by simp [Tk.row])) ?_
 simp only [Tk.row, List.nil_append, m1, m2, b1, b2, c1, go_sem]
 repeat refine sd2 ?_
 refine .now (PostN.val [20736, 30192] (.inr rfl) (by simp) (p := True) (v0 := .bool true) ?_ trivial ?_ ?_ ⟨by omega, ?_, by omega, ?_, Nat.le_refl _, ?_, Nat.le_refl _, ?_, trivial⟩ ?_)
 ·simp only [resVal, resVals, resVal1, one, go_sem]
 ·simp [nmA]
 ·simp [Tx.rn]
 ·rw [kp_out (hm0.imp id fun h => .inl h.2)]
  exact .ren (by simp [Tx.look]; rfl) (by simp [rowsNm, nmA, nmAL, Dn]) (by simp [Tx.rn, Tx.rnL]; try simp [sg]; try rfl)
 ·exact BN_dead
 ·rw [kp_at0 (by simp)]
  exact .pure (by simp [Tx.look, m2])
 ·rw [kp_at (j := 1) (by simp)]
  exact .pure (by simp [Tx.look, m2, b2, Pkx.row])
 ·simp [UpdAll, keys]
theorem takes0TFZ_ok {F : SF} {L nx : Nat} (m : Nm) (hm0 : m.l < L ∨ (m.l = L ∧ m.i < nx)) (k : Tk) (a : Nm) (haL : a.l ≤ L) (ham : a ≠ m) (z : List Pkx) (hFa : F a = some (.rows 38 4 true true ((k.w0 ++ z).map Pkx.row))) (which : Int) (at1 : Nat) (hat : which.tmod k.w0.length = at1) (hlt : at1 < k.w0.length) (hal : k.w0.length ≤ 1000000) (p : Pkx) (hp : k.w0[at1]? = some p) (hsm : p.sm) (h : Gx) (hst : gStep k.g0 k.now 5 p = (h, [], 0)) (b : Nm) (hbL : b.l ≤ L) (hbm : b ≠ m) (hwl : k.w1.length ≤ 1000000) (hFb : F b = some (.rows 38 4 true true (k.w1.map Pkx.row))) (hF : F m = some (.rows 33 43 true false [k.row (.sl a 0 k.w0.length) (.sl b 0 k.w1.length)])) :
  Con Tryz.prog 21 [.ptr m 0 0, .int .i64 0, .int .i64 which, .bool true, .bool false] F L nx (nx + 0) (.bool true) [(m, .rows 33 43 true false [(Tk.row { k with g0 := h } (.sl a 0 k.w0.length) (.sl b 0 k.w1.length))])] [m, a, b] := by
 have hm : m.l ≤ L := by omega
 have m1 : ∀ k, (m = (⟨L + 1, k⟩ : Nm)) = False := nm_out hm
 have m2 : ∀ k, ((⟨L + 1, k⟩ : Nm) = m) = False := nm_out' hm
 have a1 : ∀ k, (a = (⟨L + 1, k⟩ : Nm)) = False := nm_out haL
 have a2 : ∀ k, ((⟨L + 1, k⟩ : Nm) = a) = False := nm_out' haL
 have a3 : ∀ k, ((⟨L + 1, k⟩ : Nm) == a) = false := fun k => by rw [beq_eq_false_iff_ne, ne_eq, a2 k]; exact not_false
 have d1 : (a = m) = False := eq_false ham
 have d2 : (m = a) = False := eq_false (Ne.symm ham)
 have b1 : ∀ k, (b = (⟨L + 1, k⟩ : Nm)) = False := nm_out (by omega)
 have b2 : ∀ k, ((⟨L + 1, k⟩ : Nm) = b) = False := nm_out' (by omega)
 have c1 : (b = m) = False := eq_false hbm
 have c2 : (m = b) = False := eq_false (Ne.symm hbm)
 obtain ⟨R, hR⟩ : ∃ R, R = (k.w0 ++ z).map Pkx.row := ⟨_, rfl⟩
 have er := eraseRows k.w0 z hlt
 have ln : R.length = k.w0.length + z.length := by rw [hR]; simp
 have gr : R.getD at1 [] = p.row := by
  rw [hR, List.getD_eq_getElem?_getD, List.getElem?_map, List.getElem?_append_left hlt, hp]; rfl
 rw [← hR] at er hFa
 clear hR
 have l1 : (List.take at1 R).length = at1 := by simp; omega
 have l2 : (List.take (k.w0.length - (at1 + 1)) (List.drop (at1 + 1) R)).length = k.w0.length - (at1 + 1) := by simp; omega
 have l3 : at1 + (k.w0.length - (at1 + 1)) = k.w0.length - 1 := by omega
 have tn : ((at1 : Int) + 1).toNat = at1 + 1 := by omega
 have w1 : IntKind.i64.wrap ((at1 : Int) + 1) = (at1 : Int) + 1 := by simp [IntKind.wrap, IntKind.signed, IntKind.bits]; omega
 have e0 : ((k.w0.length : Int) == 0) = false := by
  simp only [beq_eq_false_iff_ne, ne_eq]; omega
 simp only [Tk.row, Pkx.row] at hF gr ⊢
 refine Con.bodyNT (cxOk (L + 1)) rfl rfl (fn := Tryz.f21) (c := Tryz.f21.body.getD .skip) (by kernel_rfl) (by rfl) (by kernel_rfl) rfl  (by simp; omega) ?_
 intro F3 hF1 hF2
 have kq := (hF1 m (by simp)).trans hF
 have ka := (hF1 a (by simp)).trans hFa
 have kb := (hF1 b (by simp)).trans hFb
 refine vcu ⟨[some (.ptr m 0 0), some (.int .i64 0), some (.int .i64 which), some (.bool true), some (.bool false)] ++ oz 69, [], 1000⟩ ?_ ?_
 ·simp only [Tryz.f21, hdC, Option.getD_some, cx, go_sem, meths]
  repeat refine sd2 ?_
  refine ⟨(), (so0 hF2)⟩
 refine vcu ⟨[some (.ptr m 0 0), some (.int .i64 0), some (.int .i64 which), some (.bool true), some (.bool false)] ++ oz 69, [], 2000⟩ ?_ ?_
 ·simp only [Tryz.f21, hdC, tlC, Option.getD_some, cx, kq, e0, Nat.add_zero, go_sem, meths]
  repeat refine sd2 ?_
  refine ⟨(), (so0 hF2)⟩
 refine vcu ⟨[some (.ptr m 0 0), some (.int .i64 0), some (.int .i64 which), some (.bool true), some (.bool false), none, none, none, none, none, none, some (.int .i64 at1)] ++ oz 62, [], 10000⟩ ?_ ?_
 ·simp only [Tryz.f21, hdC, tlC, Option.getD_some, cx, kq, hat, Nat.add_zero, go_sem, meths]
  repeat refine sd2 ?_
  refine ⟨(), (so0 hF2)⟩
 refine vcu ⟨[some (.ptr m 0 0), some (.int .i64 0), some (.int .i64 which), some (.bool true), some (.bool false), none, none, none, none, none, none, some (.int .i64 at1), some (.ptr ⟨L + 1, 10288⟩ 0 0)] ++ oz 61, [(⟨L + 1, 10288⟩, .rows 38 4 true true [(pR p)])], 20000⟩ ?_ ?_
 ·simp only [Tryz.f21, hdC, tlC, Option.getD_some, cx, kq, ka, ln, gr, Int.toNat_natCast, Nat.add_zero, go_sem, meths]
  repeat refine sd2 ?_
  refine ⟨(), (so0 hF2)⟩
 refine vcu ⟨[some (.ptr m 0 0), some (.int .i64 0), some (.int .i64 which), some (.bool true), some (.bool false), none, none, none, none, none, none, some (.int .i64 at1), some (.ptr ⟨L + 1, 10288⟩ 0 0)] ++ oz 61, [(⟨L + 1, 10288⟩, .rows 38 4 true true [(pR p)])], 30000⟩ ?_ ?_
 ·simp only [Tryz.f21, hdC, tlC, Option.getD_some, cx, go_sem, meths]
  repeat refine sd2 ?_
  refine ⟨(), (so0 hF2)⟩
 refine VT.of (cxOk (L + 1)) ?_
 simp only [Tryz.f21, tlC, Option.getD_some, cx, go_sem, meths]
 repeat refine sd2 ?_
 refine CallVC.same (does0Z_ok (L := L + 1) m (.inl (by omega)) k 5 p hsm.1 hsm.2 (.sl a 0 k.w0.length) (outs_sl (by omega)) b (by omega) h hst hbm hwl (by simp [b1, kb]) (by simp [Tk.row, kq, m1])) ?_
 simp only [Tk.row, List.nil_append, m1, go_sem]
 repeat refine sd2 ?_
 refine .now (PostN.val [] (.inr rfl) (by simp) (p := True) (v0 := .bool true) ?_ trivial ?_ ?_ ⟨by omega, ?_, trivial⟩ ?_)
 ·simp only [resVal, resVals, resVal1, one, go_sem]
 ·simp [nmA]
 ·simp [Tx.rn]
 ·rw [kp_nil]
  exact .ren (by simp [Tx.look, m1]; rfl) (by simp [rowsNm, nmA, nmAL, Dn, haL, hbL]) (by simp [Tx.rn, Tx.rnL, sg_out haL, sg_out hbL]; try simp [sg]; try rfl)
 ·simp [UpdAll, keys]
theorem takes0TFP_ok {F : SF} {L nx : Nat} (m : Nm) (hm0 : m.l < L ∨ (m.l = L ∧ m.i < nx)) (k : Tk) (a : Nm) (haL : a.l ≤ L) (ham : a ≠ m) (z : List Pkx) (hFa : F a = some (.rows 38 4 true true ((k.w0 ++ z).map Pkx.row))) (which : Int) (at1 : Nat) (hat : which.tmod k.w0.length = at1) (hlt : at1 < k.w0.length) (hal : k.w0.length ≤ 1000000) (p : Pkx) (hp : k.w0[at1]? = some p) (hsm : p.sm) (h : Gx) (x : Pkx) (hst : gStep k.g0 k.now 5 p = (h, [x], 0)) (b : Nm) (hbL : b.l ≤ L) (hbm : b ≠ m) (hwl : k.w1.length ≤ 1000000) (hFb : F b = some (.rows 38 4 true true (k.w1.map Pkx.row))) (hF : F m = some (.rows 33 43 true false [k.row (.sl a 0 k.w0.length) (.sl b 0 k.w1.length)])) :
  Con Tryz.prog 21 [.ptr m 0 0, .int .i64 0, .int .i64 which, .bool true, .bool false] F L nx (nx + 1) (.bool true) [(m, .rows 33 43 true false [(Tk.row { k with g0 := h } (.sl a 0 k.w0.length) (.sl ⟨L, nx⟩ 0 (k.w1.length + 1)))]), (b, .dead), (⟨L, nx⟩, .rows 38 4 true true ((k.w1 ++ [x]).map Pkx.row))] [m, a, b] := by
 have hm : m.l ≤ L := by omega
 have m1 : ∀ k, (m = (⟨L + 1, k⟩ : Nm)) = False := nm_out hm
 have m2 : ∀ k, ((⟨L + 1, k⟩ : Nm) = m) = False := nm_out' hm
 have a1 : ∀ k, (a = (⟨L + 1, k⟩ : Nm)) = False := nm_out haL
 have a2 : ∀ k, ((⟨L + 1, k⟩ : Nm) = a) = False := nm_out' haL
 have a3 : ∀ k, ((⟨L + 1, k⟩ : Nm) == a) = false := fun k => by rw [beq_eq_false_iff_ne, ne_eq, a2 k]; exact not_false
 have d1 : (a = m) = False := eq_false ham
 have d2 : (m = a) = False := eq_false (Ne.symm ham)
 have b1 : ∀ k, (b = (⟨L + 1, k⟩ : Nm)) = False := nm_out (by omega)
 have b2 : ∀ k, ((⟨L + 1, k⟩ : Nm) = b) = False := nm_out' (by omega)
 have c1 : (b = m) = False := eq_false hbm
 have c2 : (m = b) = False := eq_false (Ne.symm hbm)
 obtain ⟨R, hR⟩ : ∃ R, R = (k.w0 ++ z).map Pkx.row := ⟨_, rfl⟩
 have er := eraseRows k.w0 z hlt
 have ln : R.length = k.w0.length + z.length := by rw [hR]; simp
 have gr : R.getD at1 [] = p.row := by
  rw [hR, List.getD_eq_getElem?_getD, List.getElem?_map, List.getElem?_append_left hlt, hp]; rfl
 rw [← hR] at er hFa
 clear hR
 have l1 : (List.take at1 R).length = at1 := by simp; omega
 have l2 : (List.take (k.w0.length - (at1 + 1)) (List.drop (at1 + 1) R)).length = k.w0.length - (at1 + 1) := by simp; omega
 have l3 : at1 + (k.w0.length - (at1 + 1)) = k.w0.length - 1 := by omega
 have tn : ((at1 : Int) + 1).toNat = at1 + 1 := by omega
 have w1 : IntKind.i64.wrap ((at1 : Int) + 1) = (at1 : Int) + 1 := by simp [IntKind.wrap, IntKind.signed, IntKind.bits]; omega
 have e0 : ((k.w0.length : Int) == 0) = false := by
  simp only [beq_eq_false_iff_ne, ne_eq]; omega
 simp only [Tk.row, Pkx.row] at hF gr ⊢
 refine Con.bodyNT (cxOk (L + 1)) rfl rfl (fn := Tryz.f21) (c := Tryz.f21.body.getD .skip) (by kernel_rfl) (by rfl) (by kernel_rfl) rfl  (by simp; omega) ?_
 intro F3 hF1 hF2
 have kq := (hF1 m (by simp)).trans hF
 have ka := (hF1 a (by simp)).trans hFa
 have kb := (hF1 b (by simp)).trans hFb
 refine vcu ⟨[some (.ptr m 0 0), some (.int .i64 0), some (.int .i64 which), some (.bool true), some (.bool false)] ++ oz 69, [], 1000⟩ ?_ ?_
 ·simp only [Tryz.f21, hdC, Option.getD_some, cx, go_sem, meths]
  repeat refine sd2 ?_
  refine ⟨(), (so0 hF2)⟩
 refine vcu ⟨[some (.ptr m 0 0), some (.int .i64 0), some (.int .i64 which), some (.bool true), some (.bool false)] ++ oz 69, [], 2000⟩ ?_ ?_
 ·simp only [Tryz.f21, hdC, tlC, Option.getD_some, cx, kq, e0, Nat.add_zero, go_sem, meths]
  repeat refine sd2 ?_
  refine ⟨(), (so0 hF2)⟩
 refine vcu ⟨[some (.ptr m 0 0), some (.int .i64 0), some (.int .i64 which), some (.bool true), some (.bool false), none, none, none, none, none, none, some (.int .i64 at1)] ++ oz 62, [], 10000⟩ ?_ ?_
 ·simp only [Tryz.f21, hdC, tlC, Option.getD_some, cx, kq, hat, Nat.add_zero, go_sem, meths]
  repeat refine sd2 ?_
  refine ⟨(), (so0 hF2)⟩
 refine vcu ⟨[some (.ptr m 0 0), some (.int .i64 0), some (.int .i64 which), some (.bool true), some (.bool false), none, none, none, none, none, none, some (.int .i64 at1), some (.ptr ⟨L + 1, 10288⟩ 0 0)] ++ oz 61, [(⟨L + 1, 10288⟩, .rows 38 4 true true [(pR p)])], 20000⟩ ?_ ?_
 ·simp only [Tryz.f21, hdC, tlC, Option.getD_some, cx, kq, ka, ln, gr, Int.toNat_natCast, Nat.add_zero, go_sem, meths]
  repeat refine sd2 ?_
  refine ⟨(), (so0 hF2)⟩
 refine vcu ⟨[some (.ptr m 0 0), some (.int .i64 0), some (.int .i64 which), some (.bool true), some (.bool false), none, none, none, none, none, none, some (.int .i64 at1), some (.ptr ⟨L + 1, 10288⟩ 0 0)] ++ oz 61, [(⟨L + 1, 10288⟩, .rows 38 4 true true [(pR p)])], 30000⟩ ?_ ?_
 ·simp only [Tryz.f21, hdC, tlC, Option.getD_some, cx, go_sem, meths]
  repeat refine sd2 ?_
  refine ⟨(), (so0 hF2)⟩
 refine VT.of (cxOk (L + 1)) ?_
 simp only [Tryz.f21, tlC, Option.getD_some, cx, go_sem, meths]
 repeat refine sd2 ?_
 refine CallVC.same (does0P_ok (L := L + 1) m (.inl (by omega)) k 5 p hsm.1 hsm.2 (.sl a 0 k.w0.length) (outs_sl (by omega)) b (by omega) h x hst hbm hwl (by simp [b1, kb]) (by simp [Tk.row, kq, m1])) ?_
 simp only [Tk.row, List.nil_append, m1, m2, b1, b2, c1, go_sem]
 repeat refine sd2 ?_
 refine .now (PostN.val [30192] (.inr rfl) (by simp) (p := True) (v0 := .bool true) ?_ trivial ?_ ?_ ⟨by omega, ?_, by omega, ?_, Nat.le_refl _, ?_, trivial⟩ ?_)
 ·simp only [resVal, resVals, resVal1, one, go_sem]
 ·simp [nmA]
 ·simp [Tx.rn]
 ·rw [kp_out (hm0.imp id fun h => .inl h.2)]
  exact .ren (by simp [Tx.look, m1]; rfl) (by simp [rowsNm, nmA, nmAL, Dn, haL]) (by simp [Tx.rn, Tx.rnL, sg_out haL]; try simp [sg]; try rfl)
 ·exact BN_dead
 ·rw [kp_at0 (by simp)]
  exact .pure (by simp [Tx.look, m2, b2, Pkx.row])
 ·simp [UpdAll, keys]
theorem takes1E_ok {F : SF} {L nx : Nat} (m : Nm) (hm : m.l ≤ L) (k : Tk) (which : Int) (kp lo : Bool) (a : Nm) (hFa : ∃ R, F a = some (.rows 38 4 true true R)) (vo : PV) (hF : F m = some (.rows 33 43 true false [k.row vo (.sl a 0 0)])) :
  Con Tryz.prog 21 [.ptr m 0 0, .int .i64 1, .int .i64 which, .bool kp, .bool lo] F L nx nx (.bool true) [] [m] := by
 have m1 : ∀ k, (m = (⟨L + 1, k⟩ : Nm)) = False := nm_out hm
 have m2 : ∀ k, ((⟨L + 1, k⟩ : Nm) = m) = False := nm_out' hm
 have e0 : (((0 : Nat) : Int) == 0) = true := rfl
 have e1 : ((0 : Int) == 0) = true := rfl
 simp only [Tk.row] at hF ⊢
 refine Con.bodyT (cxOk (L + 1)) rfl rfl (fn := Tryz.f21) (c := Tryz.f21.body.getD .skip) (by kernel_rfl) (by rfl) (by kernel_rfl) rfl  (by simp; omega) ?_
 intro F3 hF1 hF2
 have kq := (hF1 m (by simp)).trans hF
 refine VT.of (cxOk (L + 1)) ?_
 simp only [Tryz.f21, Option.getD_some, cx, kq, e0, go_sem, meths]
 repeat refine sd2 ?_
 exact .bool (.inr rfl) rfl rfl (by simp [UpdAll])
theorem takes1FTL_ok {F : SF} {L nx : Nat} (m : Nm) (hm0 : m.l < L ∨ (m.l = L ∧ m.i < nx)) (k : Tk) (a : Nm) (haL : a.l ≤ L) (ham : a ≠ m) (z : List Pkx) (hFa : F a = some (.rows 38 4 true true ((k.w1 ++ z).map Pkx.row))) (which : Int) (at1 : Nat) (hat : which.tmod k.w1.length = at1) (hlt : at1 < k.w1.length) (hal : k.w1.length ≤ 1000000) (p : Pkx) (hp : k.w1[at1]? = some p) (vb : PV) (hvb : Outs L vb) (hF : F m = some (.rows 33 43 true false [k.row vb (.sl a 0 k.w1.length)])) :
  Con Tryz.prog 21 [.ptr m 0 0, .int .i64 1, .int .i64 which, .bool false, .bool true] F L nx (nx + 1) (.bool true) [(m, .rows 33 43 true false [(Tk.row k vb (.sl ⟨L, nx⟩ 0 (k.w1.length - 1)))]), (⟨L, nx⟩, .rows 38 4 true true ((k.w1.eraseIdx at1).map Pkx.row))] [m, a] := by
 have hm : m.l ≤ L := by omega
 have m1 : ∀ k, (m = (⟨L + 1, k⟩ : Nm)) = False := nm_out hm
 have m2 : ∀ k, ((⟨L + 1, k⟩ : Nm) = m) = False := nm_out' hm
 have a1 : ∀ k, (a = (⟨L + 1, k⟩ : Nm)) = False := nm_out haL
 have a2 : ∀ k, ((⟨L + 1, k⟩ : Nm) = a) = False := nm_out' haL
 have a3 : ∀ k, ((⟨L + 1, k⟩ : Nm) == a) = false := fun k => by rw [beq_eq_false_iff_ne, ne_eq, a2 k]; exact not_false
 have d1 : (a = m) = False := eq_false ham
 have d2 : (m = a) = False := eq_false (Ne.symm ham)
 obtain ⟨R, hR⟩ : ∃ R, R = (k.w1 ++ z).map Pkx.row := ⟨_, rfl⟩
 have er := eraseRows k.w1 z hlt
 have ln : R.length = k.w1.length + z.length := by rw [hR]; simp
 have gr : R.getD at1 [] = p.row := by
  rw [hR, List.getD_eq_getElem?_getD, List.getElem?_map, List.getElem?_append_left hlt, hp]; rfl
 rw [← hR] at er hFa
 clear hR
 have l1 : (List.take at1 R).length = at1 := by simp; omega
 have l2 : (List.take (k.w1.length - (at1 + 1)) (List.drop (at1 + 1) R)).length = k.w1.length - (at1 + 1) := by simp; omega
 have l3 : at1 + (k.w1.length - (at1 + 1)) = k.w1.length - 1 := by omega
 have tn : ((at1 : Int) + 1).toNat = at1 + 1 := by omega
 have w1 : IntKind.i64.wrap ((at1 : Int) + 1) = (at1 : Int) + 1 := by simp [IntKind.wrap, IntKind.signed, IntKind.bits]; omega
 have e0 : ((k.w1.length : Int) == 0) = false := by
  simp only [beq_eq_false_iff_ne, ne_eq]; omega
 simp only [Tk.row, Pkx.row] at hF gr ⊢
 refine Con.bodyNT (cxOk (L + 1)) rfl rfl (fn := Tryz.f21) (c := Tryz.f21.body.getD .skip) (by kernel_rfl) (by rfl) (by kernel_rfl) rfl  (by simp; omega) ?_
 intro F3 hF1 hF2
 have kq := (hF1 m (by simp)).trans hF
 have ka := (hF1 a (by simp)).trans hFa
 refine vcu ⟨[some (.ptr m 0 0), some (.int .i64 1), some (.int .i64 which), some (.bool false), some (.bool true)] ++ oz 69, [], 1000⟩ ?_ ?_
 ·simp only [Tryz.f21, hdC, Option.getD_some, cx, go_sem, meths]
  repeat refine sd2 ?_
  refine ⟨(), (so0 hF2)⟩
 refine vcu ⟨[some (.ptr m 0 0), some (.int .i64 1), some (.int .i64 which), some (.bool false), some (.bool true)] ++ oz 69, [], 2000⟩ ?_ ?_
 ·simp only [Tryz.f21, hdC, tlC, Option.getD_some, cx, kq, e0, go_sem, meths]
  repeat refine sd2 ?_
  refine ⟨(), (so0 hF2)⟩
 refine vcu ⟨[some (.ptr m 0 0), some (.int .i64 1), some (.int .i64 which), some (.bool false), some (.bool true), none, none, none, none, none, none, some (.int .i64 at1)] ++ oz 62, [], 10000⟩ ?_ ?_
 ·simp only [Tryz.f21, hdC, tlC, Option.getD_some, cx, kq, hat, go_sem, meths]
  repeat refine sd2 ?_
  refine ⟨(), (so0 hF2)⟩
 refine vcu ⟨[some (.ptr m 0 0), some (.int .i64 1), some (.int .i64 which), some (.bool false), some (.bool true), none, none, none, none, none, none, some (.int .i64 at1), some (.ptr ⟨L + 1, 10288⟩ 0 0)] ++ oz 61, [(⟨L + 1, 10288⟩, .rows 38 4 true true [(pR p)])], 20000⟩ ?_ ?_
 ·simp only [Tryz.f21, hdC, tlC, Option.getD_some, cx, kq, ka, ln, gr, Int.toNat_natCast, go_sem, meths]
  repeat refine sd2 ?_
  refine ⟨(), (so0 hF2)⟩
 refine vcu ⟨[some (.ptr m 0 0), some (.int .i64 1), some (.int .i64 which), some (.bool false), some (.bool true), none, none, none, none, none, none, some (.int .i64 at1), some (.ptr ⟨L + 1, 10288⟩ 0 0)] ++ oz 61, [(m, .rows 33 43 true false [(gR k.g0 (gR k.g1 [vb, .sl ⟨L + 1, 20736⟩ 0 (k.w1.length - 1), .int .i64 k.now]))]), (⟨L + 1, 20736⟩, .rows 38 4 true true ((k.w1.eraseIdx at1).map Pkx.row)), (⟨L + 1, 10288⟩, .rows 38 4 true true [(pR p)])], 30000⟩ ?_ ?_
 ·simp only [Tryz.f21, hdC, tlC, Option.getD_some, cx, kq, m1, ka, a1, a3, ln, l1, l2, l3, tn, w1, er, Nat.sub_zero, Int.toNat_natCast, Nat.add_assoc, Nat.add_zero, go_sem, meths]
  repeat refine sd2 ?_
  refine ⟨⟨by omega, by omega, by omega, .inl trivial⟩, ⟨by omega, by omega, by omega⟩, ⟨by omega, by omega⟩, okDyn_num (fun x => if x = m then 1 else if x = a then 0 else x.i + 2) (by simp only [numF, List.map, m2, a2, d1, if_true, if_false]; kernel_rfl), (), (so0 hF2 (h2 := by simp [subH, Tx.look, m1]) (h3 := by simp [subK, keys, m1, m2]))⟩
 refine VT.of (cxOk (L + 1)) ?_
 simp only [Tryz.f21, tlC, Option.getD_some, cx, go_sem, meths]
 repeat refine sd2 ?_
 refine .now (PostN.val [20736] (.inr rfl) (by simp) (p := True) (v0 := .bool true) ?_ trivial ?_ ?_ ⟨by omega, ?_, Nat.le_refl _, ?_, trivial⟩ ?_)
 ·simp only [resVal, resVals, resVal1, one, go_sem]
 ·simp [nmA]
 ·simp [Tx.rn]
 ·rw [kp_out (hm0.imp id fun h => .inl h.2)]
  exact .ren (by simp [Tx.look]; rfl) (by simp [rowsNm, nmA, nmAL, Dn, (hvb nx [20736]).1]) (by simp [Tx.rn, Tx.rnL, (hvb nx [20736]).2]; try simp [sg]; try rfl)
 ·rw [kp_at0 (by simp)]
  exact .pure (by simp [Tx.look, m2])
 ·simp [UpdAll, keys]
theorem takes1FFZ_ok {F : SF} {L nx : Nat} (m : Nm) (hm0 : m.l < L ∨ (m.l = L ∧ m.i < nx)) (k : Tk) (a : Nm) (haL : a.l ≤ L) (ham : a ≠ m) (z : List Pkx) (hFa : F a = some (.rows 38 4 true true ((k.w1 ++ z).map Pkx.row))) (which : Int) (at1 : Nat) (hat : which.tmod k.w1.length = at1) (hlt : at1 < k.w1.length) (hal : k.w1.length ≤ 1000000) (p : Pkx) (hp : k.w1[at1]? = some p) (hsm : p.sm) (h : Gx) (hst : gStep k.g1 k.now 5 p = (h, [], 0)) (b : Nm) (hbL : b.l ≤ L) (hbm : b ≠ m) (hwl : k.w0.length ≤ 1000000) (hFb : F b = some (.rows 38 4 true true (k.w0.map Pkx.row))) (hF : F m = some (.rows 33 43 true false [k.row (.sl b 0 k.w0.length) (.sl a 0 k.w1.length)])) :
  Con Tryz.prog 21 [.ptr m 0 0, .int .i64 1, .int .i64 which, .bool false, .bool false] F L nx (nx + 1) (.bool true) [(m, .rows 33 43 true false [(Tk.row { k with g1 := h } (.sl b 0 k.w0.length) (.sl ⟨L, nx⟩ 0 (k.w1.length - 1)))]), (⟨L, nx⟩, .rows 38 4 true true ((k.w1.eraseIdx at1).map Pkx.row))] [m, a, b] := by
 have hm : m.l ≤ L := by omega
 have m1 : ∀ k, (m = (⟨L + 1, k⟩ : Nm)) = False := nm_out hm
 have m2 : ∀ k, ((⟨L + 1, k⟩ : Nm) = m) = False := nm_out' hm
 have a1 : ∀ k, (a = (⟨L + 1, k⟩ : Nm)) = False := nm_out haL
 have a2 : ∀ k, ((⟨L + 1, k⟩ : Nm) = a) = False := nm_out' haL
 have a3 : ∀ k, ((⟨L + 1, k⟩ : Nm) == a) = false := fun k => by rw [beq_eq_false_iff_ne, ne_eq, a2 k]; exact not_false
 have d1 : (a = m) = False := eq_false ham
 have d2 : (m = a) = False := eq_false (Ne.symm ham)
 have b1 : ∀ k, (b = (⟨L + 1, k⟩ : Nm)) = False := nm_out (by omega)
 have b2 : ∀ k, ((⟨L + 1, k⟩ : Nm) = b) = False := nm_out' (by omega)
 have c1 : (b = m) = False := eq_false hbm
 have c2 : (m = b) = False := eq_false (Ne.symm hbm)
 obtain ⟨R, hR⟩ : ∃ R, R = (k.w1 ++ z).map Pkx.row := ⟨_, rfl⟩
 have er := eraseRows k.w1 z hlt
 have ln : R.length = k.w1.length + z.length := by rw [hR]; simp
 have gr : R.getD at1 [] = p.row := by
  rw [hR, List.getD_eq_getElem?_getD, List.getElem?_map, List.getElem?_append_left hlt, hp]; rfl
 rw [← hR] at er hFa
 clear hR
 have l1 : (List.take at1 R).length = at1 := by simp; omega
 have l2 : (List.take (k.w1.length - (at1 + 1)) (List.drop (at1 + 1) R)).length = k.w1.length - (at1 + 1) := by simp; omega
 have l3 : at1 + (k.w1.length - (at1 + 1)) = k.w1.length - 1 := by omega
 have tn : ((at1 : Int) + 1).toNat = at1 + 1 := by omega
 have w1 : IntKind.i64.wrap ((at1 : Int) + 1) = (at1 : Int) + 1 := by simp [IntKind.wrap, IntKind.signed, IntKind.bits]; omega
 have e0 : ((k.w1.length : Int) == 0) = false := by
  simp only [beq_eq_false_iff_ne, ne_eq]; omega
 simp only [Tk.row, Pkx.row] at hF gr ⊢
 refine Con.bodyNT (cxOk (L + 1)) rfl rfl (fn := Tryz.f21) (c := Tryz.f21.body.getD .skip) (by kernel_rfl) (by rfl) (by kernel_rfl) rfl  (by simp; omega) ?_
 intro F3 hF1 hF2
 have kq := (hF1 m (by simp)).trans hF
 have ka := (hF1 a (by simp)).trans hFa
 have kb := (hF1 b (by simp)).trans hFb
 refine vcu ⟨[some (.ptr m 0 0), some (.int .i64 1), some (.int .i64 which), some (.bool false), some (.bool false)] ++ oz 69, [], 1000⟩ ?_ ?_
 ·simp only [Tryz.f21, hdC, Option.getD_some, cx, go_sem, meths]
  repeat refine sd2 ?_
  refine ⟨(), (so0 hF2)⟩
 refine vcu ⟨[some (.ptr m 0 0), some (.int .i64 1), some (.int .i64 which), some (.bool false), some (.bool false)] ++ oz 69, [], 2000⟩ ?_ ?_
 ·simp only [Tryz.f21, hdC, tlC, Option.getD_some, cx, kq, e0, go_sem, meths]
  repeat refine sd2 ?_
  refine ⟨(), (so0 hF2)⟩
 refine vcu ⟨[some (.ptr m 0 0), some (.int .i64 1), some (.int .i64 which), some (.bool false), some (.bool false), none, none, none, none, none, none, some (.int .i64 at1)] ++ oz 62, [], 10000⟩ ?_ ?_
 ·simp only [Tryz.f21, hdC, tlC, Option.getD_some, cx, kq, hat, go_sem, meths]
  repeat refine sd2 ?_
  refine ⟨(), (so0 hF2)⟩
 refine vcu ⟨[some (.ptr m 0 0), some (.int .i64 1), some (.int .i64 which), some (.bool false), some (.bool false), none, none, none, none, none, none, some (.int .i64 at1), some (.ptr ⟨L + 1, 10288⟩ 0 0)] ++ oz 61, [(⟨L + 1, 10288⟩, .rows 38 4 true true [(pR p)])], 20000⟩ ?_ ?_
 ·simp only [Tryz.f21, hdC, tlC, Option.getD_some, cx, kq, ka, ln, gr, Int.toNat_natCast, go_sem, meths]
  repeat refine sd2 ?_
  refine ⟨(), (so0 hF2)⟩
 refine vcu ⟨[some (.ptr m 0 0), some (.int .i64 1), some (.int .i64 which), some (.bool false), some (.bool false), none, none, none, none, none, none, some (.int .i64 at1), some (.ptr ⟨L + 1, 10288⟩ 0 0)] ++ oz 61, [(m, .rows 33 43 true false [(gR k.g0 (gR k.g1 [.sl b 0 k.w0.length, .sl ⟨L + 1, 20736⟩ 0 (k.w1.length - 1), .int .i64 k.now]))]), (⟨L + 1, 20736⟩, .rows 38 4 true true ((k.w1.eraseIdx at1).map Pkx.row)), (⟨L + 1, 10288⟩, .rows 38 4 true true [(pR p)])], 30000⟩ ?_ ?_
 ·simp only [Tryz.f21, hdC, tlC, Option.getD_some, cx, kq, m1, ka, a1, a3, ln, l1, l2, l3, tn, w1, er, Nat.sub_zero, Int.toNat_natCast, Nat.add_assoc, Nat.add_zero, go_sem, meths]
  repeat refine sd2 ?_
  refine ⟨⟨by omega, by omega, by omega, .inl trivial⟩, ⟨by omega, by omega, by omega⟩, ⟨by omega, by omega⟩, okDyn_num (fun x => if x = m then 1 else if x = a then 0 else x.i + 2) (by simp only [numF, List.map, m2, a2, d1, if_true, if_false]; kernel_rfl), (), (so0 hF2 (h2 := by simp [subH, Tx.look, m1]) (h3 := by simp [subK, keys, m1, m2]))⟩
 refine VT.of (cxOk (L + 1)) ?_
 simp only [Tryz.f21, tlC, Option.getD_some, cx, m2, go_sem, meths]
 repeat refine sd2 ?_
 refine CallVC.same (does1Z_ok (L := L + 1) m (.inl (by omega)) k 5 p hsm.1 hsm.2 (.sl ⟨L + 1, 20736⟩ 0 (k.w1.length - 1)) (outs_sl (Nat.le_refl _)) b (by omega) h hst hbm hwl (by simp [c1, b1, kb]) (by simp [Tk.row])) ?_
 simp only [Tk.row, List.nil_append, m1, go_sem]
 repeat refine sd2 ?_
 refine .now (PostN.val [20736] (.inr rfl) (by simp) (p := True) (v0 := .bool true) ?_ trivial ?_ ?_ ⟨by omega, ?_, Nat.le_refl _, ?_, trivial⟩ ?_)
 ·simp only [resVal, resVals, resVal1, one, go_sem]
 ·simp [nmA]
 ·simp [Tx.rn]
 ·rw [kp_out (hm0.imp id fun h => .inl h.2)]
  exact .ren (by simp [Tx.look]; rfl) (by simp [rowsNm, nmA, nmAL, Dn, hbL]) (by simp [Tx.rn, Tx.rnL, sg_out hbL]; try simp [sg]; try rfl)
 ·rw [kp_at0 (by simp)]
  exact .pure (by simp [Tx.look, m2])
 ·simp [UpdAll, keys]
theorem takes1FFP0_ok {F : SF} {L nx : Nat} (m : Nm) (hm0 : m.l < L ∨ (m.l = L ∧ m.i < nx)) (k : Tk) (a : Nm) (haL : a.l ≤ L) (ham : a ≠ m) (z : List Pkx) (hFa : F a = some (.rows 38 4 true true ((k.w1 ++ z).map Pkx.row))) (which : Int) (at1 : Nat) (hat : which.tmod k.w1.length = at1) (hlt : at1 < k.w1.length) (hal : k.w1.length ≤ 1000000) (p : Pkx) (hp : k.w1[at1]? = some p) (hsm : p.sm) (h : Gx) (x : Pkx) (hst : gStep k.g1 k.now 5 p = (h, [x], 0)) (hF : F m = some (.rows 33 43 true false [k.row .nilS (.sl a 0 k.w1.length)])) :
  Con Tryz.prog 21 [.ptr m 0 0, .int .i64 1, .int .i64 which, .bool false, .bool false] F L nx (nx + 2) (.bool true) [(m, .rows 33 43 true false [(Tk.row { k with g1 := h } (.sl ⟨L, nx + 1⟩ 0 1) (.sl ⟨L, nx⟩ 0 (k.w1.length - 1)))]), (⟨L, nx⟩, .rows 38 4 true true ((k.w1.eraseIdx at1).map Pkx.row)), (⟨L, nx + 1⟩, .rows 38 4 true true ([x].map Pkx.row))] [m, a] := by
 have hm : m.l ≤ L := by omega
 have m1 : ∀ k, (m = (⟨L + 1, k⟩ : Nm)) = False := nm_out hm
 have m2 : ∀ k, ((⟨L + 1, k⟩ : Nm) = m) = False := nm_out' hm
 have a1 : ∀ k, (a = (⟨L + 1, k⟩ : Nm)) = False := nm_out haL
 have a2 : ∀ k, ((⟨L + 1, k⟩ : Nm) = a) = False := nm_out' haL
 have a3 : ∀ k, ((⟨L + 1, k⟩ : Nm) == a) = false := fun k => by rw [beq_eq_false_iff_ne, ne_eq, a2 k]; exact not_false
 have d1 : (a = m) = False := eq_false ham
 have d2 : (m = a) = False := eq_false (Ne.symm ham)
 obtain ⟨R, hR⟩ : ∃ R, R = (k.w1 ++ z).map Pkx.row := ⟨_, rfl⟩
 have er := eraseRows k.w1 z hlt
 have ln : R.length = k.w1.length + z.length := by rw [hR]; simp
 have gr : R.getD at1 [] = p.row := by
  rw [hR, List.getD_eq_getElem?_getD, List.getElem?_map, List.getElem?_append_left hlt, hp]; rfl
 rw [← hR] at er hFa
 clear hR
 have l1 : (List.take at1 R).length = at1 := by simp; omega
 have l2 : (List.take (k.w1.length - (at1 + 1)) (List.drop (at1 + 1) R)).length = k.w1.length - (at1 + 1) := by simp; omega
 have l3 : at1 + (k.w1.length - (at1 + 1)) = k.w1.length - 1 := by omega
 have tn : ((at1 : Int) + 1).toNat = at1 + 1 := by omega
 have w1 : IntKind.i64.wrap ((at1 : Int) + 1) = (at1 : Int) + 1 := by simp [IntKind.wrap, IntKind.signed, IntKind.bits]; omega
 have e0 : ((k.w1.length : Int) == 0) = false := by
  simp only [beq_eq_false_iff_ne, ne_eq]; omega
 simp only [Tk.row, Pkx.row] at hF gr ⊢
 refine Con.bodyNT (cxOk (L + 1)) rfl rfl (fn := Tryz.f21) (c := Tryz.f21.body.getD .skip) (by kernel_rfl) (by rfl) (by kernel_rfl) rfl  (by simp; omega) ?_
 intro F3 hF1 hF2
 have kq := (hF1 m (by simp)).trans hF
 have ka := (hF1 a (by simp)).trans hFa
 refine vcu ⟨[some (.ptr m 0 0), some (.int .i64 1), some (.int .i64 which), some (.bool false), some (.bool false)] ++ oz 69, [], 1000⟩ ?_ ?_
 ·simp only [Tryz.f21, hdC, Option.getD_some, cx, go_sem, meths]
  repeat refine sd2 ?_
  refine ⟨(), (so0 hF2)⟩
 refine vcu ⟨[some (.ptr m 0 0), some (.int .i64 1), some (.int .i64 which), some (.bool false), some (.bool false)] ++ oz 69, [], 2000⟩ ?_ ?_
 ·simp only [Tryz.f21, hdC, tlC, Option.getD_some, cx, kq, e0, go_sem, meths]
  repeat refine sd2 ?_
  refine ⟨(), (so0 hF2)⟩
 refine vcu ⟨[some (.ptr m 0 0), some (.int .i64 1), some (.int .i64 which), some (.bool false), some (.bool false), none, none, none, none, none, none, some (.int .i64 at1)] ++ oz 62, [], 10000⟩ ?_ ?_
 ·simp only [Tryz.f21, hdC, tlC, Option.getD_some, cx, kq, hat, go_sem, meths]
  repeat refine sd2 ?_
  refine ⟨(), (so0 hF2)⟩
 refine vcu ⟨[some (.ptr m 0 0), some (.int .i64 1), some (.int .i64 which), some (.bool false), some (.bool false), none, none, none, none, none, none, some (.int .i64 at1), some (.ptr ⟨L + 1, 10288⟩ 0 0)] ++ oz 61, [(⟨L + 1, 10288⟩, .rows 38 4 true true [(pR p)])], 20000⟩ ?_ ?_
 ·simp only [Tryz.f21, hdC, tlC, Option.getD_some, cx, kq, ka, ln, gr, Int.toNat_natCast, go_sem, meths]
  repeat refine sd2 ?_
  refine ⟨(), (so0 hF2)⟩
 refine vcu ⟨[some (.ptr m 0 0), some (.int .i64 1), some (.int .i64 which), some (.bool false), some (.bool false), none, none, none, none, none, none, some (.int .i64 at1), some (.ptr ⟨L + 1, 10288⟩ 0 0)] ++ oz 61, [(m, .rows 33 43 true false [(gR k.g0 (gR k.g1 [.nilS, .sl ⟨L + 1, 20736⟩ 0 (k.w1.length - 1), .int .i64 k.now]))]), (⟨L + 1, 20736⟩, .rows 38 4 true true ((k.w1.eraseIdx at1).map Pkx.row)), (⟨L + 1, 10288⟩, .rows 38 4 true true [(pR p)])], 30000⟩ ?_ ?_
 ·simp only [Tryz.f21, hdC, tlC, Option.getD_some, cx, kq, m1, ka, a1, a3, ln, l1, l2, l3, tn, w1, er, Nat.sub_zero, Int.toNat_natCast, Nat.add_assoc, Nat.add_zero, go_sem, meths]
  repeat refine sd2 ?_
  refine ⟨⟨by omega, by omega, by omega, .inl trivial⟩, ⟨by omega, by omega, by omega⟩, ⟨by omega, by omega⟩, okDyn_num (fun x => if x = m then 1 else if x = a then 0 else x.i + 2) (by simp only [numF, List.map, m2, a2, d1, if_true, if_false]; kernel_rfl), (), (so0 hF2 (h2 := by simp [subH, Tx.look, m1]) (h3 := by simp [subK, keys, m1, m2]))⟩
 refine VT.of (cxOk (L + 1)) ?_
 simp only [Tryz.f21, tlC, Option.getD_some, cx, m2, go_sem, meths]
 repeat refine sd2 ?_
 refine CallVC.same (does1P0_ok (pu := false) (L := L + 1) m (.inl (by omega)) k 5 p hsm.1 hsm.2 (.sl ⟨L + 1, 20736⟩ 0 (k.w1.length - 1)) (outs_sl (Nat.le_refl _)) h x hst (by simp [Tk.row])) ?_
 simp only [Tk.row, List.nil_append, m1, m2, go_sem]
 repeat refine sd2 ?_
 refine .now (PostN.val [20736, 30192] (.inr rfl) (by simp) (p := True) (v0 := .bool true) ?_ trivial ?_ ?_ ⟨by omega, ?_, Nat.le_refl _, ?_, Nat.le_refl _, ?_, trivial⟩ ?_)
 ·simp only [resVal, resVals, resVal1, one, go_sem]
 ·simp [nmA]
 ·simp [Tx.rn]
 ·rw [kp_out (hm0.imp id fun h => .inl h.2)]
  exact .ren (by simp [Tx.look]; rfl) (by simp [rowsNm, nmA, nmAL, Dn]) (by simp [Tx.rn, Tx.rnL]; try simp [sg]; try rfl)
 ·rw [kp_at0 (by simp)]
  exact .pure (by simp [Tx.look, m2])
 ·rw [kp_at (j := 1) (by simp)]
  exact .pure (by simp [Tx.look, m2, Pkx.row])
 ·simp [UpdAll, keys]
theorem takes1FFP_ok {F : SF} {L nx : Nat} (m : Nm) (hm0 : m.l < L ∨ (m.l = L ∧ m.i < nx)) (k : Tk) (a : Nm) (haL : a.l ≤ L) (ham : a ≠ m) (z : List Pkx) (hFa : F a = some (.rows 38 4 true true ((k.w1 ++ z).map Pkx.row))) (which : Int) (at1 : Nat) (hat : which.tmod k.w1.length = at1) (hlt : at1 < k.w1.length) (hal : k.w1.length ≤ 1000000) (p : Pkx) (hp : k.w1[at1]? = some p) (hsm : p.sm) (h : Gx) (x : Pkx) (hst : gStep k.g1 k.now 5 p = (h, [x], 0)) (b : Nm) (hbL : b.l ≤ L) (hbm : b ≠ m) (hwl : k.w0.length ≤ 1000000) (hFb : F b = some (.rows 38 4 true true (k.w0.map Pkx.row))) (hF : F m = some (.rows 33 43 true false [k.row (.sl b 0 k.w0.length) (.sl a 0 k.w1.length)])) :
  Con Tryz.prog 21 [.ptr m 0 0, .int .i64 1, .int .i64 which, .bool false, .bool false] F L nx (nx + 2) (.bool true) [(m, .rows 33 43 true false [(Tk.row { k with g1 := h } (.sl ⟨L, nx + 1⟩ 0 (k.w0.length + 1)) (.sl ⟨L, nx⟩ 0 (k.w1.length - 1)))]), (b, .dead), (⟨L, nx⟩, .rows 38 4 true true ((k.w1.eraseIdx at1).map Pkx.row)), (⟨L, nx + 1⟩, .rows 38 4 true true ((k.w0 ++ [x]).map Pkx.row))] [m, a, b] := by
 have hm : m.l ≤ L := by omega
 have m1 : ∀ k, (m = (⟨L + 1, k⟩ : Nm)) = False := nm_out hm
 have m2 : ∀ k, ((⟨L + 1, k⟩ : Nm) = m) = False := nm_out' hm
 have a1 : ∀ k, (a = (⟨L + 1, k⟩ : Nm)) = False := nm_out haL
 have a2 : ∀ k, ((⟨L + 1, k⟩ : Nm) = a) = False := nm_out' haL
 have a3 : ∀ k, ((⟨L + 1, k⟩ : Nm) == a) = false := fun k => by rw [beq_eq_false_iff_ne, ne_eq, a2 k]; exact not_false
 have d1 : (a = m) = False := eq_false ham
 have d2 : (m = a) = False := eq_false (Ne.symm ham)
 have b1 : ∀ k, (b = (⟨L + 1, k⟩ : Nm)) = False := nm_out (by omega)
 have b2 : ∀ k, ((⟨L + 1, k⟩ : Nm) = b) = False := nm_out' (by omega)
 have c1 : (b = m) = False := eq_false hbm
 have c2 : (m = b) = False := eq_false (Ne.symm hbm)
 obtain ⟨R, hR⟩ : ∃ R, R = (k.w1 ++ z).map Pkx.row := ⟨_, rfl⟩
 have er := eraseRows k.w1 z hlt
 have ln : R.length = k.w1.length + z.length := by rw [hR]; simp
 have gr : R.getD at1 [] = p.row := by
  rw [hR, List.getD_eq_getElem?_getD, List.getElem?_map, List.getElem?_append_left hlt, hp]; rfl
 rw [← hR] at er hFa
 clear hR
 have l1 : (List.take at1 R).length = at1 := by simp; omega
 have l2 : (List.take (k.w1.length - (at1 + 1)) (List.drop (at1 + 1) R)).length = k.w1.length - (at1 + 1) := by simp; omega
 have l3 : at1 + (k.w1.length - (at1 + 1)) = k.w1.length - 1 := by omega
 have tn : ((at1 : Int) + 1).toNat = at1 + 1 := by omega
 have w1 : IntKind.i64.wrap ((at1 : Int) + 1) = (at1 : Int) + 1 := by simp [IntKind.wrap, IntKind.signed, IntKind.bits]; omega
 have e0 : ((k.w1.length : Int) == 0) = false := by
  simp only [beq_eq_false_iff_ne, ne_eq]; omega
 simp only [Tk.row, Pkx.row] at hF gr ⊢
 refine Con.bodyNT (cxOk (L + 1)) rfl rfl (fn := Tryz.f21) (c := Tryz.f21.body.getD .skip) (by kernel_rfl) (by rfl) (by kernel_rfl) rfl  (by simp; omega) ?_
 intro F3 hF1 hF2
 have kq := (hF1 m (by simp)).trans hF
 have ka := (hF1 a (by simp)).trans hFa
 have kb := (hF1 b (by simp)).trans hFb
 refine vcu ⟨[some (.ptr m 0 0), some (.int .i64 1), some (.int .i64 which), some (.bool false), some (.bool false)] ++ oz 69, [], 1000⟩ ?_ ?_
 ·simp only [Tryz.f21, hdC, Option.getD_some, cx, go_sem, meths]
  repeat refine sd2 ?_
  refine ⟨(), (so0 hF2)⟩
 refine vcu ⟨[some (.ptr m 0 0), some (.int .i64 1), some (.int .i64 which), some (.bool false), some (.bool false)] ++ oz 69, [], 2000⟩ ?_ ?_
 ·simp only [Tryz.f21, hdC, tlC, Option.getD_some, cx, kq, e0, go_sem, meths]
  repeat refine sd2 ?_
  refine ⟨(), (so0 hF2)⟩
 refine vcu ⟨[some (.ptr m 0 0), some (.int .i64 1), some (.int .i64 which), some (.bool false), some (.bool false), none, none, none, none, none, none, some (.int .i64 at1)] ++ oz 62, [], 10000⟩ ?_ ?_
 ·simp only [Tryz.f21, hdC, tlC, Option.getD_some, cx, kq, hat, go_sem, meths]
  repeat refine sd2 ?_
  refine ⟨(), (so0 hF2)⟩
 refine vcu ⟨[some (.ptr m 0 0), some (.int .i64 1), some (.int .i64 which), some (.bool false), some (.bool false), none, none, none, none, none, none, some (.int .i64 at1), some (.ptr ⟨L + 1, 10288⟩ 0 0)] ++ oz 61, [(⟨L + 1, 10288⟩, .rows 38 4 true true [(pR p)])], 20000⟩ ?_ ?_
 ·simp only [Tryz.f21, hdC, tlC, Option.getD_some, cx, kq, ka, ln, gr, Int.toNat_natCast, go_sem, meths]
  repeat refine sd2 ?_
  refine ⟨(), (so0 hF2)⟩
 refine vcu ⟨[some (.ptr m 0 0), some (.int .i64 1), some (.int .i64 which), some (.bool false), some (.bool false), none, none, none, none, none, none, some (.int .i64 at1), some (.ptr ⟨L + 1, 10288⟩ 0 0)] ++ oz 61, [(m, .rows 33 43 true false [(gR k.g0 (gR k.g1 [.sl b 0 k.w0.length, .sl ⟨L + 1, 20736⟩ 0 (k.w1.length - 1), .int .i64 k.now]))]), (⟨L + 1, 20736⟩, .rows 38 4 true true ((k.w1.eraseIdx at1).map Pkx.row)), (⟨L + 1, 10288⟩, .rows 38 4 true true [(pR p)])], 30000⟩ ?_ ?_
 ·simp only [Tryz.f21, hdC, tlC, Option.getD_some, cx, kq, m1, ka, a1, a3, ln, l1, l2, l3, tn, w1, er, Nat.sub_zero, Int.toNat_natCast, Nat.add_assoc, Nat.add_zero, go_sem, meths]
  repeat refine sd2 ?_
  refine ⟨⟨by omega, by omega, by omega, .inl trivial⟩, ⟨by omega, by omega, by omega⟩, ⟨by omega, by omega⟩, okDyn_num (fun x => if x = m then 1 else if x = a then 0 else x.i + 2) (by simp only [numF, List.map, m2, a2, d1, if_true, if_false]; kernel_rfl), (), (so0 hF2 (h2 := by simp [subH, Tx.look, m1]) (h3 := by simp [subK, keys, m1, m2]))⟩
 refine VT.of (cxOk (L + 1)) ?_
 simp only [Tryz.f21, tlC, Option.getD_some, cx, m2, go_sem, meths]
 repeat refine sd2 ?_
 refine CallVC.same (does1P_ok (L := L + 1) m (.inl (by omega)) k 5 p hsm.1 hsm.2 (.sl ⟨L + 1, 20736⟩ 0 (k.w1.length - 1)) (outs_sl (Nat.le_refl _)) b (by omega) h x hst hbm hwl (by simp [c1, b1, kb]) (by simp [Tk.row])) ?_
 simp only [Tk.row, List.nil_append, m1, m2, b1, b2, c1, go_sem]
 repeat refine sd2 ?_
 refine .now (PostN.val [20736, 30192] (.inr rfl) (by simp) (p := True) (v0 := .bool true) ?_ trivial ?_ ?_ ⟨by omega, ?_, by omega, ?_, Nat.le_refl _, ?_, Nat.le_refl _, ?_, trivial⟩ ?_)
 ·simp only [resVal, resVals, resVal1, one, go_sem]
 ·simp [nmA]
 ·simp [Tx.rn]
 ·rw [kp_out (hm0.imp id fun h => .inl h.2)]
  exact .ren (by simp [Tx.look]; rfl) (by simp [rowsNm, nmA, nmAL, Dn]) (by simp [Tx.rn, Tx.rnL]; try simp [sg]; try rfl)
 ·exact BN_dead
 ·rw [kp_at0 (by simp)]
  exact .pure (by simp [Tx.look, m2])
 ·rw [kp_at (j := 1) (by simp)]
  exact .pure (by simp [Tx.look, m2, b2, Pkx.row])
 ·simp [UpdAll, keys]
theorem takes1TFZ_ok {F : SF} {L nx : Nat} (m : Nm) (hm0 : m.l < L ∨ (m.l = L ∧ m.i < nx)) (k : Tk) (a : Nm) (haL : a.l ≤ L) (ham : a ≠ m) (z : List Pkx) (hFa : F a = some (.rows 38 4 true true ((k.w1 ++ z).map Pkx.row))) (which : Int) (at1 : Nat) (hat : which.tmod k.w1.length = at1) (hlt : at1 < k.w1.length) (hal : k.w1.length ≤ 1000000) (p : Pkx) (hp : k.w1[at1]? = some p) (hsm : p.sm) (h : Gx) (hst : gStep k.g1 k.now 5 p = (h, [], 0)) (b : Nm) (hbL : b.l ≤ L) (hbm : b ≠ m) (hwl : k.w0.length ≤ 1000000) (hFb : F b = some (.rows 38 4 true true (k.w0.map Pkx.row))) (hF : F m = some (.rows 33 43 true false [k.row (.sl b 0 k.w0.length) (.sl a 0 k.w1.length)])) :
  Con Tryz.prog 21 [.ptr m 0 0, .int .i64 1, .int .i64 which, .bool true, .bool false] F L nx (nx + 0) (.bool true) [(m, .rows 33 43 true false [(Tk.row { k with g1 := h } (.sl b 0 k.w0.length) (.sl a 0 k.w1.length))])] [m, a, b] := by
 have hm : m.l ≤ L := by omega
 have m1 : ∀ k, (m = (⟨L + 1, k⟩ : Nm)) = False := nm_out hm
 have m2 : ∀ k, ((⟨L + 1, k⟩ : Nm) = m) = False := nm_out' hm
 have a1 : ∀ k, (a = (⟨L + 1, k⟩ : Nm)) = False := nm_out haL
 have a2 : ∀ k, ((⟨L + 1, k⟩ : Nm) = a) = False := nm_out' haL
 have a3 : ∀ k, ((⟨L + 1, k⟩ : Nm) == a) = false := fun k => by rw [beq_eq_false_iff_ne, ne_eq, a2 k]; exact not_false
 have d1 : (a = m) = False := eq_false ham
 have d2 : (m = a) = False := eq_false (Ne.symm ham)
 have b1 : ∀ k, (b = (⟨L + 1, k⟩ : Nm)) = False := nm_out (by omega)
 have b2 : ∀ k, ((⟨L + 1, k⟩ : Nm) = b) = False := nm_out' (by omega)
 have c1 : (b = m) = False := eq_false hbm
 have c2 : (m = b) = False := eq_false (Ne.symm hbm)
 obtain ⟨R, hR⟩ : ∃ R, R = (k.w1 ++ z).map Pkx.row := ⟨_, rfl⟩
 have er := eraseRows k.w1 z hlt
 have ln : R.length = k.w1.length + z.length := by rw [hR]; simp
 have gr : R.getD at1 [] = p.row := by
  rw [hR, List.getD_eq_getElem?_getD, List.getElem?_map, List.getElem?_append_left hlt, hp]; rfl
 rw [← hR] at er hFa
 clear hR
 have l1 : (List.take at1 R).length = at1 := by simp; omega
 have l2 : (List.take (k.w1.length - (at1 + 1)) (List.drop (at1 + 1) R)).length = k.w1.length - (at1 + 1) := by simp; omega
 have l3 : at1 + (k.w1.length - (at1 + 1)) = k.w1.length - 1 := by omega
 have tn : ((at1 : Int) + 1).toNat = at1 + 1 := by omega
 have w1 : IntKind.i64.wrap ((at1 : Int) + 1) = (at1 : Int) + 1 := by simp [IntKind.wrap, IntKind.signed, IntKind.bits]; omega
 have e0 : ((k.w1.length : Int) == 0) = false := by
  simp only [beq_eq_false_iff_ne, ne_eq]; omega
 simp only [Tk.row, Pkx.row] at hF gr ⊢
 refine Con.bodyNT (cxOk (L + 1)) rfl rfl (fn := Tryz.f21) (c := Tryz.f21.body.getD .skip) (by kernel_rfl) (by rfl) (by kernel_rfl) rfl  (by simp; omega) ?_
 intro F3 hF1 hF2
 have kq := (hF1 m (by simp)).trans hF
 have ka := (hF1 a (by simp)).trans hFa
 have kb := (hF1 b (by simp)).trans hFb
 refine vcu ⟨[some (.ptr m 0 0), some (.int .i64 1), some (.int .i64 which), some (.bool true), some (.bool false)] ++ oz 69, [], 1000⟩ ?_ ?_
 ·simp only [Tryz.f21, hdC, Option.getD_some, cx, go_sem, meths]
  repeat refine sd2 ?_
  refine ⟨(), (so0 hF2)⟩
 refine vcu ⟨[some (.ptr m 0 0), some (.int .i64 1), some (.int .i64 which), some (.bool true), some (.bool false)] ++ oz 69, [], 2000⟩ ?_ ?_
 ·simp only [Tryz.f21, hdC, tlC, Option.getD_some, cx, kq, e0, go_sem, meths]
  repeat refine sd2 ?_
  refine ⟨(), (so0 hF2)⟩
 refine vcu ⟨[some (.ptr m 0 0), some (.int .i64 1), some (.int .i64 which), some (.bool true), some (.bool false), none, none, none, none, none, none, some (.int .i64 at1)] ++ oz 62, [], 10000⟩ ?_ ?_
 ·simp only [Tryz.f21, hdC, tlC, Option.getD_some, cx, kq, hat, go_sem, meths]
  repeat refine sd2 ?_
  refine ⟨(), (so0 hF2)⟩
 refine vcu ⟨[some (.ptr m 0 0), some (.int .i64 1), some (.int .i64 which), some (.bool true), some (.bool false), none, none, none, none, none, none, some (.int .i64 at1), some (.ptr ⟨L + 1, 10288⟩ 0 0)] ++ oz 61, [(⟨L + 1, 10288⟩, .rows 38 4 true true [(pR p)])], 20000⟩ ?_ ?_
 ·simp only [Tryz.f21, hdC, tlC, Option.getD_some, cx, kq, ka, ln, gr, Int.toNat_natCast, go_sem, meths]
  repeat refine sd2 ?_
  refine ⟨(), (so0 hF2)⟩
 refine vcu ⟨[some (.ptr m 0 0), some (.int .i64 1), some (.int .i64 which), some (.bool true), some (.bool false), none, none, none, none, none, none, some (.int .i64 at1), some (.ptr ⟨L + 1, 10288⟩ 0 0)] ++ oz 61, [(⟨L + 1, 10288⟩, .rows 38 4 true true [(pR p)])], 30000⟩ ?_ ?_
 ·simp only [Tryz.f21, hdC, tlC, Option.getD_some, cx, go_sem, meths]
  repeat refine sd2 ?_
  refine ⟨(), (so0 hF2)⟩
 refine VT.of (cxOk (L + 1)) ?_
 simp only [Tryz.f21, tlC, Option.getD_some, cx, go_sem, meths]
 repeat refine sd2 ?_
 refine CallVC.same (does1Z_ok (L := L + 1) m (.inl (by omega)) k 5 p hsm.1 hsm.2 (.sl a 0 k.w1.length) (outs_sl (by omega)) b (by omega) h hst hbm hwl (by simp [b1, kb]) (by simp [Tk.row, kq, m1])) ?_
 simp only [Tk.row, List.nil_append, m1, go_sem]
 repeat refine sd2 ?_
 refine .now (PostN.val [] (.inr rfl) (by simp) (p := True) (v0 := .bool true) ?_ trivial ?_ ?_ ⟨by omega, ?_, trivial⟩ ?_)
 ·simp only [resVal, resVals, resVal1, one, go_sem]
 ·simp [nmA]
 ·simp [Tx.rn]
 ·rw [kp_nil]
  exact .ren (by simp [Tx.look, m1]; rfl) (by simp [rowsNm, nmA, nmAL, Dn, haL, hbL]) (by simp [Tx.rn, Tx.rnL, sg_out haL, sg_out hbL]; try simp [sg]; try rfl)
 ·simp [UpdAll, keys]
theorem takes1TFP_ok {F : SF} {L nx : Nat} (m : Nm) (hm0 : m.l < L ∨ (m.l = L ∧ m.i < nx)) (k : Tk) (a : Nm) (haL : a.l ≤ L) (ham : a ≠ m) (z : List Pkx) (hFa : F a = some (.rows 38 4 true true ((k.w1 ++ z).map Pkx.row))) (which : Int) (at1 : Nat) (hat : which.tmod k.w1.length = at1) (hlt : at1 < k.w1.length) (hal : k.w1.length ≤ 1000000) (p : Pkx) (hp : k.w1[at1]? = some p) (hsm : p.sm) (h : Gx) (x : Pkx) (hst : gStep k.g1 k.now 5 p = (h, [x], 0)) (b : Nm) (hbL : b.l ≤ L) (hbm : b ≠ m) (hwl : k.w0.length ≤ 1000000) (hFb : F b = some (.rows 38 4 true true (k.w0.map Pkx.row))) (hF : F m = some (.rows 33 43 true false [k.row (.sl b 0 k.w0.length) (.sl a 0 k.w1.length)])) :
  Con Tryz.prog 21 [.ptr m 0 0, .int .i64 1, .int .i64 which, .bool true, .bool false] F L nx (nx + 1) (.bool true) [(m, .rows 33 43 true false [(Tk.row { k with g1 := h } (.sl ⟨L, nx⟩ 0 (k.w0.length + 1)) (.sl a 0 k.w1.length))]), (b, .dead), (⟨L, nx⟩, .rows 38 4 true true ((k.w0 ++ [x]).map Pkx.row))] [m, a, b] := by
 have hm : m.l ≤ L := by omega
 have m1 : ∀ k, (m = (⟨L + 1, k⟩ : Nm)) = False := nm_out hm
 have m2 : ∀ k, ((⟨L + 1, k⟩ : Nm) = m) = False := nm_out' hm
 have a1 : ∀ k, (a = (⟨L + 1, k⟩ : Nm)) = False := nm_out haL
 have a2 : ∀ k, ((⟨L + 1, k⟩ : Nm) = a) = False := nm_out' haL
 have a3 : ∀ k, ((⟨L + 1, k⟩ : Nm) == a) = false := fun k => by rw [beq_eq_false_iff_ne, ne_eq, a2 k]; exact not_false
 have d1 : (a = m) = False := eq_false ham
 have d2 : (m = a) = False := eq_false (Ne.symm ham)
 have b1 : ∀ k, (b = (⟨L + 1, k⟩ : Nm)) = False := nm_out (by omega)
 have b2 : ∀ k, ((⟨L + 1, k⟩ : Nm) = b) = False := nm_out' (by omega)
 have c1 : (b = m) = False := eq_false hbm
 have c2 : (m = b) = False := eq_false (Ne.symm hbm)
 obtain ⟨R, hR⟩ : ∃ R, R = (k.w1 ++ z).map Pkx.row := ⟨_, rfl⟩
 have er := eraseRows k.w1 z hlt
 have ln : R.length = k.w1.length + z.length := by rw [hR]; simp
 have gr : R.getD at1 [] = p.row := by
  rw [hR, List.getD_eq_getElem?_getD, List.getElem?_map, List.getElem?_append_left hlt, hp]; rfl
 rw [← hR] at er hFa
 clear hR
 have l1 : (List.take at1 R).length = at1 := by simp; omega
 have l2 : (List.take (k.w1.length - (at1 + 1)) (List.drop (at1 + 1) R)).length = k.w1.length - (at1 + 1) := by simp; omega
 have l3 : at1 + (k.w1.length - (at1 + 1)) = k.w1.length - 1 := by omega
 have tn : ((at1 : Int) + 1).toNat = at1 + 1 := by omega
 have w1 : IntKind.i64.wrap ((at1 : Int) + 1) = (at1 : Int) + 1 := by simp [IntKind.wrap, IntKind.signed, IntKind.bits]; omega
 have e0 : ((k.w1.length : Int) == 0) = false := by
  simp only [beq_eq_false_iff_ne, ne_eq]; omega
 simp only [Tk.row, Pkx.row] at hF gr ⊢
 refine Con.bodyNT (cxOk (L + 1)) rfl rfl (fn := Tryz.f21) (c := Tryz.f21.body.getD .skip) (by kernel_rfl) (by rfl) (by kernel_rfl) rfl  (by simp; omega) ?_
 intro F3 hF1 hF2
 have kq := (hF1 m (by simp)).trans hF
 have ka := (hF1 a (by simp)).trans hFa
 have kb := (hF1 b (by simp)).trans hFb
 refine vcu ⟨[some (.ptr m 0 0), some (.int .i64 1), some (.int .i64 which), some (.bool true), some (.bool false)] ++ oz 69, [], 1000⟩ ?_ ?_
 ·simp only [Tryz.f21, hdC, Option.getD_some, cx, go_sem, meths]
  repeat refine sd2 ?_
  refine ⟨(), (so0 hF2)⟩
 refine vcu ⟨[some (.ptr m 0 0), some (.int .i64 1), some (.int .i64 which), some (.bool true), some (.bool false)] ++ oz 69, [], 2000⟩ ?_ ?_
 ·simp only [Tryz.f21, hdC, tlC, Option.getD_some, cx, kq, e0, go_sem, meths]
  repeat refine sd2 ?_
  refine ⟨(), (so0 hF2)⟩
 refine vcu ⟨[some (.ptr m 0 0), some (.int .i64 1), some (.int .i64 which), some (.bool true), some (.bool false), none, none, none, none, none, none, some (.int .i64 at1)] ++ oz 62, [], 10000⟩ ?_ ?_
 ·simp only [Tryz.f21, hdC, tlC, Option.getD_some, cx, kq, hat, go_sem, meths]
  repeat refine sd2 ?_
  refine ⟨(), (so0 hF2)⟩
 refine vcu ⟨[some (.ptr m 0 0), some (.int .i64 1), some (.int .i64 which), some (.bool true), some (.bool false), none, none, none, none, none, none, some (.int .i64 at1), some (.ptr ⟨L + 1, 10288⟩ 0 0)] ++ oz 61, [(⟨L + 1, 10288⟩, .rows 38 4 true true [(pR p)])], 20000⟩ ?_ ?_
 ·simp only [Tryz.f21, hdC, tlC, Option.getD_some, cx, kq, ka, ln, gr, Int.toNat_natCast, go_sem, meths]
  repeat refine sd2 ?_
  refine ⟨(), (so0 hF2)⟩
 refine vcu ⟨[some (.ptr m 0 0), some (.int .i64 1), some (.int .i64 which), some (.bool true), some (.bool false), none, none, none, none, none, none, some (.int .i64 at1), some (.ptr ⟨L + 1, 10288⟩ 0 0)] ++ oz 61, [(⟨L + 1, 10288⟩, .rows 38 4 true true [(pR p)])], 30000⟩ ?_ ?_
 ·simp only [Tryz.f21, hdC, tlC, Option.getD_some, cx, go_sem, meths]
  repeat refine sd2 ?_
  refine ⟨(), (so0 hF2)⟩
 refine VT.of (cxOk (L + 1)) ?_
 simp only [Tryz.f21, tlC, Option.getD_some, cx, go_sem, meths]
 repeat refine sd2 ?_
 refine CallVC.same (does1P_ok (L := L + 1) m (.inl (by omega)) k 5 p hsm.1 hsm.2 (.sl a 0 k.w1.length) (outs_sl (by omega)) b (by omega) h x hst hbm hwl (by simp [b1, kb]) (by simp [Tk.row, kq, m1])) ?_
 simp only [Tk.row, List.nil_append, m1, m2, b1, b2, c1, go_sem]
 repeat refine sd2 ?_
 refine .now (PostN.val [30192] (.inr rfl) (by simp) (p := True) (v0 := .bool true) ?_ trivial ?_ ?_ ⟨by omega, ?_, by omega, ?_, Nat.le_refl _, ?_, trivial⟩ ?_)
 ·simp only [resVal, resVals, resVal1, one, go_sem]
 ·simp [nmA]
 ·simp [Tx.rn]
 ·rw [kp_out (hm0.imp id fun h => .inl h.2)]
  exact .ren (by simp [Tx.look, m1]; rfl) (by simp [rowsNm, nmA, nmAL, Dn, haL]) (by simp [Tx.rn, Tx.rnL, sg_out haL]; try simp [sg]; try rfl)
 ·exact BN_dead
 ·rw [kp_at0 (by simp)]
  exact .pure (by simp [Tx.look, m2, b2, Pkx.row])
 ·simp [UpdAll, keys]
end Go.Proofs.YtifhjhbfhdcahaaGreat
end
