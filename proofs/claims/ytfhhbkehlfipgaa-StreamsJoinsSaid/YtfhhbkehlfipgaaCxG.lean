/- Lemmas for the walk: C15, C16, C21. -/
import Derived.Test.YtfhhbkehlfipgaaCxF
import Derived.Test.YtfhhbkehlfipgaaCxA
section
set_option linter.unusedSimpArgs false
set_option linter.unusedVariables false
set_option linter.unnecessarySimpa false
set_option linter.unusedSectionVars false
namespace Go.Proofs.Ytfhhbkehlfipgaa
open Go.Tx
set_option maxRecDepth 100000
set_option maxHeartbeats 1000000
set_option linter.unusedSimpArgs false
set_option linter.unusedVariables false
/-! chunk.reset.write -/
def resetT (kind num last res : Nat) (xs : List Nat) : List UInt8 :=
  putB 1 kind ++ putB 4 num ++ (if kind = 2 then putB 1 res else putB 4 last ++ xs.flatMap (putB 2))
theorem bput_call {F : SF} {L nx : Nat} {K : PV → List (Nm × SBlk) → List Nm → Nat → Prop} (n : Nm) (hn : n.l < L ∨ (n.l = L ∧ n.i < nx)) (b : Option Nm) (hm : bldL L nx b) (t : List UInt8) (k : Nat) (kk : Int) (hkk : kk = k) (hk1 : 1 ≤ k) (hk2 : k ≤ 7) (vs : List Nat) (hv : ∀ v ∈ vs, v < 256 ^ k) (hv0 : vs ≠ []) (hvl : t.length + vs.length * 7 ≤ 1000000)
    (m : Nm) (l : Nat) (hl : l = vs.length) (hFm : F m = some (.rows 3 1 true true (vs.map eN))) (hmn : n ≠ m) (hmb : b ≠ some m) (hb : bldF F n 181 b t) (t2 : List UInt8) (ht2 : t2 = t ++ vs.flatMap (putB k))
    (hk : K (.tup []) ([(m, .rows 3 1 false true (vs.map eN))] ++ (bldD b ++ bldU n 181 ⟨L, nx⟩ t2)) ([m] ++ bldR n b) (nx + 1)) : CallVC Try.prog 124 [.ptr n 0 0, .int .i64 kk, .sl m 0 l] F L nx K := by
  subst hkk; subst hl; subst ht2
  have e1 : wkNL [.ptr n 0 0, .int .i64 (k : Int), .sl m 0 vs.length] [.ptr n 0 0, .int .i64 (k : Int), .fs 1 (vs.map eN)] = [m] := by simp [wkNL, wkN]
  have e2 : unown F [m] = [(m, .rows 3 1 false true (vs.map eN))] := by simp [unown, hFm]
  refine CallVC.gen (args2 := [.ptr n 0 0, .int .i64 (k : Int), .fs 1 (vs.map eN)]) ?_ (bput_ok n hn b hm t k hk1 hk2 vs hv hv0 hvl ?_) ?_
  · simp [Wk, WkL, hFm, List.take_of_length_le]
  · rw [e1, e2]
    have hx : ∀ q, q ≠ m → (F.upd [(m, .rows 3 1 false true (vs.map eN))]) q = F q := by intro q hq; simp [SF.upd, SF.set, hq]
    cases b with
    | none => exact ⟨hb.1, hb.2.imp fun p h => (hx n hmn).trans h⟩
    | some m2 => exact ⟨hb.1, (hx n hmn).trans hb.2.1, (hx m2 (fun e => hmb (by rw [e]))).trans hb.2.2.1, hb.2.2.2⟩
  · rw [e1, e2]; exact hk
theorem resetWrite2_ok {F : SF} {L nx : Nat} (n : Nm) (hn : n.l < L ∨ (n.l = L ∧ n.i < nx)) (num res : Nat) (last : Int) (xs : List Int) (h1 : num < 2 ^ 32) (h2 : res < 256) (hlen : xs.length ≤ 1000) (hb : bldF F n 181 none []) :
    Con Try.prog 122 [rstP 2 num last res (.fs 1 (xs.map eI)), .ptr n 0 0] F L nx (nx + 1) (.tup [.int .i64 130, .int .i64 0]) (bldU n 181 ⟨L, nx⟩ (putB 1 2 ++ putB 4 num ++ putB 1 res)) [n] := by
  refine Con.bodyN (cxOk (L + 1)) rfl rfl (fn := Try.f122) (c := Try.f122.body.getD .skip) (by kernel_rfl) (by rfl) (by kernel_rfl) rfl  (by simp; omega) ?_
  intro F3 hF1 hF2
  have hFb : bldF F3 n 181 none [] := ⟨rfl, hb.2.imp fun p h => (hF1 n (by simp)).trans h⟩
  have n1 : ∀ k, (n = (⟨L + 1, k⟩ : Nm)) = False := nm_out (by omega)
  have n2 : ∀ k, ((⟨L + 1, k⟩ : Nm) = n) = False := nm_out' (by omega)
  simp only [Try.f122, cx, rstP, n1, n2, Nat.add_zero, go_sem, Meths.get, meths, Nat.reduceSub, Nat.reduceAdd, Nat.reduceMul, Nat.reduceEqDiff, Nat.reduceLT, Nat.reduceLeDiff, Nat.reduceBEq, Nat.reduceBNe, reduceIte, reduceCtorEq, Int.reduceToNat, String.reduceEq]
  obtain ⟨t1, e1⟩ : ∃ t, t = putB 1 2 := ⟨_, rfl⟩
  obtain ⟨t2, e2⟩ : ∃ t, t = t1 ++ putB 4 num := ⟨_, rfl⟩
  obtain ⟨t3, e3⟩ : ∃ t, t = t2 ++ putB 1 res := ⟨_, rfl⟩
  have l1 : t1.length = 1 := by rw [e1, putB_len]
  have l2 : t2.length = 5 := by rw [e2, List.length_append, putB_len, l1]
  have z1 : t1 ≠ [] := by intro h; rw [h] at l1; simp at l1
  have z2 : t2 ≠ [] := by intro h; rw [h] at l2; simp at l2
  rw [← e1, ← e2, ← e3]
  refine bput_call n (.inl (show n.l < L + 1 by omega)) none trivial [] 1 1 rfl (by omega) (by omega) [2] (by simp) (by simp) (by simp) ⟨L + 1, 224⟩ 1 rfl (by simp [eN]) (by intro h; rw [n1] at h; exact h) (by simp) ⟨rfl, hFb.2.imp fun p h => by simp [h, n1]⟩ t1 (by simp [e1]) ?_
  simp only [bldD, bldU, n1, n2, Nat.add_zero, go_sem, Meths.get, meths, Nat.reduceSub, Nat.reduceAdd, Nat.reduceMul, Nat.reduceEqDiff, Nat.reduceLT, Nat.reduceLeDiff, Nat.reduceBEq, Nat.reduceBNe, reduceIte, reduceCtorEq, Int.reduceToNat, String.reduceEq]
  refine bput_call n (.inl (show n.l < L + 1 by omega)) (some ⟨L + 1, 256⟩) (.inr ⟨rfl, by simp⟩) t1 4 4 rfl (by omega) (by omega) [num] (by simpa using h1) (by simp) (by simp; omega) ⟨L + 1, 385⟩ 1 rfl (by simp [eN, n2]) (by intro h; rw [n1] at h; exact h) (by simp) ⟨z1, by simp [n1], by simp [n2], by simp [n2]⟩ t2 (by simp [e2]) ?_
  simp only [bldD, bldU, n1, n2, Nat.add_zero, go_sem, Meths.get, meths, Nat.reduceSub, Nat.reduceAdd, Nat.reduceMul, Nat.reduceEqDiff, Nat.reduceLT, Nat.reduceLeDiff, Nat.reduceBEq, Nat.reduceBNe, reduceIte, reduceCtorEq, Int.reduceToNat, String.reduceEq]
  refine bput_call n (.inl (show n.l < L + 1 by omega)) (some ⟨L + 1, 417⟩) (.inr ⟨rfl, by simp⟩) t2 1 1 rfl (by omega) (by omega) [res] (by simpa using h2) (by simp) (by simp; omega) ⟨L + 1, 674⟩ 1 rfl (by simp [eN, n2]) (by intro h; rw [n1] at h; exact h) (by simp) ⟨z2, by simp [n1], by simp [n2], by simp [n2]⟩ t3 (by simp [e3]) ?_
  simp only [bldD, bldU, n1, n2, Nat.add_zero, go_sem, Meths.get, meths, Nat.reduceSub, Nat.reduceAdd, Nat.reduceMul, Nat.reduceEqDiff, Nat.reduceLT, Nat.reduceLeDiff, Nat.reduceBEq, Nat.reduceBNe, reduceIte, reduceCtorEq, Int.reduceToNat, String.reduceEq]
  refine .now (PostN.val [706] (.inr rfl) (by simp) (p := True) (v0 := .tup [.int .i64 130, .int .i64 0]) ?_ trivial ?_ ?_ ⟨by omega, ?_, Nat.le_refl _, ?_, trivial⟩ ?_)
  · simp only [resVal, resVals, resVal1, one, Nat.add_zero, go_sem, Meths.get, meths, Nat.reduceSub, Nat.reduceAdd, Nat.reduceMul, Nat.reduceEqDiff, Nat.reduceLT, Nat.reduceLeDiff, Nat.reduceBEq, Nat.reduceBNe, reduceIte, reduceCtorEq, Int.reduceToNat, String.reduceEq]
  · simp [nmA, nmAL, Dn]
  · simp [Tx.rn, Tx.rnL]
  · rw [kp_out (hn.imp id fun h => .inl h.2)]
    exact .ren (by simp [Tx.look, n1]; rfl) (by simp [rowsNm, nmA, nmAL, Dn]; omega) (by simp [Tx.rn, Tx.rnL, sg_out (show n.l ≤ L by omega)]; simp [sg])
  · rw [kp_at0 (by simp)]
    exact .pure (by simp [Tx.look, n2])
  · simp [UpdAll, keys]
theorem resetWrite1_ok {F : SF} {L nx : Nat} (n : Nm) (hn : n.l < L ∨ (n.l = L ∧ n.i < nx)) (num last : Nat) (res : Int) (xs : List Nat) (h1 : num < 2 ^ 32) (h2 : last < 2 ^ 32) (hx : ∀ x ∈ xs, x < 256 ^ 2) (hx0 : xs ≠ []) (hlen : xs.length ≤ 1000) (hb : bldF F n 181 none []) :
    Con Try.prog 122 [rstP 1 num last res (.fs 1 (xs.map eN)), .ptr n 0 0] F L nx (nx + 1) (.tup [.int .i64 130, .int .i64 0]) (bldU n 181 ⟨L, nx⟩ (putB 1 1 ++ putB 4 num ++ (putB 4 last ++ xs.flatMap (putB 2)))) [n] := by
  refine Con.bodyN (cxOk (L + 1)) rfl rfl (fn := Try.f122) (c := Try.f122.body.getD .skip) (by kernel_rfl) (by rfl) (by kernel_rfl) rfl  (by simp; omega) ?_
  intro F3 hF1 hF2
  have hFb : bldF F3 n 181 none [] := ⟨rfl, hb.2.imp fun p h => (hF1 n (by simp)).trans h⟩
  have n1 : ∀ k, (n = (⟨L + 1, k⟩ : Nm)) = False := nm_out (by omega)
  have n2 : ∀ k, ((⟨L + 1, k⟩ : Nm) = n) = False := nm_out' (by omega)
  have f12 : ((1 : Int) == 2) = false := rfl
  simp only [Try.f122, cx, rstP, n1, n2, Nat.add_zero, go_sem, Meths.get, meths, Nat.reduceSub, Nat.reduceAdd, Nat.reduceMul, Nat.reduceEqDiff, Nat.reduceLT, Nat.reduceLeDiff, Nat.reduceBEq, Nat.reduceBNe, reduceIte, reduceCtorEq, Int.reduceToNat, String.reduceEq]
  obtain ⟨t1, e1⟩ : ∃ t, t = putB 1 1 := ⟨_, rfl⟩
  obtain ⟨t2, e2⟩ : ∃ t, t = t1 ++ putB 4 num := ⟨_, rfl⟩
  obtain ⟨t3, e3⟩ : ∃ t, t = t2 ++ putB 4 last := ⟨_, rfl⟩
  obtain ⟨t4, e4⟩ : ∃ t, t = t3 ++ xs.flatMap (putB 2) := ⟨_, rfl⟩
  have l1 : t1.length = 1 := by rw [e1, putB_len]
  have l2 : t2.length = 5 := by rw [e2, List.length_append, putB_len, l1]
  have l3 : t3.length = 9 := by rw [e3, List.length_append, putB_len, l2]
  have z1 : t1 ≠ [] := by intro h; rw [h] at l1; simp at l1
  have z2 : t2 ≠ [] := by intro h; rw [h] at l2; simp at l2
  have z3 : t3 ≠ [] := by intro h; rw [h] at l3; simp at l3
  rw [← e1, ← e2, ← List.append_assoc, ← e3, ← e4]
  refine bput_call n (.inl (show n.l < L + 1 by omega)) none trivial [] 1 1 rfl (by omega) (by omega) [1] (by simp) (by simp) (by simp) ⟨L + 1, 224⟩ 1 rfl (by simp [eN]) (by intro h; rw [n1] at h; exact h) (by simp) ⟨rfl, hFb.2.imp fun p h => by simp [h, n1]⟩ t1 (by simp [e1]) ?_
  simp only [bldD, bldU, n1, n2, Nat.add_zero, go_sem, Meths.get, meths, Nat.reduceSub, Nat.reduceAdd, Nat.reduceMul, Nat.reduceEqDiff, Nat.reduceLT, Nat.reduceLeDiff, Nat.reduceBEq, Nat.reduceBNe, reduceIte, reduceCtorEq, Int.reduceToNat, String.reduceEq]
  refine bput_call n (.inl (show n.l < L + 1 by omega)) (some ⟨L + 1, 256⟩) (.inr ⟨rfl, by simp⟩) t1 4 4 rfl (by omega) (by omega) [num] (by simpa using h1) (by simp) (by simp; omega) ⟨L + 1, 385⟩ 1 rfl (by simp [eN, n2]) (by intro h; rw [n1] at h; exact h) (by simp) ⟨z1, by simp [n1], by simp [n2], by simp [n2]⟩ t2 (by simp [e2]) ?_
  simp only [bldD, bldU, n1, n2, f12, Nat.add_zero, go_sem, Meths.get, meths, Nat.reduceSub, Nat.reduceAdd, Nat.reduceMul, Nat.reduceEqDiff, Nat.reduceLT, Nat.reduceLeDiff, Nat.reduceBEq, Nat.reduceBNe, reduceIte, reduceCtorEq, Int.reduceToNat, String.reduceEq]
  refine bput_call n (.inl (show n.l < L + 1 by omega)) (some ⟨L + 1, 417⟩) (.inr ⟨rfl, by simp⟩) t2 4 4 rfl (by omega) (by omega) [last] (by simpa using h2) (by simp) (by simp; omega) ⟨L + 1, 674⟩ 1 rfl (by simp [eN, n2]) (by intro h; rw [n1] at h; exact h) (by simp) ⟨z2, by simp [n1], by simp [n2], by simp [n2]⟩ t3 (by simp [e3]) ?_
  simp only [bldD, bldU, n1, n2, f12, Nat.add_zero, go_sem, Meths.get, meths, Nat.reduceSub, Nat.reduceAdd, Nat.reduceMul, Nat.reduceEqDiff, Nat.reduceLT, Nat.reduceLeDiff, Nat.reduceBEq, Nat.reduceBNe, reduceIte, reduceCtorEq, Int.reduceToNat, String.reduceEq]
  refine CallVC.same (bput_ok n (.inl (show n.l < L + 1 by omega)) (some ⟨L + 1, 706⟩) (.inr ⟨rfl, by simp⟩) t3 2 (by omega) (by omega) xs hx hx0 (by omega) ⟨z3, by simp [n1], by simp [n2], by simp [n2]⟩) ?_
  rw [← e4]
  simp only [bldD, bldU, n1, n2, f12, Nat.add_zero, go_sem, Meths.get, meths, Nat.reduceSub, Nat.reduceAdd, Nat.reduceMul, Nat.reduceEqDiff, Nat.reduceLT, Nat.reduceLeDiff, Nat.reduceBEq, Nat.reduceBNe, reduceIte, reduceCtorEq, Int.reduceToNat, String.reduceEq]
  refine .now (PostN.val [835] (.inr rfl) (by simp) (p := True) (v0 := .tup [.int .i64 130, .int .i64 0]) ?_ trivial ?_ ?_ ⟨by omega, ?_, Nat.le_refl _, ?_, trivial⟩ ?_)
  · simp only [resVal, resVals, resVal1, one, Nat.add_zero, go_sem, Meths.get, meths, Nat.reduceSub, Nat.reduceAdd, Nat.reduceMul, Nat.reduceEqDiff, Nat.reduceLT, Nat.reduceLeDiff, Nat.reduceBEq, Nat.reduceBNe, reduceIte, reduceCtorEq, Int.reduceToNat, String.reduceEq]
  · simp [nmA, nmAL, Dn]
  · simp [Tx.rn, Tx.rnL]
  · rw [kp_out (hn.imp id fun h => .inl h.2)]
    exact .ren (by simp [Tx.look, n1]; rfl) (by simp [rowsNm, nmA, nmAL, Dn]; omega) (by simp [Tx.rn, Tx.rnL, sg_out (show n.l ≤ L by omega)]; simp [sg])
  · rw [kp_at0 (by simp)]
    exact .pure (by simp [Tx.look, n2])
  · simp [UpdAll, keys]
/-! chunk.put, of resets -/
theorem serB_nat {b x : Int} (h : serB b x = true) : x = (x.toNat : Int) ∧ x.toNat < 2 ^ b.toNat := by
  simp only [serB, Bool.and_eq_true, decide_eq_true_eq] at h
  have e : ((x.toNat : Nat) : Int) = x := by omega
  refine ⟨e.symm, ?_⟩
  have h2 := h.2
  rw [← e] at h2
  exact_mod_cast h2
theorem putBad_ok {F : SF} {L nx : Nat} (ty : TypeId) (v : PV) (fv : FuncId) (h1 : Meths.get meths ty "tannoy/chunk.valid" = some fv) (hv : ∀ (F : SF) (L nx : Nat), Con Try.prog fv [v] F L nx nx (.bool false) [] []) :
    Con Try.prog 84 [.ifc ty v] F L nx nx (.tup [.agg [.int .i64 0, .int .i64 0, .str []], .int .i64 320]) [] [] := by
  refine Con.body (cxOk (L + 1)) rfl rfl (fn := Try.f84) (c := Try.f84.body.getD .skip) (by kernel_rfl) (by rfl) (by kernel_rfl) rfl (by simp) ?_
  intro F3 hF1 hF2
  simp only [Try.f84, cx, h1, Nat.add_zero, go_sem, Nat.reduceSub, Nat.reduceAdd, Nat.reduceMul, Nat.reduceEqDiff, Nat.reduceLT, Nat.reduceLeDiff, Nat.reduceBEq, Nat.reduceBNe, reduceIte, reduceCtorEq, Int.reduceToNat, String.reduceEq]
  refine CallVC.same (hv _ _ _) ?_
  simp only [h1, Nat.add_zero, go_sem, Nat.reduceSub, Nat.reduceAdd, Nat.reduceMul, Nat.reduceEqDiff, Nat.reduceLT, Nat.reduceLeDiff, Nat.reduceBEq, Nat.reduceBNe, reduceIte, reduceCtorEq, Int.reduceToNat, String.reduceEq]
  exact PostF.same (p := True) (.inr rfl) (by simp only [resVal, resVals, resVal1, one, Nat.add_zero, go_sem, Meths.get, meths, Nat.reduceSub, Nat.reduceAdd, Nat.reduceMul, Nat.reduceEqDiff, Nat.reduceLT, Nat.reduceLeDiff, Nat.reduceBEq, Nat.reduceBNe, reduceIte, reduceCtorEq, Int.reduceToNat, String.reduceEq]) trivial (by simp [Tx.nf, nfl]) (by simp [UpdAll, keys])
theorem putGood_ok {F : SF} {L nx : Nat} (ty : TypeId) (v : PV) (fv fw : FuncId) (h1 : Meths.get meths ty "tannoy/chunk.valid" = some fv) (h2 : Meths.get meths ty "tannoy/chunk.write" = some fw) (hv : ∀ (F : SF) (L nx : Nat), Con Try.prog fv [v] F L nx nx (.bool true) [] [])
    (kind flags : Int) (t : List UInt8) (ht : t ≠ []) (htl : t.length ≤ 1000000) (hw : ∀ (F : SF) (L nx : Nat) (n : Nm), (n.l < L ∨ (n.l = L ∧ n.i < nx)) → bldF F n 181 none [] → Con Try.prog fw [v, .ptr n 0 0] F L nx (nx + 1) (.tup [.int .i64 kind, .int .i64 flags]) (bldU n 181 ⟨L, nx⟩ t) [n]) :
    Con Try.prog 84 [.ifc ty v] F L nx nx (.tup [.agg [.int .i64 kind, .int .i64 flags, .str t], .int .i64 0]) [] [] := by
  refine Con.body (cxOk (L + 1)) rfl rfl (fn := Try.f84) (c := Try.f84.body.getD .skip) (by kernel_rfl) (by rfl) (by kernel_rfl) rfl (by simp) ?_
  intro F3 hF1 hF2
  simp only [Try.f84, cx, h1, h2, Nat.add_zero, go_sem, Nat.reduceSub, Nat.reduceAdd, Nat.reduceMul, Nat.reduceEqDiff, Nat.reduceLT, Nat.reduceLeDiff, Nat.reduceBEq, Nat.reduceBNe, reduceIte, reduceCtorEq, Int.reduceToNat, String.reduceEq]
  refine CallVC.same (hv _ _ _) ?_
  simp only [h1, h2, Nat.add_zero, go_sem, Nat.reduceSub, Nat.reduceAdd, Nat.reduceMul, Nat.reduceEqDiff, Nat.reduceLT, Nat.reduceLeDiff, Nat.reduceBEq, Nat.reduceBNe, reduceIte, reduceCtorEq, Int.reduceToNat, String.reduceEq]
  refine CallVC.same (hw _ _ _ ⟨L + 1, 128⟩ (by simp) ⟨rfl, true, by simp⟩) ?_
  simp only [bldU, h1, h2, Nat.add_zero, go_sem, Nat.reduceSub, Nat.reduceAdd, Nat.reduceMul, Nat.reduceEqDiff, Nat.reduceLT, Nat.reduceLeDiff, Nat.reduceBEq, Nat.reduceBNe, reduceIte, reduceCtorEq, Int.reduceToNat, String.reduceEq]
  refine CallVC.same (bString_ok ⟨L + 1, 128⟩ 181 (by simp) ⟨L + 1, 192⟩ (by simp) t htl ⟨ht, by simp, by simp, by simp⟩) ?_
  simp only [bldU, h1, h2, Nat.add_zero, go_sem, Nat.reduceSub, Nat.reduceAdd, Nat.reduceMul, Nat.reduceEqDiff, Nat.reduceLT, Nat.reduceLeDiff, Nat.reduceBEq, Nat.reduceBNe, reduceIte, reduceCtorEq, Int.reduceToNat, String.reduceEq]
  exact PostF.same (p := True) (.inr rfl) (by simp only [resVal, resVals, resVal1, one, Nat.add_zero, go_sem, Meths.get, meths, Nat.reduceSub, Nat.reduceAdd, Nat.reduceMul, Nat.reduceEqDiff, Nat.reduceLT, Nat.reduceLeDiff, Nat.reduceBEq, Nat.reduceBNe, reduceIte, reduceCtorEq, Int.reduceToNat, String.reduceEq]) trivial (by simp [Tx.nf, nfl]) (by simp [UpdAll, keys])
theorem meths160v : Meths.get meths 160 "tannoy/chunk.valid" = some 121 := by simp [Meths.get, meths]
theorem meths160w : Meths.get meths 160 "tannoy/chunk.write" = some 122 := by simp [Meths.get, meths]
theorem incB_all {xs : List Int} (h : incB xs = true) : ∀ x ∈ xs, serB 16 x = true := by
  intro x hx
  obtain ⟨i, hi, rfl⟩ := List.getElem_of_mem hx
  unfold incB at h
  rw [List.all_eq_true] at h
  have := h i (by simpa using hi)
  simp only [Bool.and_eq_true] at this
  simpa [List.getD_eq_getElem?_getD, hi] using this.1
/-- The octets of a reset. -/
def resetB (kind num last res : Int) (xs : List Int) : List UInt8 :=
  if kind = 2 then putB 1 2 ++ putB 4 num.toNat ++ putB 1 res.toNat else putB 1 1 ++ putB 4 num.toNat ++ (putB 4 last.toNat ++ (xs.map Int.toNat).flatMap (putB 2))
theorem putReset_ok {F : SF} {L nx : Nat} (kind num last res : Int) (xs : List Int) (hlen : xs.length ≤ 1000000) :
    Con Try.prog 47 [rstP kind num last res (.fs 1 (xs.map eI))] F L nx nx
      (if resetV kind num last res xs then .tup [.agg [.int .i64 130, .int .i64 0, .str (resetB kind num last res xs)], .int .i64 0] else .tup [.agg [.int .i64 0, .int .i64 0, .str []], .int .i64 320]) [] [] := by
  have hva : ∀ (F : SF) (L nx : Nat), Con Try.prog 121 [rstP kind num last res (.fs 1 (xs.map eI))] F L nx nx (.bool (resetV kind num last res xs)) [] [] := fun F L nx => resetValid_ok kind num last res xs hlen
  cases hV : resetV kind num last res xs with
  | false =>
    rw [hV] at hva
    simp only [if_false, Bool.false_eq_true]
    refine Con.body (cxOk (L + 1)) rfl rfl (fn := Try.f47) (c := Try.f47.body.getD .skip) (by kernel_rfl) (by rfl) (by kernel_rfl) rfl (by simp) ?_
    intro F3 hF1 hF2
    simp only [Try.f47, cx, rstP, Nat.add_zero, go_sem, Meths.get, meths, Nat.reduceSub, Nat.reduceAdd, Nat.reduceMul, Nat.reduceEqDiff, Nat.reduceLT, Nat.reduceLeDiff, Nat.reduceBEq, Nat.reduceBNe, reduceIte, reduceCtorEq, Int.reduceToNat, String.reduceEq]
    refine CallVC.same (putBad_ok 160 _ 121 meths160v hva) ?_
    simp only [Nat.add_zero, go_sem, Meths.get, meths, Nat.reduceSub, Nat.reduceAdd, Nat.reduceMul, Nat.reduceEqDiff, Nat.reduceLT, Nat.reduceLeDiff, Nat.reduceBEq, Nat.reduceBNe, reduceIte, reduceCtorEq, Int.reduceToNat, String.reduceEq]
    exact PostF.same (p := True) (.inr rfl) (by simp only [resVal, resVals, resVal1, one, Nat.add_zero, go_sem, Meths.get, meths, Nat.reduceSub, Nat.reduceAdd, Nat.reduceMul, Nat.reduceEqDiff, Nat.reduceLT, Nat.reduceLeDiff, Nat.reduceBEq, Nat.reduceBNe, reduceIte, reduceCtorEq, Int.reduceToNat, String.reduceEq]) trivial (by simp [Tx.nf, nfl]) (by simp [UpdAll, keys])
  | true =>
    rw [hV] at hva
    simp only [if_true]
    have hw : ∀ (F : SF) (L nx : Nat) (n : Nm), (n.l < L ∨ (n.l = L ∧ n.i < nx)) → bldF F n 181 none [] → Con Try.prog 122 [rstP kind num last res (.fs 1 (xs.map eI)), .ptr n 0 0] F L nx (nx + 1) (.tup [.int .i64 130, .int .i64 0]) (bldU n 181 ⟨L, nx⟩ (resetB kind num last res xs)) [n] := by
      intro F L nx n hn hb
      unfold resetV at hV
      simp only [Bool.and_eq_true] at hV
      obtain ⟨⟨⟨⟨hi, h1⟩, h2⟩, h3⟩, h4⟩ := hV
      obtain ⟨e1, b1⟩ := serB_nat h1
      obtain ⟨e2, b2⟩ := serB_nat h2
      obtain ⟨e3, b3⟩ := serB_nat h3
      unfold resetB
      by_cases hk : kind = 2
      · subst hk
        rw [if_pos rfl] at h4 ⊢
        have hx : xs = [] := by simp at h4; exact h4.2
        subst hx
        have := resetWrite2_ok (F := F) (L := L) (nx := nx) n hn num.toNat res.toNat last [] b1 (by simpa using b3) (by simp) hb
        rw [← e1, ← e3] at this
        exact this
      · rw [if_neg hk] at h4 ⊢
        simp only [Bool.and_eq_true, beq_iff_eq, decide_eq_true_eq] at h4
        obtain ⟨⟨⟨rfl, h5⟩, h6⟩, h7⟩ := h4
        have hall := incB_all hi
        have ex : xs.map eI = (xs.map Int.toNat).map eN := by
          rw [List.map_map]
          apply List.map_congr_left
          intro x hx
          have := (serB_nat (hall x hx)).1
          simp only [Function.comp, eN, eI]
          rw [← this]
        rw [ex]
        have := resetWrite1_ok (F := F) (L := L) (nx := nx) n hn num.toNat last.toNat res (xs.map Int.toNat) b1 b2 (by
          intro x hx
          obtain ⟨y, hy, rfl⟩ := List.mem_map.1 hx
          have := (serB_nat (hall y hy)).2
          simpa using this) (by intro h; simp at h; subst h; simp at h6) (by simp; omega) hb
        rw [← e1, ← e2] at this
        exact this
    refine Con.body (cxOk (L + 1)) rfl rfl (fn := Try.f47) (c := Try.f47.body.getD .skip) (by kernel_rfl) (by rfl) (by kernel_rfl) rfl (by simp) ?_
    intro F3 hF1 hF2
    simp only [Try.f47, cx, rstP, Nat.add_zero, go_sem, Meths.get, meths, Nat.reduceSub, Nat.reduceAdd, Nat.reduceMul, Nat.reduceEqDiff, Nat.reduceLT, Nat.reduceLeDiff, Nat.reduceBEq, Nat.reduceBNe, reduceIte, reduceCtorEq, Int.reduceToNat, String.reduceEq]
    refine CallVC.same (putGood_ok 160 _ 121 122 meths160v meths160w hva 130 0 (resetB kind num last res xs) ?_ ?_ hw) ?_
    · intro h
      have := congrArg List.length h
      unfold resetB at this
      split at this <;> simp [putB_len] at this
    · unfold resetB
      unfold resetV at hV
      simp only [Bool.and_eq_true] at hV
      have h30 : kind ≠ 2 → xs.length ≤ 30 := by
        intro hk
        have := hV.2
        rw [if_neg hk] at this
        simp at this; omega
      split
      · simp [putB_len]
      · rename_i hk
        have := h30 hk
        simp only [List.length_append, putB_len, flat_len, List.length_map]; omega
    simp only [Nat.add_zero, go_sem, Meths.get, meths, Nat.reduceSub, Nat.reduceAdd, Nat.reduceMul, Nat.reduceEqDiff, Nat.reduceLT, Nat.reduceLeDiff, Nat.reduceBEq, Nat.reduceBNe, reduceIte, reduceCtorEq, Int.reduceToNat, String.reduceEq]
    exact PostF.same (p := True) (.inr rfl) (by simp only [resVal, resVals, resVal1, one, Nat.add_zero, go_sem, Meths.get, meths, Nat.reduceSub, Nat.reduceAdd, Nat.reduceMul, Nat.reduceEqDiff, Nat.reduceLT, Nat.reduceLeDiff, Nat.reduceBEq, Nat.reduceBNe, reduceIte, reduceCtorEq, Int.reduceToNat, String.reduceEq]) trivial (by simp [Tx.nf, nfl]) (by simp [UpdAll, keys])
end Go.Proofs.Ytfhhbkehlfipgaa
end

section
set_option linter.unusedSimpArgs false
set_option linter.unusedVariables false
set_option linter.unnecessarySimpa false
set_option linter.unusedSectionVars false
namespace Go.Proofs.Ytfhhbkehlfipgaa
open Go.Tx
set_option maxRecDepth 100000
set_option maxHeartbeats 2000000
set_option linter.unusedSimpArgs false
set_option linter.unusedVariables false
/-! streams.Ask, where no piece waits -/
def strV0 (out inn : List Int) (num seen : Int) (asked : List Int) : PV := .agg [.fs 1 (out.map eI), .fs 1 (inn.map eI), .fs 8 [], .int .i64 num, .int .i64 seen, .fs 1 (asked.map eI)]
/-- Streams in which nothing waits, that are valid. -/
structure Str0 (out inn : List Int) (num seen : Int) (asked : List Int) : Prop where
  o1 : 1 ≤ out.length
  o2 : out.length ≤ 16
  o3 : out.all (serB 16) = true
  i1 : 1 ≤ inn.length
  i2 : inn.length ≤ 16
  i3 : inn.all (serB 16) = true
  n : [num].all (serB 32) = true
  s : seen = -1 ∨ [seen].all (serB 32) = true
  a : listedB asked out.length = true
  a2 : asked.length ≤ 1000000
theorem ask0_ok {F : SF} {L nx : Nat} (out inn : List Int) (num seen : Int) (hS : Str0 out inn num seen []) (last : Int) (l : List Int) (h1 : [last].all (serB 32) = true) (h2 : 1 ≤ l.length) (h3 : listedB l out.length = true) (h4 : l.length ≤ 1000) :
    Con Try.prog 15 [strV0 out inn num seen [], .int .i64 last, .fs 1 (l.map eI)] F L nx nx (.tup [strV0 out inn num seen l, rstP 1 num last 0 (.fs 1 (l.map eI)), .int .i64 0]) [] [] := by
  refine Con.body (cxOk (L + 1)) rfl rfl (fn := Try.f15) (c := Try.f15.body.getD .skip) (by kernel_rfl) (by rfl) (by kernel_rfl) rfl (by simp) ?_
  intro F3 hF1 hF2
  have f0 : ((0 : Int) != 0) = false := rfl
  have f1 : decide ((l.length : Int) < 1) = false := dF (by omega)
  have f2 : decide ((0 : Int) < ((0 : Nat) : Int)) = false := rfl
  simp only [Try.f15, cx, strV0, rstP, Nat.add_zero, go_sem, Meths.get, meths, Nat.reduceSub, Nat.reduceAdd, Nat.reduceMul, Nat.reduceEqDiff, Nat.reduceLT, Nat.reduceLeDiff, Nat.reduceBEq, Nat.reduceBNe, reduceIte, reduceCtorEq, Int.reduceToNat, String.reduceEq]
  refine CallVC.same (begin0_ok out inn [] num seen hS.s hS.o1 hS.o2 hS.o3 hS.i1 hS.i2 hS.i3 hS.n hS.a hS.a2) ?_
  simp only [f0, Nat.add_zero, go_sem, Meths.get, meths, Nat.reduceSub, Nat.reduceAdd, Nat.reduceMul, Nat.reduceEqDiff, Nat.reduceLT, Nat.reduceLeDiff, Nat.reduceBEq, Nat.reduceBNe, reduceIte, reduceCtorEq, Int.reduceToNat, String.reduceEq]
  refine CallVC.pure (args2 := [_, .fs 1 ([last].map eI)]) ⟨rfl, by simp [Wk, eI], trivial⟩ (serial_ok 32 [last] (by omega) (by omega) (by simp)) rfl ?_
  simp only [h1, f1, List.length_map, Nat.add_zero, go_sem, Meths.get, meths, Nat.reduceSub, Nat.reduceAdd, Nat.reduceMul, Nat.reduceEqDiff, Nat.reduceLT, Nat.reduceLeDiff, Nat.reduceBEq, Nat.reduceBNe, reduceIte, reduceCtorEq, Int.reduceToNat, String.reduceEq]
  refine CallVC.same (listed_ok l out.length (by omega)) ?_
  simp only [h3, f0, f2, List.length_map, List.map_nil, Nat.add_zero, go_sem, Meths.get, meths, Nat.reduceSub, Nat.reduceAdd, Nat.reduceMul, Nat.reduceEqDiff, Nat.reduceLT, Nat.reduceLeDiff, Nat.reduceBEq, Nat.reduceBNe, reduceIte, reduceCtorEq, Int.reduceToNat, String.reduceEq]
  refine CallVC.same (cloneI_ok l (by omega)) ?_
  simp only [f0, Nat.add_zero, go_sem, Meths.get, meths, Nat.reduceSub, Nat.reduceAdd, Nat.reduceMul, Nat.reduceEqDiff, Nat.reduceLT, Nat.reduceLeDiff, Nat.reduceBEq, Nat.reduceBNe, reduceIte, reduceCtorEq, Int.reduceToNat, String.reduceEq]
  refine ⟨by kernel_rfl, CallVC.same (cloneI_ok l (by omega)) ?_⟩
  simp only [f0, Nat.add_zero, go_sem, Meths.get, meths, Nat.reduceSub, Nat.reduceAdd, Nat.reduceMul, Nat.reduceEqDiff, Nat.reduceLT, Nat.reduceLeDiff, Nat.reduceBEq, Nat.reduceBNe, reduceIte, reduceCtorEq, Int.reduceToNat, String.reduceEq]
  refine ⟨okDyn_num (fun x => x.i) (by kernel_rfl), ?_⟩
  exact PostF.of (p := True) (v0 := .tup [.agg [.sl ⟨L + 1, 161⟩ 0 out.length, .sl ⟨L + 1, 162⟩ 0 inn.length, .sl ⟨L + 1, 163⟩ 0 0, .int .i64 num, .int .i64 seen, .sl ⟨L + 1, 1157⟩ 0 l.length], .agg [.int .i64 1, .int .i64 num, .int .i64 last, .int .i64 0, .sl ⟨L + 1, 1542⟩ 0 l.length], .int .i64 0]) (.inr rfl) (by simp only [resVal, resVals, resVal1, one, Nat.add_zero, go_sem, Meths.get, meths, Nat.reduceSub, Nat.reduceAdd, Nat.reduceMul, Nat.reduceEqDiff, Nat.reduceLT, Nat.reduceLeDiff, Nat.reduceBEq, Nat.reduceBNe, reduceIte, reduceCtorEq, Int.reduceToNat, String.reduceEq]) trivial (by simp [Wk, WkL, Tx.look, List.take_of_length_le, nB, nB']) (by simp [wkN, wkNL]) (by simp [Tx.nf, nfl]) trivial (by simp [UpdAll, keys])
theorem askNone_ok {F : SF} {L nx : Nat} (out inn : List Int) (num seen : Int) (hS : Str0 out inn num seen []) (last : Int) (h1 : [last].all (serB 32) = true) (lv : PV) (hl : lv = .nilS ∨ lv = .fs 1 []) :
    Con Try.prog 15 [strV0 out inn num seen [], .int .i64 last, .fs 1 []] F L nx nx (.tup [.agg [.nilS, .nilS, .nilS, .int .i64 0, .int .i64 0, .nilS], .agg [.int .i64 0, .int .i64 0, .int .i64 0, .int .i64 0, .nilS], .int .i64 2]) [] [] := by
  refine Con.body (cxOk (L + 1)) rfl rfl (fn := Try.f15) (c := Try.f15.body.getD .skip) (by kernel_rfl) (by rfl) (by kernel_rfl) rfl (by simp) ?_
  intro F3 hF1 hF2
  have f0 : ((0 : Int) != 0) = false := rfl
  have f1 : decide (((0 : Nat) : Int) < 1) = true := rfl
  simp only [Try.f15, cx, strV0, rstP, Nat.add_zero, go_sem, Meths.get, meths, Nat.reduceSub, Nat.reduceAdd, Nat.reduceMul, Nat.reduceEqDiff, Nat.reduceLT, Nat.reduceLeDiff, Nat.reduceBEq, Nat.reduceBNe, reduceIte, reduceCtorEq, Int.reduceToNat, String.reduceEq]
  refine CallVC.same (begin0_ok out inn [] num seen hS.s hS.o1 hS.o2 hS.o3 hS.i1 hS.i2 hS.i3 hS.n hS.a hS.a2) ?_
  simp only [f0, Nat.add_zero, go_sem, Meths.get, meths, Nat.reduceSub, Nat.reduceAdd, Nat.reduceMul, Nat.reduceEqDiff, Nat.reduceLT, Nat.reduceLeDiff, Nat.reduceBEq, Nat.reduceBNe, reduceIte, reduceCtorEq, Int.reduceToNat, String.reduceEq]
  refine CallVC.pure (args2 := [_, .fs 1 ([last].map eI)]) ⟨rfl, by simp [Wk, eI], trivial⟩ (serial_ok 32 [last] (by omega) (by omega) (by simp)) rfl ?_
  simp only [h1, f1, Nat.add_zero, go_sem, Meths.get, meths, Nat.reduceSub, Nat.reduceAdd, Nat.reduceMul, Nat.reduceEqDiff, Nat.reduceLT, Nat.reduceLeDiff, Nat.reduceBEq, Nat.reduceBNe, reduceIte, reduceCtorEq, Int.reduceToNat, String.reduceEq]
  exact PostF.of (p := True) (v0 := .tup [.agg [.nilS, .nilS, .nilS, .int .i64 0, .int .i64 0, .nilS], .agg [.int .i64 0, .int .i64 0, .int .i64 0, .int .i64 0, .nilS], .int .i64 2]) (.inr rfl) (by simp only [resVal, resVals, resVal1, one, Nat.add_zero, go_sem, Meths.get, meths, Nat.reduceSub, Nat.reduceAdd, Nat.reduceMul, Nat.reduceEqDiff, Nat.reduceLT, Nat.reduceLeDiff, Nat.reduceBEq, Nat.reduceBNe, reduceIte, reduceCtorEq, Int.reduceToNat, String.reduceEq]) trivial (by simp [Wk, WkL, Tx.look, List.take_of_length_le, nB, nB']) (by simp [wkN, wkNL]) (by simp [Tx.nf, nfl]) trivial (by simp [UpdAll, keys])
end Go.Proofs.Ytfhhbkehlfipgaa
end

section
set_option linter.unusedSimpArgs false
set_option linter.unusedVariables false
set_option linter.unnecessarySimpa false
set_option linter.unusedSectionVars false
namespace Go.Proofs.Ytfhhbkehlfipgaa
open Go.Tx
set_option maxRecDepth 100000
set_option maxHeartbeats 1000000
set_option linter.unusedSimpArgs false
set_option linter.unusedVariables false
/-! chunk.data.valid -/
theorem dataValid_ok {F : SF} {L nx : Nat} (d : Dat) : Con Try.prog 128 [.agg d.row] F L nx nx (.bool d.ok) [] [] := by
  refine Con.body (cxOk (L + 1)) rfl rfl (fn := Try.f128) (c := Try.f128.body.getD .skip) (by kernel_rfl) (by rfl) (by kernel_rfl) rfl (by simp) ?_
  intro F3 hF1 hF2
  obtain ⟨tsn, st, sq, pr, fi, la, lo, pl⟩ := d
  unfold Dat.ok
  simp only [Try.f128, cx, Dat.row, Nat.add_zero, go_sem, Meths.get, meths, Nat.reduceSub, Nat.reduceAdd, Nat.reduceMul, Nat.reduceEqDiff, Nat.reduceLT, Nat.reduceLeDiff, Nat.reduceBEq, Nat.reduceBNe, reduceIte, reduceCtorEq, Int.reduceToNat, String.reduceEq]
  refine CallVC.pure (args2 := [_, .fs 1 ([tsn, pr].map eI)]) ⟨rfl, by simp [Wk, eI], trivial⟩ (small_ok 32 [tsn, pr] (by omega) (by omega) (by simp)) rfl ?_
  cases h1 : (serB 32 tsn && serB 32 pr) with
  | false =>
    simp only [h1, Nat.add_zero, go_sem, Meths.get, meths, Nat.reduceSub, Nat.reduceAdd, Nat.reduceMul, Nat.reduceEqDiff, Nat.reduceLT, Nat.reduceLeDiff, Nat.reduceBEq, Nat.reduceBNe, reduceIte, reduceCtorEq, Int.reduceToNat, String.reduceEq]
    exact .bool (.inr rfl) rfl rfl (by simp [UpdAll, keys])
  | true =>
    simp only [h1, Nat.add_zero, go_sem, Meths.get, meths, Nat.reduceSub, Nat.reduceAdd, Nat.reduceMul, Nat.reduceEqDiff, Nat.reduceLT, Nat.reduceLeDiff, Nat.reduceBEq, Nat.reduceBNe, reduceIte, reduceCtorEq, Int.reduceToNat, String.reduceEq]
    refine CallVC.pure (args2 := [_, .fs 1 ([st, sq].map eI)]) ⟨rfl, by simp [Wk, eI, Tx.look], trivial⟩ (small_ok 16 [st, sq] (by omega) (by omega) (by simp)) rfl ?_
    cases h2 : (serB 16 st && serB 16 sq) with
    | false =>
      simp only [h2, Nat.add_zero, go_sem, Meths.get, meths, Nat.reduceSub, Nat.reduceAdd, Nat.reduceMul, Nat.reduceEqDiff, Nat.reduceLT, Nat.reduceLeDiff, Nat.reduceBEq, Nat.reduceBNe, reduceIte, reduceCtorEq, Int.reduceToNat, String.reduceEq]
      exact .bool (.inr rfl) rfl rfl (by simp [UpdAll, keys])
    | true =>
      cases h3 : decide (1 ≤ (pl.length : Int)) with
      | false =>
        simp only [h2, h3, Nat.add_zero, go_sem, Meths.get, meths, Nat.reduceSub, Nat.reduceAdd, Nat.reduceMul, Nat.reduceEqDiff, Nat.reduceLT, Nat.reduceLeDiff, Nat.reduceBEq, Nat.reduceBNe, reduceIte, reduceCtorEq, Int.reduceToNat, String.reduceEq]
        exact .bool (.inr rfl) rfl rfl (by simp [UpdAll, keys])
      | true =>
        cases h4 : decide ((pl.length : Int) ≤ 1100) with
        | false =>
          simp only [h2, h3, h4, Nat.add_zero, go_sem, Meths.get, meths, Nat.reduceSub, Nat.reduceAdd, Nat.reduceMul, Nat.reduceEqDiff, Nat.reduceLT, Nat.reduceLeDiff, Nat.reduceBEq, Nat.reduceBNe, reduceIte, reduceCtorEq, Int.reduceToNat, String.reduceEq]
          exact .bool (.inr rfl) rfl rfl (by simp [UpdAll, keys])
        | true =>
          cases lo with
          | false =>
            simp only [h2, h3, h4, Nat.add_zero, go_sem, Meths.get, meths, Nat.reduceSub, Nat.reduceAdd, Nat.reduceMul, Nat.reduceEqDiff, Nat.reduceLT, Nat.reduceLeDiff, Nat.reduceBEq, Nat.reduceBNe, reduceIte, reduceCtorEq, Int.reduceToNat, String.reduceEq]
            exact .bool (.inr rfl) rfl rfl (by simp [UpdAll, keys])
          | true =>
            simp only [h2, h3, h4, Nat.add_zero, go_sem, Meths.get, meths, Nat.reduceSub, Nat.reduceAdd, Nat.reduceMul, Nat.reduceEqDiff, Nat.reduceLT, Nat.reduceLeDiff, Nat.reduceBEq, Nat.reduceBNe, reduceIte, reduceCtorEq, Int.reduceToNat, String.reduceEq]
            exact .bool (.inr rfl) rfl (by simp) (by simp [UpdAll, keys])
/-! chunk.data.write -/
def flD (la fi lo : Bool) : Nat → Int
  | 0 => 0
  | 1 => if la then 1 else 0
  | 2 => (if la then 1 else 0) + (if fi then 2 else 0)
  | _ => (if la then 1 else 0) + (if fi then 2 else 0) + (if lo then 4 else 0)
theorem dataWrite_ok {F : SF} {L nx : Nat} (n : Nm) (hn : n.l < L ∨ (n.l = L ∧ n.i < nx)) (tsn st sq pr : Nat) (fi la lo : Bool) (pl : List UInt8) (h1 : tsn < 256 ^ 4) (h2 : st < 256 ^ 2) (h3 : sq < 256 ^ 2) (h4 : pr < 256 ^ 4) (hp : pl ≠ []) (hpl : pl.length ≤ 1100) (hb : bldF F n 181 none []) :
    Con Try.prog 129 [.agg (Dat.mk tsn st sq pr fi la lo pl).row, .ptr n 0 0] F L nx (nx + 1) (.tup [.int .i64 0, .int .i64 (flD la fi lo 3)]) (bldU n 181 ⟨L, nx⟩ (putB 4 tsn ++ (putB 2 st ++ putB 2 sq) ++ putB 4 pr ++ pl)) [n] := by
  refine Con.bodyN (cxOk (L + 1)) rfl rfl (fn := Try.f129) (c := Try.f129.body.getD .skip) (by kernel_rfl) (by rfl) (by kernel_rfl) rfl  (by simp; omega) ?_
  intro F3 hF1 hF2
  have hFb : bldF F3 n 181 none [] := ⟨rfl, hb.2.imp fun p h => (hF1 n (by simp)).trans h⟩
  have n1 : ∀ k, (n = (⟨L + 1, k⟩ : Nm)) = False := nm_out (by omega)
  have n2 : ∀ k, ((⟨L + 1, k⟩ : Nm) = n) = False := nm_out' (by omega)
  simp only [Try.f129, cx, Dat.row, n1, n2, Nat.add_zero, go_sem, Meths.get, meths, Nat.reduceSub, Nat.reduceAdd, Nat.reduceMul, Nat.reduceEqDiff, Nat.reduceLT, Nat.reduceLeDiff, Nat.reduceBEq, Nat.reduceBNe, reduceIte, reduceCtorEq, Int.reduceToNat, String.reduceEq]
  obtain ⟨t1, e1⟩ : ∃ t, t = putB 4 tsn := ⟨_, rfl⟩
  obtain ⟨t2, e2⟩ : ∃ t, t = t1 ++ (putB 2 st ++ putB 2 sq) := ⟨_, rfl⟩
  obtain ⟨t3, e3⟩ : ∃ t, t = t2 ++ putB 4 pr := ⟨_, rfl⟩
  have l1 : t1.length = 4 := by rw [e1, putB_len]
  have l2 : t2.length = 8 := by rw [e2, List.length_append, List.length_append, putB_len, putB_len, l1]
  have l3 : t3.length = 12 := by rw [e3, List.length_append, putB_len, l2]
  have z1 : t1 ≠ [] := by intro h; rw [h] at l1; simp at l1
  have z2 : t2 ≠ [] := by intro h; rw [h] at l2; simp at l2
  have z3 : t3 ≠ [] := by intro h; rw [h] at l3; simp at l3
  rw [← e1, ← e2, ← e3]
  refine bput_call n (.inl (show n.l < L + 1 by omega)) none trivial [] 4 4 rfl (by omega) (by omega) [tsn] (by simpa using h1) (by simp) (by simp) ⟨L + 1, 224⟩ 1 rfl (by simp [eN]) (by intro h; rw [n1] at h; exact h) (by simp) ⟨rfl, hFb.2.imp fun p h => by simp [h, n1]⟩ t1 (by simp [e1]) ?_
  simp only [bldD, bldU, n1, n2, Nat.add_zero, go_sem, Meths.get, meths, Nat.reduceSub, Nat.reduceAdd, Nat.reduceMul, Nat.reduceEqDiff, Nat.reduceLT, Nat.reduceLeDiff, Nat.reduceBEq, Nat.reduceBNe, reduceIte, reduceCtorEq, Int.reduceToNat, String.reduceEq]
  refine bput_call n (.inl (show n.l < L + 1 by omega)) (some ⟨L + 1, 256⟩) (.inr ⟨rfl, by simp⟩) t1 2 2 rfl (by omega) (by omega) [st, sq] (by simp; exact ⟨h2, h3⟩) (by simp) (by simp; omega) ⟨L + 1, 481⟩ 2 rfl (by simp [eN, n2]) (by intro h; rw [n1] at h; exact h) (by simp) ⟨z1, by simp [n1], by simp [n2], by simp [n2]⟩ t2 (by simp [e2]) ?_
  simp only [bldD, bldU, n1, n2, Nat.add_zero, go_sem, Meths.get, meths, Nat.reduceSub, Nat.reduceAdd, Nat.reduceMul, Nat.reduceEqDiff, Nat.reduceLT, Nat.reduceLeDiff, Nat.reduceBEq, Nat.reduceBNe, reduceIte, reduceCtorEq, Int.reduceToNat, String.reduceEq]
  refine bput_call n (.inl (show n.l < L + 1 by omega)) (some ⟨L + 1, 513⟩) (.inr ⟨rfl, by simp⟩) t2 4 4 rfl (by omega) (by omega) [pr] (by simpa using h4) (by simp) (by simp; omega) ⟨L + 1, 642⟩ 1 rfl (by simp [eN, n2]) (by intro h; rw [n1] at h; exact h) (by simp) ⟨z2, by simp [n1], by simp [n2], by simp [n2]⟩ t3 (by simp [e3]) ?_
  simp only [bldD, bldU, n1, n2, Nat.add_zero, go_sem, Meths.get, meths, Nat.reduceSub, Nat.reduceAdd, Nat.reduceMul, Nat.reduceEqDiff, Nat.reduceLT, Nat.reduceLeDiff, Nat.reduceBEq, Nat.reduceBNe, reduceIte, reduceCtorEq, Int.reduceToNat, String.reduceEq]
  refine ⟨by kernel_rfl, CallVC.same (writeString_ok n 181 (.inl rfl) (.inl (show n.l < L + 1 by omega)) (some ⟨L + 1, 674⟩) (.inr ⟨rfl, by simp⟩) t3 pl hp (by omega) ⟨z3, by simp [n1], by simp [n2], by simp [n2]⟩) ?_⟩
  simp only [bldD, bldU, n1, n2, Nat.add_zero, go_sem, Meths.get, meths, Nat.reduceSub, Nat.reduceAdd, Nat.reduceMul, Nat.reduceEqDiff, Nat.reduceLT, Nat.reduceLeDiff, Nat.reduceBEq, Nat.reduceBNe, reduceIte, reduceCtorEq, Int.reduceToNat, String.reduceEq]
  refine ⟨okDyn_num (fun x => if x = n then 1 else x.i) (by simp only [numF, List.map, bldR, n1, n2, if_true, if_false]; kernel_rfl), ?_⟩
  refine loopK.intro _ _ (I := fun i : Nat => ⟨[none, none, some (.ptr ⟨L + 1, 0⟩ 0 0), none, some (.int .i64 0), some (.int .i64 0), some (.int .i64 (flD la fi lo i)), none, none, none, none, none, none, none, none, none, none, none, none, none, none, none, none, none, none, none, none, none, none, none, none, none, none, none, none, none, none, none, none, none, none, none, none, none, none, none, some (.agg [.bool la, .bool fi, .bool lo]), some (.int .i64 i), none, none, none, none, none, none, none, none, none, none],
    [(n, .rows 181 2 true false [[.ptr n 0 0, .sl ⟨L + 1, 867⟩ 0 (t3 ++ pl).length]]), (⟨L + 1, 867⟩, .rows 5 1 true true (List.map rowB (t3 ++ pl)))], 10000 * (i + 1)⟩) (pre := fun i => i ≤ 3) (μ := fun i => 3 - i) 0 (by omega) ?_ ?_
  · refine Sub.of (fun n hn => hF2 n (by have : n.l = L + 1 := hn; omega)) (by simp only [flD, go_sem, resVal, resVals, resVal1, one, Wk, WkL, WkLL, wkN, wkNL, wkNLL, UpdIn, UpdAll, BW, plainP, plainPL, subT, subH, subK, and_self, true_or, or_true, List.not_mem_nil, List.mem_cons, forall_eq, imp_self, implies_true, Nat.reduceSub, Nat.reduceAdd, Nat.reduceMul, Nat.reduceEqDiff, Nat.reduceLT, Nat.reduceLeDiff, Nat.reduceBEq, Nat.reduceBNe, reduceIte, reduceCtorEq, Int.reduceToNat, String.reduceEq, Int.natCast_zero]) ?_ (by simp [subK, keys]) (by simp)
    simp [subH, Tx.look, n1, n2]
  · intro i hi
    have hc : i = 0 ∨ i = 1 ∨ i = 2 ∨ i = 3 := by omega
    rcases hc with rfl | rfl | rfl | rfl
    · have f1 : decide (((0 : Nat) : Int) < 3) = true := rfl
      cases la
      all_goals
        simp only [f1, flD, n1, n2, Nat.add_zero, go_sem, Meths.get, meths, Nat.reduceSub, Nat.reduceAdd, Nat.reduceMul, Nat.reduceEqDiff, Nat.reduceLT, Nat.reduceLeDiff, Nat.reduceBEq, Nat.reduceBNe, reduceIte, reduceCtorEq, Int.reduceToNat, String.reduceEq]
        repeat refine And.intro (by first | omega | exact ⟨by omega, by omega⟩ | exact ⟨by omega, by omega, by omega⟩ | exact ⟨⟨by omega, by omega⟩, by omega, by omega⟩ | exact okDyn_num (fun x => x.i) (by kernel_rfl) | kernel_rfl | exact okDyn_num (fun _ => 0) (by kernel_rfl)) ?_
        refine ⟨1, by omega, by omega, ?_⟩
        refine Sub.of (fun n hn => hF2 n (by have : n.l = L + 1 := hn; omega)) (by simp only [go_sem, resVal, resVals, resVal1, one, Wk, WkL, WkLL, wkN, wkNL, wkNLL, UpdIn, UpdAll, BW, plainP, plainPL, subT, subH, subK, and_self, true_or, or_true, List.not_mem_nil, List.mem_cons, forall_eq, imp_self, implies_true, Nat.reduceSub, Nat.reduceAdd, Nat.reduceMul, Nat.reduceEqDiff, Nat.reduceLT, Nat.reduceLeDiff, Nat.reduceBEq, Nat.reduceBNe, reduceIte, reduceCtorEq, Int.reduceToNat, String.reduceEq]; first | trivial | decide | (refine ⟨?_, ?_⟩ <;> first | trivial | decide)) ?_ (by simp [subK, keys]) (by simp)
        simp [subH, Tx.look, n1, n2]
    · have f1 : decide (((1 : Nat) : Int) < 3) = true := rfl
      cases la <;> cases fi
      all_goals
        simp only [f1, flD, n1, n2, Nat.add_zero, go_sem, Meths.get, meths, Nat.reduceSub, Nat.reduceAdd, Nat.reduceMul, Nat.reduceEqDiff, Nat.reduceLT, Nat.reduceLeDiff, Nat.reduceBEq, Nat.reduceBNe, reduceIte, reduceCtorEq, Int.reduceToNat, String.reduceEq]
        repeat refine And.intro (by first | omega | exact ⟨by omega, by omega⟩ | exact ⟨by omega, by omega, by omega⟩ | exact ⟨⟨by omega, by omega⟩, by omega, by omega⟩ | exact okDyn_num (fun x => x.i) (by kernel_rfl) | kernel_rfl | exact okDyn_num (fun _ => 0) (by kernel_rfl)) ?_
        refine ⟨2, by omega, by omega, ?_⟩
        refine Sub.of (fun n hn => hF2 n (by have : n.l = L + 1 := hn; omega)) (by simp only [go_sem, resVal, resVals, resVal1, one, Wk, WkL, WkLL, wkN, wkNL, wkNLL, UpdIn, UpdAll, BW, plainP, plainPL, subT, subH, subK, and_self, true_or, or_true, List.not_mem_nil, List.mem_cons, forall_eq, imp_self, implies_true, Nat.reduceSub, Nat.reduceAdd, Nat.reduceMul, Nat.reduceEqDiff, Nat.reduceLT, Nat.reduceLeDiff, Nat.reduceBEq, Nat.reduceBNe, reduceIte, reduceCtorEq, Int.reduceToNat, String.reduceEq]; first | trivial | decide | (refine ⟨?_, ?_⟩ <;> first | trivial | decide)) ?_ (by simp [subK, keys]) (by simp)
        simp [subH, Tx.look, n1, n2]
    · have f1 : decide (((2 : Nat) : Int) < 3) = true := rfl
      cases la <;> cases fi <;> cases lo
      all_goals
        simp only [f1, flD, n1, n2, Nat.add_zero, go_sem, Meths.get, meths, Nat.reduceSub, Nat.reduceAdd, Nat.reduceMul, Nat.reduceEqDiff, Nat.reduceLT, Nat.reduceLeDiff, Nat.reduceBEq, Nat.reduceBNe, reduceIte, reduceCtorEq, Int.reduceToNat, String.reduceEq]
        repeat refine And.intro (by first | omega | exact ⟨by omega, by omega⟩ | exact ⟨by omega, by omega, by omega⟩ | exact ⟨⟨by omega, by omega⟩, by omega, by omega⟩ | exact okDyn_num (fun x => x.i) (by kernel_rfl) | kernel_rfl | exact okDyn_num (fun _ => 0) (by kernel_rfl)) ?_
        refine ⟨3, by omega, by omega, ?_⟩
        refine Sub.of (fun n hn => hF2 n (by have : n.l = L + 1 := hn; omega)) (by simp only [go_sem, resVal, resVals, resVal1, one, Wk, WkL, WkLL, wkN, wkNL, wkNLL, UpdIn, UpdAll, BW, plainP, plainPL, subT, subH, subK, and_self, true_or, or_true, List.not_mem_nil, List.mem_cons, forall_eq, imp_self, implies_true, Nat.reduceSub, Nat.reduceAdd, Nat.reduceMul, Nat.reduceEqDiff, Nat.reduceLT, Nat.reduceLeDiff, Nat.reduceBEq, Nat.reduceBNe, reduceIte, reduceCtorEq, Int.reduceToNat, String.reduceEq]; first | trivial | decide | (refine ⟨?_, ?_⟩ <;> first | trivial | decide)) ?_ (by simp [subK, keys]) (by simp)
        simp [subH, Tx.look, n1, n2]
    · have f1 : decide (((3 : Nat) : Int) < 3) = false := rfl
      simp only [f1, n1, n2, Nat.add_zero, go_sem, Meths.get, meths, Nat.reduceSub, Nat.reduceAdd, Nat.reduceMul, Nat.reduceEqDiff, Nat.reduceLT, Nat.reduceLeDiff, Nat.reduceBEq, Nat.reduceBNe, reduceIte, reduceCtorEq, Int.reduceToNat, String.reduceEq]
      refine .now (PostN.val [867] (.inr rfl) (by simp) (p := True) (v0 := .tup [.int .i64 0, .int .i64 (flD la fi lo 3)]) ?_ trivial ?_ ?_ ⟨by omega, ?_, Nat.le_refl _, ?_, trivial⟩ ?_)
      · simp only [resVal, resVals, resVal1, one, Nat.add_zero, go_sem, Meths.get, meths, Nat.reduceSub, Nat.reduceAdd, Nat.reduceMul, Nat.reduceEqDiff, Nat.reduceLT, Nat.reduceLeDiff, Nat.reduceBEq, Nat.reduceBNe, reduceIte, reduceCtorEq, Int.reduceToNat, String.reduceEq]
      · simp [nmA, nmAL, Dn]
      · simp [Tx.rn, Tx.rnL]
      · rw [kp_out (hn.imp id fun h => .inl h.2)]
        exact .ren (by simp [Tx.look, n1]; rfl) (by simp [rowsNm, nmA, nmAL, Dn]; omega) (by simp [Tx.rn, Tx.rnL, sg_out (show n.l ≤ L by omega)]; simp [sg])
      · rw [kp_at0 (by simp)]
        exact .pure (by simp [Tx.look, n2])
      · simp [UpdAll, keys]
end Go.Proofs.Ytfhhbkehlfipgaa
end
