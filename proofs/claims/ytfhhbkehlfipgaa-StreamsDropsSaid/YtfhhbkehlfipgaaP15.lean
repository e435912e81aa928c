/- Lemmas for the walk: C52. -/
import Derived.Test.YtfhhbkehlfipgaaP14
section
set_option linter.unusedSimpArgs false
set_option linter.unusedVariables false
set_option linter.unnecessarySimpa false
set_option linter.unusedSectionVars false
namespace Go.Proofs.Ytfhhbkehlfipgaa
open Go.Tx
set_option maxRecDepth 100000
set_option maxHeartbeats 16000000
set_option linter.unusedSimpArgs false
set_option linter.unusedVariables false
def dropsR (fls : List Fl) (lims : List Int) : List Int × Int :=
  if decide (30 < fls.length) || decide (16 < lims.length) then ([], 3)
  else if lims.any badL || fls.any (badF lims.length) then ([], 2)
  else (dropsL fls lims, 0)
theorem dropsAll_ok {F : SF} {L nx : Nat} (fls : List Fl) (lims : List Int) (h1 : fls.length ≤ 1000) (h2 : lims.length ≤ 1000) :
    Con Try.prog 34 [.fs 14 (fls.map Fl.row), .fs 1 (lims.map eI)] F L nx nx (.tup [.fs 1 ((dropsR fls lims).1.map eI), .int .i64 (dropsR fls lims).2]) [] [] := by
  by_cases hl : 30 < fls.length
  · have e : dropsR fls lims = ([], 3) := by unfold dropsR; rw [if_pos (by simp [hl])]
    rw [e]
    have g1 : decide ((30 : Int) < (fls.length : Int)) = true := dT (by omega)
    refine Con.body (cxOk (L + 1)) rfl rfl (fn := Try.f34) (c := Try.f34.body.getD .skip) (by kernel_rfl) (by rfl) (by kernel_rfl) rfl (by simp) ?_
    intro F3 hF1 hF2
    simp only [Try.f34, cx, g1, List.length_map, Nat.reduceBEq, Nat.reduceAdd, go_sem, meths, Nat.reduceSub, Nat.reduceAdd, Nat.reduceLT, Nat.reduceBEq]
    exact PostF.of (p := True) (v0 := .tup [.nilS, .int .i64 3]) (.inr rfl) (by simp only [resVal, resVals, resVal1, one, go_sem]) trivial (by simp [Wk, WkL]) (by simp [wkN, wkNL]) (by simp [Tx.nf, nfl]) trivial (by simp [UpdAll, keys])
  · have g1 : decide ((30 : Int) < (fls.length : Int)) = false := dF (by omega)
    by_cases hm : 16 < lims.length
    · have e : dropsR fls lims = ([], 3) := by unfold dropsR; rw [if_pos (by simp [hm])]
      rw [e]
      have g2 : decide ((16 : Int) < (lims.length : Int)) = true := dT (by omega)
      refine Con.body (cxOk (L + 1)) rfl rfl (fn := Try.f34) (c := Try.f34.body.getD .skip) (by kernel_rfl) (by rfl) (by kernel_rfl) rfl (by simp) ?_
      intro F3 hF1 hF2
      simp only [Try.f34, cx, g1, g2, List.length_map, Nat.reduceBEq, Nat.reduceAdd, go_sem, meths, Nat.reduceSub, Nat.reduceAdd, Nat.reduceLT, Nat.reduceLeDiff, Nat.reduceBEq]
      exact PostF.of (p := True) (v0 := .tup [.nilS, .int .i64 3]) (.inr rfl) (by simp only [resVal, resVals, resVal1, one, go_sem]) trivial (by simp [Wk, WkL]) (by simp [wkN, wkNL]) (by simp [Tx.nf, nfl]) trivial (by simp [UpdAll, keys])
    · have g2 : decide ((16 : Int) < (lims.length : Int)) = false := dF (by omega)
      have e0 : dropsR fls lims = if lims.any badL || fls.any (badF lims.length) then ([], 2) else (dropsL fls lims, 0) := by
        unfold dropsR; rw [if_neg (by simp; omega)]
      cases h3 : lims.any badL with
      | true =>
        have e : dropsR fls lims = ([], 2) := by rw [e0, h3]; rfl
        rw [e]
        refine Con.body (cxOk (L + 1)) rfl rfl (fn := Try.f34) (c := Try.f34.body.getD .skip) (by kernel_rfl) (by rfl) (by kernel_rfl) rfl (by simp) ?_
        intro F3 hF1 hF2
        simp only [Try.f34, cx, g1, g2, List.length_map, Nat.reduceBEq, Nat.reduceAdd, go_sem, meths, Nat.reduceSub, Nat.reduceAdd, Nat.reduceLT, Nat.reduceLeDiff, Nat.reduceBEq]
        refine CallVC.same (containsFunc_ok lims 67 [] [] badL [] (by simp) (by omega) (fun x hx L' nx' hL => drops1_ok x)) ?_
        simp only [h3, Nat.reduceAdd, go_sem, Nat.reduceAdd, Nat.reduceLT]
        exact PostF.of (p := True) (v0 := .tup [.nilS, .int .i64 2]) (.inr rfl) (by simp only [resVal, resVals, resVal1, one, go_sem]) trivial (by simp [Wk, WkL]) (by simp [wkN, wkNL]) (by simp [Tx.nf, nfl]) trivial (by simp [UpdAll, keys])
      | false =>
        cases h4 : fls.any (badF lims.length) with
        | true =>
          have e : dropsR fls lims = ([], 2) := by rw [e0, h3, h4]; rfl
          rw [e]
          refine Con.body (cxOk (L + 1)) rfl rfl (fn := Try.f34) (c := Try.f34.body.getD .skip) (by kernel_rfl) (by rfl) (by kernel_rfl) rfl (by simp) ?_
          intro F3 hF1 hF2
          simp only [Try.f34, cx, g1, g2, List.length_map, Nat.reduceBEq, Nat.reduceAdd, go_sem, meths, Nat.reduceSub, Nat.reduceAdd, Nat.reduceLT, Nat.reduceLeDiff, Nat.reduceBEq]
          refine CallVC.same (containsFunc_ok lims 67 [] [] badL [] (by simp) (by omega) (fun x hx L' nx' hL => drops1_ok x)) ?_
          simp only [h3, Nat.reduceAdd, go_sem, Nat.reduceAdd, reduceCtorEq]
          refine CallVC.same (containsFuncF_ok fls 69 [] [.ptr ⟨L + 1, 0⟩ 0 0] (badF lims.length) [⟨L + 1, 0⟩] (by simp) (by omega) (fun x hx L' nx' hL => drops2_ok x ⟨L + 1, 0⟩ hL 31 true true lims (by simp))) ?_
          simp only [h4, Nat.reduceAdd, go_sem, Nat.reduceAdd, Nat.reduceLT]
          exact PostF.of (p := True) (v0 := .tup [.nilS, .int .i64 2]) (.inr rfl) (by simp only [resVal, resVals, resVal1, one, go_sem]) trivial (by simp [Wk, WkL]) (by simp [wkN, wkNL]) (by simp [Tx.nf, nfl]) trivial (by simp [UpdAll, keys])
        | false =>
          have e : dropsR fls lims = (dropsL fls lims, 0) := by rw [e0, h3, h4]; rfl
          rw [e]
          exact drops_ok fls lims (by omega) (by omega) h3 h4
def segF (fls : List Fl) (k j : Nat) : List Fl := (fls.drop k).take (j - k)
theorem segF_self (fls : List Fl) (k : Nat) : segF fls k k = [] := by simp [segF]
theorem segF_succ {fls : List Fl} {k j : Nat} (h : k ≤ j) (hj : j < fls.length) : segF fls k (j + 1) = segF fls k j ++ [fls.getD j flZ] := by
  unfold segF
  rw [show j + 1 - k = (j - k) + 1 by omega, List.take_add_one, List.getElem?_drop, show k + (j - k) = j by omega, List.getElem?_eq_getElem hj, getD_F hj]
  rfl
theorem segF_head {fls : List Fl} {k j : Nat} (h : k < j) (hk : k < fls.length) : (segF fls k j).getD 0 flZ = fls.getD k flZ := by
  rw [segF, List.drop_eq_getElem_cons hk, show j - k = (j - k - 1) + 1 by omega, List.take_succ_cons, getD_F hk]; rfl
theorem dropTo_seg {fls : List Fl} {k j : Nat} (h : k < j) (hk : k < fls.length) (lims out : List Int) :
    dropTo (segF fls k j) lims out = if decide (0 ≤ lims.getD (fls.getD k flZ).d.st.toNat 0) && (segF fls k j).any (givenB (lims.getD (fls.getD k flZ).d.st.toNat 0)) then out ++ ((segF fls k j).filter keepB).map (fun f => f.d.tsn) else out := by
  unfold dropTo
  rw [segF_head h hk]
theorem segF_any {fls : List Fl} {k j : Nat} (h : k ≤ j) (hj : j < fls.length) (p : Fl → Bool) : (segF fls k (j + 1)).any p = ((segF fls k j).any p || p (fls.getD j flZ)) := by
  rw [segF_succ h hj, List.any_append]; simp
def outS2 (out : List Int) (fls : List Fl) (k j : Nat) : List Int := out ++ ((segF fls k j).filter keepB).map (fun f => f.d.tsn)
theorem outS2_self (out : List Int) (fls : List Fl) (k : Nat) : outS2 out fls k k = out := by simp [outS2, segF_self]
theorem outS2_len (out : List Int) (fls : List Fl) (k j : Nat) : (outS2 out fls k j).length ≤ out.length + fls.length := by
  have h1 := List.length_filter_le keepB (segF fls k j)
  have h2 : (segF fls k j).length ≤ fls.length := by simp [segF]; omega
  simp only [outS2, List.length_append, List.length_map]
  omega
theorem outS2_succ (out : List Int) {fls : List Fl} {k j : Nat} (h : k ≤ j) (hj : j < fls.length) : outS2 out fls k (j + 1) = outS2 out fls k j ++ (if keepB (fls.getD j flZ) then [(fls.getD j flZ).d.tsn] else []) := by
  simp only [outS2]
  rw [segF_succ h hj, List.filter_append, List.map_append, List.append_assoc]
  congr 2
  cases hk : keepB (fls.getD j flZ) <;> simp only [List.filter, hk, List.map] <;> rfl
structure RdX where
  k : Nat
  i : Nat
  q : Nat
structure RdY where
  j : Nat
  i : Nat
  q : Nat
theorem refDrops_ok {F : SF} {L nx : Nat} (fls : List Fl) (lims : List Int) (h1 : fls.length ≤ 1000) (h2 : lims.length ≤ 1000) :
    Con Try.prog 35 [.fs 14 (fls.map Fl.row), .fs 1 (lims.map eI)] F L nx nx (.tup [.fs 1 ((dropsR fls lims).1.map eI), .int .i64 (dropsR fls lims).2]) [] [] := by
  by_cases hl : 30 < fls.length
  · have e : dropsR fls lims = ([], 3) := by unfold dropsR; rw [if_pos (by simp [hl])]
    rw [e]
    have g1 : decide ((30 : Int) < (fls.length : Int)) = true := dT (by omega)
    refine Con.body (cxOk (L + 1)) rfl rfl (fn := Try.f35) (c := Try.f35.body.getD .skip) (by kernel_rfl) (by rfl) (by kernel_rfl) rfl (by simp) ?_
    intro F3 hF1 hF2
    simp only [Try.f35, cx, g1, List.length_map, Nat.reduceAdd, go_sem, meths, Nat.reduceSub, Nat.reduceAdd, Nat.reduceLT]
    exact PostF.of (p := True) (v0 := .tup [.nilS, .int .i64 3]) (.inr rfl) (by simp only [resVal, resVals, resVal1, one, go_sem]) trivial (by simp [Wk, WkL]) (by simp [wkN, wkNL]) (by simp [Tx.nf, nfl]) trivial (by simp [UpdAll])
  have g1 : decide ((30 : Int) < (fls.length : Int)) = false := dF (by omega)
  by_cases hm : 16 < lims.length
  · have e : dropsR fls lims = ([], 3) := by unfold dropsR; rw [if_pos (by simp [hm])]
    rw [e]
    have g2 : decide ((16 : Int) < (lims.length : Int)) = true := dT (by omega)
    refine Con.body (cxOk (L + 1)) rfl rfl (fn := Try.f35) (c := Try.f35.body.getD .skip) (by kernel_rfl) (by rfl) (by kernel_rfl) rfl (by simp) ?_
    intro F3 hF1 hF2
    simp only [Try.f35, cx, g1, g2, List.length_map, Nat.reduceAdd, go_sem, meths, Nat.reduceSub, Nat.reduceAdd, Nat.reduceLT]
    exact PostF.of (p := True) (v0 := .tup [.nilS, .int .i64 3]) (.inr rfl) (by simp only [resVal, resVals, resVal1, one, go_sem]) trivial (by simp [Wk, WkL]) (by simp [wkN, wkNL]) (by simp [Tx.nf, nfl]) trivial (by simp [UpdAll])
  have g2 : decide ((16 : Int) < (lims.length : Int)) = false := dF (by omega)
  have e0 : dropsR fls lims = if lims.any badL || fls.any (badF lims.length) then ([], 2) else (dropsL fls lims, 0) := by
    unfold dropsR; rw [if_neg (by simp; omega)]
  refine Con.body (cxOk (L + 1)) rfl rfl (fn := Try.f35) (c := Try.f35.body.getD .skip) (by kernel_rfl) (by rfl) (by kernel_rfl) rfl (by simp) ?_
  intro F3 hF1 hF2
  simp only [Try.f35, cx, g1, g2, List.length_map, Nat.reduceAdd, go_sem, meths, Nat.reduceSub, Nat.reduceAdd, Nat.reduceLT]
  refine loopK.intro _ _ (I := fun i : Nat => ⟨[some (.fs 14 (fls.map Fl.row)), some (.fs 1 (lims.map eI)), none, none, none, none, some (.int .i64 i), none, none, none, none, none, none, none, none, none, none, none, none, none, none, none, none, none, none, none, none, none, none, none, none, none, none, none, none, none, none, none, none, none, none, none, none, none, none, none, none, none, none, none, none, none, none, none, none, none, none, none, none, none, none, none, none, none, none, none, none, none, none, none, none, none, none, none, none, none, none, none, none, none, none, none, none, none, none, none, none, none, none, none, none, none, none, none, none, none, none, none, none, none, none, none, none, none, none, none, none, none, none, none, none, none, none, none, none, none, none, none, none, none, none, none, none, none, none, none, none, none, none, none, none, none, none, none, none, none, none, none, none, none, none, none, none, none, none, none, none, none, none, none, none, none, none, none, none, none, none, none, none, none, none, none, none, none, none, none, none, none], [], if i = lims.length then 1000000 else 10000 * (i + 1)⟩) (pre := fun i => i ≤ lims.length ∧ ∀ (j : Nat) (hj : j < lims.length), j < i → badL lims[j] = false) (μ := fun i => lims.length - i) 0 ⟨by omega, by intro j _ h; omega⟩ ?_ ?_
  · exact Sub.of (fun n hn => hF2 n (by have : n.l = L + 1 := hn; omega)) (by simp only [go_sem, subT, and_self, Int.natCast_zero]) trivial trivial (by simp only []; split <;> omega)
  · rintro i ⟨hi, hp⟩
    by_cases hlt : i < lims.length
    · have f1 : decide ((i : Int) < (lims.length : Int)) = true := dT (by omega)
      have r0 : (lims.map eI).getD i [] = eI lims[i] := by simp [hlt, List.getD_eq_getElem?_getD]
      have hbe : badL lims[i] = (decide (lims[i] < -1) || decide (14 < lims[i])) := rfl
      have hne : ¬ i = lims.length := by omega
      cases b1 : decide (lims[i] < -1) with
      | true =>
        have e : dropsR fls lims = ([], 2) := by rw [e0, List.any_eq_true.mpr ⟨lims[i], List.getElem_mem hlt, by rw [hbe, b1]; rfl⟩]; rfl
        rw [e]
        simp only [f1, r0, eI, b1, hne, if_false, List.length_map, Nat.add_assoc, Nat.reduceAdd, go_sem, Nat.reduceAdd, Nat.reduceLT, Nat.reduceLeDiff]
        repeat refine And.intro (by first | omega | exact ⟨by omega, by omega⟩ | exact ⟨by omega, by omega, by omega⟩ | exact ⟨⟨by omega, by omega⟩, by omega, by omega⟩ | exact okS (by kernel_rfl)) ?_
        exact PostF.of (p := True) (v0 := .tup [.nilS, .int .i64 2]) (.inr rfl) (by simp only [resVal, resVals, resVal1, one, go_sem]) trivial (by simp [Wk, WkL]) (by simp [wkN, wkNL]) (by simp [Tx.nf, nfl]) trivial (by simp [UpdAll])
      | false =>
        cases b2 : decide (14 < lims[i]) with
        | true =>
          have e : dropsR fls lims = ([], 2) := by rw [e0, List.any_eq_true.mpr ⟨lims[i], List.getElem_mem hlt, by rw [hbe, b2, Bool.or_true]⟩]; rfl
          rw [e]
          simp only [f1, r0, eI, b1, b2, hne, if_false, List.length_map, Nat.add_assoc, Nat.reduceAdd, go_sem, Nat.reduceAdd, Nat.reduceLT, Nat.reduceLeDiff]
          repeat refine And.intro (by first | omega | exact ⟨by omega, by omega⟩ | exact ⟨by omega, by omega, by omega⟩ | exact ⟨⟨by omega, by omega⟩, by omega, by omega⟩ | exact okS (by kernel_rfl)) ?_
          exact PostF.of (p := True) (v0 := .tup [.nilS, .int .i64 2]) (.inr rfl) (by simp only [resVal, resVals, resVal1, one, go_sem]) trivial (by simp [Wk, WkL]) (by simp [wkN, wkNL]) (by simp [Tx.nf, nfl]) trivial (by simp [UpdAll])
        | false =>
          simp only [f1, r0, eI, b1, b2, hne, if_false, List.length_map, Nat.add_assoc, Nat.reduceAdd, go_sem, Nat.reduceAdd, Nat.reduceLT, Nat.reduceLeDiff]
          repeat refine And.intro (by first | omega | exact ⟨by omega, by omega⟩ | exact ⟨by omega, by omega, by omega⟩ | exact ⟨⟨by omega, by omega⟩, by omega, by omega⟩ | exact okS (by kernel_rfl)) ?_
          refine ⟨i + 1, ⟨by omega, fun j hj hji => ?_⟩, by omega, Sub.of (fun n hn => hF2 n (by have : n.l = L + 1 := hn; omega)) (by simp only [go_sem, subT, and_self, Int.natCast_succ]) trivial trivial (by simp only []; split <;> omega)⟩
          by_cases he : j = i
          · subst he; rw [hbe, b1, b2]; rfl
          · exact hp j hj (by omega)
    · have f1 : decide ((i : Int) < (lims.length : Int)) = false := dF (by omega)
      have ei : i = lims.length := by omega
      have h3 : lims.any badL = false := by
        rw [List.any_eq_false]
        intro x hx
        obtain ⟨j, hj, rfl⟩ := List.getElem_of_mem hx
        rw [hp j hj (by omega)]; simp
      have hlim : ∀ x ∈ lims, -1 ≤ x ∧ x ≤ 14 := by
        intro x hx
        rw [List.any_eq_false] at h3
        have := h3 x hx
        simp [badL] at this; omega
      rw [h3] at e0
      simp only [Bool.false_or] at e0
      have f2 : decide ((lims.length : Int) < (lims.length : Int)) = false := dF (by omega)
      simp only [f2, ei, if_true, List.length_map, Nat.reduceAdd, go_sem, Nat.reduceAdd, Nat.reduceLT]
      clear f1 f2 hlt hp hi ei i
      refine loopK.intro _ _ (I := fun i : Nat => ⟨[some (.fs 14 (fls.map Fl.row)), some (.fs 1 (lims.map eI)), none, none, none, none, none, some (.int .i64 i), none, none, none, none, none, none, none, none, none, none, none, none, none, none, none, none, none, none, none, none, none, none, none, none, none, none, none, none, none, none, none, none, none, none, none, none, none, none, none, none, none, none, none, none, none, none, none, none, none, none, none, none, none, none, none, none, none, none, none, none, none, none, none, none, none, none, none, none, none, none, none, none, none, none, none, none, none, none, none, none, none, none, none, none, none, none, none, none, none, none, none, none, none, none, none, none, none, none, none, none, none, none, none, none, none, none, none, none, none, none, none, none, none, none, none, none, none, none, none, none, none, none, none, none, none, none, none, none, none, none, none, none, none, none, none, none, none, none, none, none, none, none, none, none, none, none, none, none, none, none, none, none, none, none, none, none, none, none, none, none], [], if i = fls.length then 1000000 * 100 else 10000 * (i + 1) + 2000000⟩) (pre := fun i => i ≤ fls.length ∧ ∀ (j : Nat) (hj : j < fls.length), j < i → badF lims.length fls[j] = false) (μ := fun i => fls.length - i) 0 ⟨by omega, by intro j _ h; omega⟩ ?_ ?_
      · exact Sub.of (fun n hn => hF2 n (by have : n.l = L + 1 := hn; omega)) (by simp only [go_sem, subT, and_self, Int.natCast_zero]) trivial trivial (by simp only []; split <;> omega)
      · rintro i ⟨hi, hp⟩
        by_cases hlt : i < fls.length
        · have f1 : decide ((i : Int) < (fls.length : Int)) = true := dT (by omega)
          have r0 := rowF hlt
          have hbe : badF lims.length fls[i] = (decide (fls[i].d.st < 0) || decide ((lims.length : Int) ≤ fls[i].d.st)) := rfl
          have hne : ¬ i = fls.length := by omega
          cases b1 : decide (fls[i].d.st < 0) with
          | true =>
            have e : dropsR fls lims = ([], 2) := by rw [e0, List.any_eq_true.mpr ⟨fls[i], List.getElem_mem hlt, by rw [hbe, b1]; rfl⟩]; rfl
            rw [e]
            simp only [f1, r0, Fl.row, b1, hne, if_false, List.length_map, Nat.reduceBEq, Nat.add_assoc, Nat.reduceAdd, Nat.add_zero, go_sem, Nat.reduceAdd, Nat.reduceMul, Nat.reduceLT, Nat.reduceLeDiff, Nat.reduceBEq]
            repeat refine And.intro (by first | omega | exact ⟨by omega, by omega⟩ | exact ⟨by omega, by omega, by omega⟩ | exact ⟨⟨by omega, by omega⟩, by omega, by omega⟩ | exact okS (by kernel_rfl)) ?_
            exact PostF.of (p := True) (v0 := .tup [.nilS, .int .i64 2]) (.inr rfl) (by simp only [resVal, resVals, resVal1, one, go_sem]) trivial (by simp [Wk, WkL]) (by simp [wkN, wkNL]) (by simp [Tx.nf, nfl]) trivial (by simp [UpdAll])
          | false =>
            cases b2 : decide ((lims.length : Int) ≤ fls[i].d.st) with
            | true =>
              have e : dropsR fls lims = ([], 2) := by rw [e0, List.any_eq_true.mpr ⟨fls[i], List.getElem_mem hlt, by rw [hbe, b2, Bool.or_true]⟩]; rfl
              rw [e]
              simp only [f1, r0, Fl.row, b1, b2, hne, if_false, List.length_map, Nat.reduceBEq, Nat.add_assoc, Nat.reduceAdd, Nat.add_zero, go_sem, Nat.reduceAdd, Nat.reduceMul, Nat.reduceLT, Nat.reduceLeDiff, Nat.reduceBEq]
              repeat refine And.intro (by first | omega | exact ⟨by omega, by omega⟩ | exact ⟨by omega, by omega, by omega⟩ | exact ⟨⟨by omega, by omega⟩, by omega, by omega⟩ | exact okS (by kernel_rfl)) ?_
              exact PostF.of (p := True) (v0 := .tup [.nilS, .int .i64 2]) (.inr rfl) (by simp only [resVal, resVals, resVal1, one, go_sem]) trivial (by simp [Wk, WkL]) (by simp [wkN, wkNL]) (by simp [Tx.nf, nfl]) trivial (by simp [UpdAll])
            | false =>
              simp only [f1, r0, Fl.row, b1, b2, hne, if_false, List.length_map, Nat.reduceBEq, Nat.add_assoc, Nat.reduceAdd, Nat.add_zero, go_sem, Nat.reduceAdd, Nat.reduceMul, Nat.reduceLT, Nat.reduceLeDiff, Nat.reduceBEq]
              repeat refine And.intro (by first | omega | exact ⟨by omega, by omega⟩ | exact ⟨by omega, by omega, by omega⟩ | exact ⟨⟨by omega, by omega⟩, by omega, by omega⟩ | exact okS (by kernel_rfl)) ?_
              refine ⟨i + 1, ⟨by omega, fun j hj hji => ?_⟩, by omega, Sub.of (fun n hn => hF2 n (by have : n.l = L + 1 := hn; omega)) (by simp only [go_sem, subT, and_self, Int.natCast_succ]) trivial trivial (by simp only []; split <;> omega)⟩
              by_cases he : j = i
              · subst he; rw [hbe, b1, b2]; rfl
              · exact hp j hj (by omega)
        · have f1 : decide ((i : Int) < (fls.length : Int)) = false := dF (by omega)
          have ei : i = fls.length := by omega
          have h4 : fls.any (badF lims.length) = false := by
            rw [List.any_eq_false]
            intro x hx
            obtain ⟨j, hj, rfl⟩ := List.getElem_of_mem hx
            rw [hp j hj (by omega)]; simp
          have hst : ∀ f ∈ fls, 0 ≤ f.d.st ∧ f.d.st < lims.length := by
            intro f hf
            rw [List.any_eq_false] at h4
            have := h4 f hf
            simp [badF] at this; omega
          have e : dropsR fls lims = (dropsL fls lims, 0) := by rw [e0, h4]; rfl
          rw [e, drops_ref]
          have f2 : decide ((fls.length : Int) < (fls.length : Int)) = false := dF (by omega)
          simp only [f2, ei, if_true, List.length_map, Nat.reduceAdd, go_sem, Nat.reduceAdd, Nat.reduceMul, Nat.reduceLT]
          clear f1 f2 hlt hp hi ei i
          refine loopK.intro _ _ (I := fun z : RdX => ⟨[some (.fs 14 (fls.map Fl.row)), some (.fs 1 (lims.map eI)), none, none, none, none, none, none, some (.sl ⟨L + 1, z.q⟩ 0 (refL fls lims z.k).length), some (.int .i64 z.k), none, none, none, none, none, none, none, none, none, none, none, none, none, none, none, none, none, none, none, none, none, none, none, none, none, none, none, none, none, none, none, none, none, none, none, none, none, none, none, none, none, none, none, none, none, none, none, none, none, none, none, none, none, none, none, none, none, none, none, none, none, none, none, none, none, none, none, none, none, none, none, none, none, none, none, none, none, none, none, none, none, none, none, none, none, none, none, none, none, none, none, none, none, none, none, none, none, none, none, none, none, none, none, none, none, none, none, none, none, none, none, none, none, none, none, none, none, none, none, none, none, none, none, none, none, none, none, none, none, none, none, none, none, none, none, none, none, none, none, none, none, none, none, none, none, none, none, none, none, none, none, none, none, none, none, none, none, none], [(⟨L + 1, z.q⟩, .rows 3 1 true true ((refL fls lims z.k).map eI))], 10000 * (z.i + 1)⟩)
            (pre := fun z => z.k ≤ fls.length ∧ (refL fls lims z.k).length ≤ 31 * z.k ∧ 100 ≤ z.q ∧ z.q < 10000 * (z.i + 1)) (μ := fun z => fls.length - z.k) ⟨0, 20000, 100000192⟩ ⟨by simp, by simp [refL], by simp, by simp⟩ ?_ ?_
          · refine Sub.trans (Sub.nilName 8 3 (wd := 1) (by omega) rfl) ?_
            have e9 : refL fls lims 0 = [] := rfl
            refine Sub.of (fun n hn => hF2 n (by have : n.l = L + 1 := hn; omega)) (by simp only [e9, List.length_nil, go_sem, subT, and_self, Int.natCast_zero]) ?_ (by simp [subK, keys, updH, setH]) (by simp)
            simp [subH, Tx.look, updH, setH, e9]
          · rintro ⟨k, i, q⟩ ⟨c1, c2, c3, k1⟩
            simp only at c1 c2 c3 k1 ⊢
            have q_0 : (q = 0) = False := by apply eq_false; omega
            have n0_q : (0 = q) = False := by apply eq_false; omega
            have q_n1 : ∀ kk, (10000 * (i + 1) + kk = q) = False := fun kk => by apply eq_false; omega
            have q_n2 : ∀ kk, (q = 10000 * (i + 1) + kk) = False := fun kk => by apply eq_false; omega
            have q_n3 : (10000 * (i + 1) = q) = False := by apply eq_false; omega
            have q_n4 : (q = 10000 * (i + 1)) = False := by apply eq_false; omega
            have q_n5 : ∀ kk, ((⟨L + 1, q⟩ : Nm) == ⟨L + 1, 10000 * (i + 1) + kk⟩) = false := fun kk => by simp; omega
            by_cases hlt : k < fls.length
            · have d1 : decide ((k : Int) < (fls.length : Int)) = true := dT (by omega)
              have r0 := rowF hlt
              rw [getD_F hlt] at r0
              obtain ⟨f, hf⟩ : ∃ f, f = fls.getD k flZ := ⟨_, rfl⟩
              have hfm := hst f (by rw [hf, ← getD_F hlt]; exact List.getElem_mem hlt)
              rw [← hf] at r0
              have rl := getD_eI lims (i := f.d.st.toNat) (by omega)
              obtain ⟨lim, hlm⟩ : ∃ x, x = lims.getD f.d.st.toNat 0 := ⟨_, rfl⟩
              rw [← hlm] at rl
              have hlb : -1 ≤ lim ∧ lim ≤ 14 := hlim lim (by rw [hlm, List.getD_eq_getElem?_getD, List.getElem?_eq_getElem (by omega)]; simp)
              have hds := fun j (hj : k < j) => dropTo_seg (j := j) hj hlt lims (refL fls lims k)
              simp only [← hf, ← hlm] at hds
              simp only [d1, List.length_map, Nat.add_assoc, Nat.reduceAdd, go_sem, Nat.reduceAdd, Nat.reduceLT]
              repeat refine And.intro (by first | omega | exact ⟨by omega, by omega⟩ | exact ⟨by omega, by omega, by omega⟩ | exact ⟨⟨by omega, by omega⟩, by omega, by omega⟩ | exact okS (by kernel_rfl)) ?_
              refine CallVC.same (refEnds_ok fls k hlt (by omega)) ?_
              obtain ⟨out, ho⟩ : ∃ x, x = refL fls lims k := ⟨_, rfl⟩
              rcases endsI_cases fls k with ⟨t, hE, het⟩ | hno
              · have htk : k ≤ t ∧ t < fls.length := ⟨hE.1, hE.2.1⟩
                have hsu : refL fls lims (k + 1) = dropTo (segF fls k (t + 1)) lims (refL fls lims k) := by rw [refL_succ, refStep_yes hE]; rfl
                rw [hds (t + 1) (by omega)] at hsu
                rw [← ho] at c2 hsu
                have d2 : decide ((t : Int) < 0) = false := dF (by omega)
                cases hl0 : decide (lim < 0) with
                | true =>
                  have : decide (0 ≤ lim) = false := by simp at hl0; exact dF (by omega)
                  rw [this] at hsu
                  simp only [Bool.false_and, if_false, Bool.false_eq_true] at hsu
                  simp only [het, d2, hl0, r0, Fl.row, rl, eI, List.length_map, ← ho, Nat.reduceBEq, Nat.add_assoc, Nat.reduceAdd, Nat.add_zero, go_sem, Nat.reduceAdd, Nat.reduceEqDiff, Nat.reduceLT, Nat.reduceLeDiff, Nat.reduceBEq]
                  repeat refine And.intro (by first | omega | exact ⟨by omega, by omega⟩ | exact ⟨by omega, by omega, by omega⟩ | exact ⟨⟨by omega, by omega⟩, by omega, by omega⟩ | exact okS (by kernel_rfl)) ?_
                  refine ⟨okDyn_num (fun _ => 0) (by simp only [numF, List.map]; kernel_rfl), ⟨by omega, by omega⟩, ⟨k + 1, i + 1, q⟩, ⟨by simp only []; omega, by simp only []; rw [hsu]; omega, c3, by simp only []; omega⟩, by simp only []; omega, ?_⟩
                  refine Sub.of (fun n hn => hF2 n (by have : n.l = L + 1 := hn; omega)) (by simp only [hsu, go_sem, subT, and_self, Int.natCast_succ]) ?_ (by simp [subK, keys]) (by simp only []; omega)
                  simp [subH, Tx.look, hsu]
                | false =>
                  have : decide (0 ≤ lim) = true := by simp at hl0; exact dT (by omega)
                  rw [this] at hsu
                  simp only [Bool.true_and] at hsu
                  simp only [het, d2, hl0, r0, Fl.row, rl, eI, List.length_map, ← ho, Nat.reduceBEq, Nat.add_assoc, Nat.reduceAdd, Nat.add_zero, go_sem, Nat.reduceAdd, Nat.reduceLT, Nat.reduceLeDiff, Nat.reduceBEq]
                  repeat refine And.intro (by first | omega | exact ⟨by omega, by omega⟩ | exact ⟨by omega, by omega, by omega⟩ | exact ⟨⟨by omega, by omega⟩, by omega, by omega⟩ | exact okS (by kernel_rfl)) ?_
                  refine ⟨okDyn_num (fun _ => 0) (by simp only [numF, List.map]; kernel_rfl), ?_⟩
                  refine loopK.intro _ _ (I := fun j : Nat => ⟨[some (.fs 14 (fls.map Fl.row)), some (.fs 1 (lims.map eI)), none, none, none, none, none, none, some (.sl ⟨L + 1, q⟩ 0 out.length), some (.int .i64 k), some (.int .i64 t), some (.int .i64 lim), some (.bool ((segF fls k j).any (givenB lim))), some (.int .i64 j), none, none, none, none, none, none, none, none, none, none, none, none, none, none, none, none, none, none, none, none, none, none, none, none, none, none, none, none, none, none, none, none, none, none, none, none, none, none, none, none, none, none, none, none, none, none, none, none, none, none, none, none, none, none, none, none, none, none, none, none, none, none, none, none, none, none, none, none, none, none, none, none, none, none, none, none, none, none, none, none, none, none, none, none, none, none, none, none, none, none, none, none, none, none, none, none, none, none, none, none, none, none, none, none, none, none, none, none, none, none, none, none, none, none, none, none, none, none, none, none, none, none, none, none, none, none, none, none, none, none, none, none, none, none, none, none, none, none, none, none, none, none, none, none, none, none, none, none, none, none, none, none, none, none], [(⟨L + 1, q⟩, .rows 3 1 true true (out.map eI))], 10000 * (i + j + 2)⟩)
                    (pre := fun j => k ≤ j ∧ j ≤ t + 1) (μ := fun j => t + 1 - j) k ⟨by omega, by omega⟩ ?_ ?_
                  · refine Sub.of (fun n hn => hF2 n (by have : n.l = L + 1 := hn; omega)) (by simp only [segF_self, List.any_nil, go_sem, subT, and_self]) ?_ (by simp [subK, keys]) (by simp only []; omega)
                    simp [subH, Tx.look]
                  · rintro j ⟨a1, a2⟩
                    obtain ⟨i0, hi0⟩ : ∃ x, x = i + j + 1 := ⟨_, rfl⟩
                    rw [show i + j + 2 = i0 + 1 by omega]
                    have hk0 : q < 10000 * (i0 + 1) := by omega
                    clear q_n1 q_n2 q_n3 q_n4 q_n5 q_0 n0_q
                    obtain ⟨i1, hi1⟩ : ∃ x, x = i := ⟨_, rfl⟩
                    rw [← hi1] at hi0 k1 ⊢
                    clear hi1 i
                    obtain ⟨i, hi⟩ : ∃ x, x = i0 := ⟨_, rfl⟩
                    rw [← hi] at hk0 hi0 ⊢
                    clear hi i0
                    have q_0 : (q = 0) = False := by apply eq_false; omega
                    have n0_q : (0 = q) = False := by apply eq_false; omega
                    have q_n1 : ∀ kk, (10000 * (i + 1) + kk = q) = False := fun kk => by apply eq_false; omega
                    have q_n2 : ∀ kk, (q = 10000 * (i + 1) + kk) = False := fun kk => by apply eq_false; omega
                    have q_n3 : (10000 * (i + 1) = q) = False := by apply eq_false; omega
                    have q_n4 : (q = 10000 * (i + 1)) = False := by apply eq_false; omega
                    have q_n5 : ∀ kk, ((⟨L + 1, q⟩ : Nm) == ⟨L + 1, 10000 * (i + 1) + kk⟩) = false := fun kk => by simp; omega
                    by_cases hjt : j ≤ t
                    · have s1 : decide ((j : Int) ≤ (t : Int)) = true := dT (by omega)
                      have hjl : j < fls.length := by omega
                      have r1 := rowF hjl
                      rw [getD_F hjl] at r1
                      have hany := segF_any (fls := fls) a1 hjl (givenB lim)
                      obtain ⟨x, hx⟩ : ∃ x, x = fls.getD j flZ := ⟨_, rfl⟩
                      rw [← hx] at r1 hany
                      obtain ⟨gv, hgv⟩ : ∃ y, y = (segF fls k j).any (givenB lim) := ⟨_, rfl⟩
                      rw [← hgv] at hany ⊢
                      cases hxg : x.gap with
                      | true =>
                        have hany : (segF fls k (j + 1)).any (givenB lim) = gv := by rw [hany]; simp [givenB, keepB, hxg]
                        simp only [s1, r1, Fl.row, hxg, List.length_map, Nat.reduceBEq, Nat.add_assoc, Nat.reduceAdd, go_sem, Nat.reduceAdd, Nat.reduceLT, Nat.reduceLeDiff, Nat.reduceBEq]
                        repeat refine And.intro (by first | omega | exact ⟨by omega, by omega⟩ | exact ⟨by omega, by omega, by omega⟩ | exact ⟨⟨by omega, by omega⟩, by omega, by omega⟩ | exact okS (by kernel_rfl)) ?_
                        refine ⟨j + 1, ⟨by omega, by omega⟩, by omega, ?_⟩
                        refine Sub.of (fun n hn => hF2 n (by have : n.l = L + 1 := hn; omega)) (by simp only [hany, go_sem, subT, and_self, Int.natCast_succ]) ?_ (by simp [subK, keys]) (by simp only []; omega)
                        simp [subH, Tx.look]
                      | false =>
                        cases hxd : x.drp with
                        | true =>
                          have hany : (segF fls k (j + 1)).any (givenB lim) = gv := by rw [hany]; simp [givenB, keepB, hxg, hxd]
                          simp only [s1, r1, Fl.row, hxg, hxd, List.length_map, Nat.reduceBEq, Nat.add_assoc, Nat.reduceAdd, go_sem, Nat.reduceAdd, Nat.reduceLT, Nat.reduceLeDiff, Nat.reduceBEq]
                          repeat refine And.intro (by first | omega | exact ⟨by omega, by omega⟩ | exact ⟨by omega, by omega, by omega⟩ | exact ⟨⟨by omega, by omega⟩, by omega, by omega⟩ | exact okS (by kernel_rfl)) ?_
                          refine ⟨j + 1, ⟨by omega, by omega⟩, by omega, ?_⟩
                          refine Sub.of (fun n hn => hF2 n (by have : n.l = L + 1 := hn; omega)) (by simp only [hany, go_sem, subT, and_self, Int.natCast_succ]) ?_ (by simp [subK, keys]) (by simp only []; omega)
                          simp [subH, Tx.look]
                        | false =>
                          cases ht1 : decide (lim + 1 < x.tr) with
                          | true =>
                            have hany : (segF fls k (j + 1)).any (givenB lim) = true := by rw [hany]; simp [givenB, keepB, hxg, hxd, of_decide_eq_true ht1]
                            simp only [s1, r1, Fl.row, hxg, hxd, ht1, List.length_map, Nat.reduceBEq, Nat.add_assoc, Nat.reduceAdd, go_sem, Nat.reduceAdd, Nat.reduceLT, Nat.reduceLeDiff, Nat.reduceBEq]
                            repeat refine And.intro (by first | omega | exact ⟨by omega, by omega⟩ | exact ⟨by omega, by omega, by omega⟩ | exact ⟨⟨by omega, by omega⟩, by omega, by omega⟩ | exact okS (by kernel_rfl)) ?_
                            refine ⟨j + 1, ⟨by omega, by omega⟩, by omega, ?_⟩
                            refine Sub.of (fun n hn => hF2 n (by have : n.l = L + 1 := hn; omega)) (by simp only [hany, go_sem, subT, and_self, Int.natCast_succ]) ?_ (by simp [subK, keys]) (by simp only []; omega)
                            simp [subH, Tx.look]
                          | false =>
                            have ht1' : ¬ (lim + 1 < x.tr) := of_decide_eq_false ht1
                            cases hxl : x.lost with
                            | false =>
                              have hany : (segF fls k (j + 1)).any (givenB lim) = gv := by rw [hany]; simp [givenB, keepB, hxg, hxd, ht1', hxl]
                              simp only [s1, r1, Fl.row, hxg, hxd, ht1, hxl, List.length_map, Nat.reduceBEq, Nat.add_assoc, Nat.reduceAdd, go_sem, Nat.reduceAdd, Nat.reduceLT, Nat.reduceLeDiff, Nat.reduceBEq]
                              repeat refine And.intro (by first | omega | exact ⟨by omega, by omega⟩ | exact ⟨by omega, by omega, by omega⟩ | exact ⟨⟨by omega, by omega⟩, by omega, by omega⟩ | exact okS (by kernel_rfl)) ?_
                              refine ⟨j + 1, ⟨by omega, by omega⟩, by omega, ?_⟩
                              refine Sub.of (fun n hn => hF2 n (by have : n.l = L + 1 := hn; omega)) (by simp only [hany, go_sem, subT, and_self, Int.natCast_succ]) ?_ (by simp [subK, keys]) (by simp only []; omega)
                              simp [subH, Tx.look]
                            | true =>
                              cases ht2 : decide (lim < x.tr) with
                              | true =>
                                have hany : (segF fls k (j + 1)).any (givenB lim) = true := by rw [hany]; simp [givenB, keepB, hxg, hxd, ht1', hxl, of_decide_eq_true ht2]
                                simp only [s1, r1, Fl.row, hxg, hxd, ht1, hxl, ht2, List.length_map, Nat.reduceBEq, Nat.add_assoc, Nat.reduceAdd, go_sem, Nat.reduceAdd, Nat.reduceLT, Nat.reduceLeDiff, Nat.reduceBEq]
                                repeat refine And.intro (by first | omega | exact ⟨by omega, by omega⟩ | exact ⟨by omega, by omega, by omega⟩ | exact ⟨⟨by omega, by omega⟩, by omega, by omega⟩ | exact okS (by kernel_rfl)) ?_
                                refine ⟨j + 1, ⟨by omega, by omega⟩, by omega, ?_⟩
                                refine Sub.of (fun n hn => hF2 n (by have : n.l = L + 1 := hn; omega)) (by simp only [hany, go_sem, subT, and_self, Int.natCast_succ]) ?_ (by simp [subK, keys]) (by simp only []; omega)
                                simp [subH, Tx.look]
                              | false =>
                                have hany : (segF fls k (j + 1)).any (givenB lim) = gv := by rw [hany]; simp [givenB, keepB, hxg, hxd, ht1', hxl, of_decide_eq_false ht2]
                                simp only [s1, r1, Fl.row, hxg, hxd, ht1, hxl, ht2, List.length_map, Nat.reduceBEq, Nat.add_assoc, Nat.reduceAdd, go_sem, Nat.reduceAdd, Nat.reduceLT, Nat.reduceLeDiff, Nat.reduceBEq]
                                repeat refine And.intro (by first | omega | exact ⟨by omega, by omega⟩ | exact ⟨by omega, by omega, by omega⟩ | exact ⟨⟨by omega, by omega⟩, by omega, by omega⟩ | exact okS (by kernel_rfl)) ?_
                                refine ⟨j + 1, ⟨by omega, by omega⟩, by omega, ?_⟩
                                refine Sub.of (fun n hn => hF2 n (by have : n.l = L + 1 := hn; omega)) (by simp only [hany, go_sem, subT, and_self, Int.natCast_succ]) ?_ (by simp [subK, keys]) (by simp only []; omega)
                                simp [subH, Tx.look]
                    · have s1 : decide ((j : Int) ≤ (t : Int)) = false := dF (by omega)
                      have ej : j = t + 1 := by omega
                      obtain ⟨gv, hgv⟩ : ∃ y, y = (segF fls k j).any (givenB lim) := ⟨_, rfl⟩
                      rw [ej] at hgv
                      rw [← hgv] at hsu
                      rw [show (segF fls k j).any (givenB lim) = gv by rw [hgv, ej]]
                      simp only [s1, Nat.add_assoc, Nat.reduceAdd, go_sem, Nat.reduceAdd, Nat.reduceEqDiff, Nat.reduceLT]
                      cases gv with
                      | false =>
                        simp only [if_false, Bool.false_eq_true] at hsu
                        refine loopK.intro _ _ (I := fun z : Unit => ⟨[some (.fs 14 (fls.map Fl.row)), some (.fs 1 (lims.map eI)), none, none, none, none, none, none, some (.sl ⟨L + 1, q⟩ 0 out.length), some (.int .i64 k), some (.int .i64 t), none, some (.bool false), none, some (.int .i64 k), none, none, none, none, none, none, none, none, none, none, none, none, none, none, none, none, none, none, none, none, none, none, none, none, none, none, none, none, none, none, none, none, none, none, none, none, none, none, none, none, none, none, none, none, none, none, none, none, none, none, none, none, none, none, none, none, none, none, none, none, none, none, none, none, none, none, none, none, none, none, none, none, none, none, none, none, none, none, none, none, none, none, none, none, none, none, none, none, none, none, none, none, none, none, none, none, none, none, none, none, none, none, none, none, none, none, none, none, none, none, none, none, none, none, none, none, none, none, none, none, none, none, none, none, none, none, none, none, none, none, none, none, none, none, none, none, none, none, none, none, none, none, none, none, none, none, none, none, none, none, none, none, none], [(⟨L + 1, q⟩, .rows 3 1 true true (out.map eI))], 10000 * (i + 1) + 160⟩)
                          (pre := fun _ => True) (μ := fun _ => 0) () trivial ?_ ?_
                        · refine Sub.of (fun n hn => hF2 n (by have : n.l = L + 1 := hn; omega)) (by simp only [go_sem, subT, and_self]) ?_ (by simp [subK, keys]) (by simp only []; omega)
                          simp [subH, Tx.look]
                        · rintro ⟨⟩ _
                          have s2 : decide ((k : Int) ≤ (t : Int)) = true := dT (by omega)
                          simp only [s2, Nat.add_assoc, Nat.reduceAdd, go_sem, Nat.reduceAdd, Nat.reduceEqDiff, Nat.reduceLT]
                          repeat refine And.intro (by first | omega | exact ⟨by omega, by omega⟩ | exact ⟨by omega, by omega, by omega⟩ | exact ⟨⟨by omega, by omega⟩, by omega, by omega⟩ | exact okS (by kernel_rfl)) ?_
                          refine ⟨⟨k + 1, i + 1, q⟩, ⟨by simp only []; omega, by simp only []; rw [hsu]; omega, c3, by simp only []; omega⟩, by simp only []; omega, ?_⟩
                          refine Sub.of (fun n hn => hF2 n (by have : n.l = L + 1 := hn; omega)) (by simp only [hsu, go_sem, subT, and_self, Int.natCast_succ]) ?_ (by simp [subK, keys]) (by simp only []; omega)
                          simp [subH, Tx.look, hsu]
                      | true =>
                        simp only [if_true] at hsu
                        clear hgv ej s1 hjt hi0 a1 a2
                        refine loopK.intro _ _ (I := fun z : RdY => ⟨[some (.fs 14 (fls.map Fl.row)), some (.fs 1 (lims.map eI)), none, none, none, none, none, none, some (.sl ⟨L + 1, z.q⟩ 0 (outS2 out fls k z.j).length), some (.int .i64 k), some (.int .i64 t), none, some (.bool true), none, some (.int .i64 z.j), none, none, none, none, none, none, none, none, none, none, none, none, none, none, none, none, none, none, none, none, none, none, none, none, none, none, none, none, none, none, none, none, none, none, none, none, none, none, none, none, none, none, none, none, none, none, none, none, none, none, none, none, none, none, none, none, none, none, none, none, none, none, none, none, none, none, none, none, none, none, none, none, none, none, none, none, none, none, none, none, none, none, none, none, none, none, none, none, none, none, none, none, none, none, none, none, none, none, none, none, none, none, none, none, none, none, none, none, none, none, none, none, none, none, none, none, none, none, none, none, none, none, none, none, none, none, none, none, none, none, none, none, none, none, none, none, none, none, none, none, none, none, none, none, none, none, none, none, none, none, none, none, none], [(⟨L + 1, z.q⟩, .rows 3 1 true true ((outS2 out fls k z.j).map eI))], 10000 * (z.i + 1)⟩)
                          (pre := fun z => k ≤ z.j ∧ z.j ≤ t + 1 ∧ 100 ≤ z.q ∧ z.q < 10000 * (z.i + 1)) (μ := fun z => t + 1 - z.j) ⟨k, i + 1, q⟩ ⟨by simp, by simp only []; omega, c3, by simp only []; omega⟩ ?_ ?_
                        · refine Sub.of (fun n hn => hF2 n (by have : n.l = L + 1 := hn; omega)) (by simp only [outS2_self, go_sem, subT, and_self]) ?_ (by simp [subK, keys]) (by simp only []; omega)
                          simp [subH, Tx.look, outS2_self]
                        · clear q_n1 q_n2 q_n3 q_n4 q_n5 q_0 n0_q c3 k1 hk0
                          clear i j q
                          rintro ⟨j, i, q⟩ ⟨a1, a2, k2, k3⟩
                          simp only at a1 a2 k2 k3 ⊢
                          have q_0 : (q = 0) = False := by apply eq_false; omega
                          have n0_q : (0 = q) = False := by apply eq_false; omega
                          have q_n1 : ∀ kk, (10000 * (i + 1) + kk = q) = False := fun kk => by apply eq_false; omega
                          have q_n2 : ∀ kk, (q = 10000 * (i + 1) + kk) = False := fun kk => by apply eq_false; omega
                          have q_n3 : (10000 * (i + 1) = q) = False := by apply eq_false; omega
                          have q_n4 : (q = 10000 * (i + 1)) = False := by apply eq_false; omega
                          have q_n5 : ∀ kk, ((⟨L + 1, q⟩ : Nm) == ⟨L + 1, 10000 * (i + 1) + kk⟩) = false := fun kk => by simp; omega
                          have hol := outS2_len out fls k j
                          by_cases hjt : j ≤ t
                          · have s2 : decide ((j : Int) ≤ (t : Int)) = true := dT (by omega)
                            have hjl : j < fls.length := by omega
                            have r1 := rowF hjl
                            rw [getD_F hjl] at r1
                            have hs := outS2_succ out (fls := fls) a1 hjl
                            obtain ⟨x, hx⟩ : ∃ x, x = fls.getD j flZ := ⟨_, rfl⟩
                            rw [← hx] at r1 hs
                            cases hxg : x.gap with
                            | true =>
                              have hs : outS2 out fls k (j + 1) = outS2 out fls k j := by rw [hs]; simp [keepB, hxg]
                              simp only [s2, r1, Fl.row, hxg, List.length_map, Nat.reduceBEq, Nat.add_assoc, Nat.reduceAdd, go_sem, Nat.reduceAdd, Nat.reduceLT, Nat.reduceLeDiff, Nat.reduceBEq]
                              repeat refine And.intro (by first | omega | exact ⟨by omega, by omega⟩ | exact ⟨by omega, by omega, by omega⟩ | exact ⟨⟨by omega, by omega⟩, by omega, by omega⟩ | exact okS (by kernel_rfl)) ?_
                              refine ⟨⟨j + 1, i + 1, q⟩, ⟨by simp only []; omega, by simp only []; omega, k2, by simp only []; omega⟩, by simp only []; omega, ?_⟩
                              refine Sub.of (fun n hn => hF2 n (by have : n.l = L + 1 := hn; omega)) (by simp only [hs, go_sem, subT, and_self, Int.natCast_succ]) ?_ (by simp [subK, keys]) (by simp only []; omega)
                              simp [subH, Tx.look, hs]
                            | false =>
                              cases hxd : x.drp with
                              | true =>
                                have hs : outS2 out fls k (j + 1) = outS2 out fls k j := by rw [hs]; simp [keepB, hxg, hxd]
                                simp only [s2, r1, Fl.row, hxg, hxd, List.length_map, Nat.reduceBEq, Nat.add_assoc, Nat.reduceAdd, go_sem, Nat.reduceAdd, Nat.reduceLT, Nat.reduceLeDiff, Nat.reduceBEq]
                                repeat refine And.intro (by first | omega | exact ⟨by omega, by omega⟩ | exact ⟨by omega, by omega, by omega⟩ | exact ⟨⟨by omega, by omega⟩, by omega, by omega⟩ | exact okS (by kernel_rfl)) ?_
                                refine ⟨⟨j + 1, i + 1, q⟩, ⟨by simp only []; omega, by simp only []; omega, k2, by simp only []; omega⟩, by simp only []; omega, ?_⟩
                                refine Sub.of (fun n hn => hF2 n (by have : n.l = L + 1 := hn; omega)) (by simp only [hs, go_sem, subT, and_self, Int.natCast_succ]) ?_ (by simp [subK, keys]) (by simp only []; omega)
                                simp [subH, Tx.look, hs]
                              | false =>
                                have hs : outS2 out fls k (j + 1) = outS2 out fls k j ++ [x.d.tsn] := by rw [hs]; simp [keepB, hxg, hxd]
                                have hl1 : (outS2 out fls k (j + 1)).length = (outS2 out fls k j).length + 1 := by rw [hs]; simp
                                have hme : (outS2 out fls k (j + 1)).map eI = (outS2 out fls k j).map eI ++ [[.int .i64 x.d.tsn]] := by rw [hs]; simp [eI]
                                simp only [s2, r1, Fl.row, hxg, hxd, List.length_map, q_n1, q_n2, q_n5, Nat.reduceBEq, nS2, Nat.add_assoc, Nat.reduceAdd, Nat.add_zero, go_sem, Nat.reduceAdd, Nat.reduceMul, Nat.reduceEqDiff, Nat.reduceLT, Nat.reduceLeDiff, Nat.reduceBEq]
                                repeat refine And.intro (by first | omega | exact ⟨by omega, by omega⟩ | exact ⟨by omega, by omega, by omega⟩ | exact ⟨⟨by omega, by omega⟩, by omega, by omega⟩ | exact okS (by kernel_rfl)) ?_
                                refine ⟨⟨j + 1, i + 1, 10000 * (i + 1) + 896⟩, ⟨by simp only []; omega, by simp only []; omega, by simp only []; omega, by simp only []; omega⟩, by simp only []; omega, ?_⟩
                                refine Sub.of (fun n hn => hF2 n (by have : n.l = L + 1 := hn; omega)) (by simp only [hl1, go_sem, subT, and_self, Int.natCast_succ]) ?_ (by simp [subK, keys]) (by simp only []; omega)
                                simp [subH, Tx.look, hme, q_n1]
                          · have s2 : decide ((j : Int) ≤ (t : Int)) = false := dF (by omega)
                            have ej : j = t + 1 := by omega
                            have hfin : refL fls lims (k + 1) = outS2 out fls k j := by rw [hsu, ej]; rfl
                            have hlb2 : (outS2 out fls k j).length ≤ 31 * (k + 1) := by omega
                            simp only [s2, Nat.add_assoc, Nat.reduceAdd, go_sem, Nat.reduceAdd, Nat.reduceEqDiff, Nat.reduceLT]
                            repeat refine And.intro (by first | omega | exact ⟨by omega, by omega⟩ | exact ⟨by omega, by omega, by omega⟩ | exact ⟨⟨by omega, by omega⟩, by omega, by omega⟩ | exact okS (by kernel_rfl)) ?_
                            refine ⟨⟨k + 1, i + 1, q⟩, ⟨by simp only []; omega, by simp only []; rw [hfin]; exact hlb2, k2, by simp only []; omega⟩, by simp only []; omega, ?_⟩
                            refine Sub.of (fun n hn => hF2 n (by have : n.l = L + 1 := hn; omega)) (by simp only [hfin, go_sem, subT, and_self, Int.natCast_succ]) ?_ (by simp [subK, keys]) (by simp only []; omega)
                            simp [subH, Tx.look, hfin]
              · have d2 : decide ((-1 : Int) < 0) = true := rfl
                have hsu : refL fls lims (k + 1) = refL fls lims k := by rw [refL_succ, refStep, hno]; rfl
                rw [← ho] at c2 hsu
                simp only [hno, d2, r0, Fl.row, rl, eI, List.length_map, ← ho, Nat.reduceBEq, Nat.add_assoc, Nat.reduceAdd, Nat.add_zero, go_sem, Nat.reduceAdd, Nat.reduceEqDiff, Nat.reduceLT, Nat.reduceLeDiff, Nat.reduceBEq]
                repeat refine And.intro (by first | omega | exact ⟨by omega, by omega⟩ | exact ⟨by omega, by omega, by omega⟩ | exact ⟨⟨by omega, by omega⟩, by omega, by omega⟩ | exact okS (by kernel_rfl)) ?_
                refine ⟨okDyn_num (fun _ => 0) (by simp only [numF, List.map]; kernel_rfl), ⟨by omega, by omega⟩, ⟨k + 1, i + 1, q⟩, ⟨by simp only []; omega, by simp only []; rw [hsu]; omega, c3, by simp only []; omega⟩, by simp only []; omega, ?_⟩
                refine Sub.of (fun n hn => hF2 n (by have : n.l = L + 1 := hn; omega)) (by simp only [hsu, go_sem, subT, and_self, Int.natCast_succ]) ?_ (by simp [subK, keys]) (by simp only []; omega)
                simp [subH, Tx.look, hsu]
            · have d1 : decide ((k : Int) < (fls.length : Int)) = false := dF (by omega)
              have e : k = fls.length := by omega
              rw [← e]
              have d2 : decide ((k : Int) < (k : Int)) = false := dF (by omega)
              simp only [d1, List.length_map, Nat.add_assoc, Nat.reduceAdd, go_sem, Nat.reduceAdd, Nat.reduceLT]
              exact PostF.of (p := True) (v0 := .tup [.sl ⟨L + 1, q⟩ 0 (refL fls lims k).length, .int .i64 0] ) (.inr rfl) (by simp only [resVal, resVals, resVal1, one, go_sem]) trivial (by simp [Wk, WkL, Tx.look, List.take_of_length_le]) (by simp [wkN, wkNL]) (by simp [Tx.nf, nfl]) trivial (by simp [UpdAll, keys])
end Go.Proofs.Ytfhhbkehlfipgaa
end
