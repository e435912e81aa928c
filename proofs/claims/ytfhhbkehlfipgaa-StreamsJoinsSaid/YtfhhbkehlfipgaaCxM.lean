/- Lemmas for the walk: C33. -/
import Derived.Test.YtfhhbkehlfipgaaCxL
section
set_option linter.unusedSimpArgs false
set_option linter.unusedVariables false
set_option linter.unnecessarySimpa false
set_option linter.unusedSectionVars false
namespace Go.Proofs.Ytfhhbkehlfipgaa
open Go.Tx
set_option maxRecDepth 100000
set_option maxHeartbeats 16000000
set_option linter.unusedSimpArgs false
set_option linter.unusedVariables false
theorem okS {a : List Oper} {b : Nat} (h : okStatic a b = true) : okStatic a b = true := h
/-! slices.IndexFunc, ContainsFunc of skips; the closures of Skip and cut -/
theorem indexFunc2_ok {F : SF} {L nx : Nat} (ps : List (Int × Int)) (g : FuncId) (fl cl : List PV) (p : Int × Int → Bool) (rd : List Nm) (hrd : ∀ n ∈ rd, n.l ≤ L) (hlen : ps.length ≤ 1000) (hcl : ∀ x ∈ ps, ∀ L' nx', L ≤ L' → Con Try.prog g (fl ++ [.agg (kE x)] ++ cl) F L' nx' nx' (.bool (p x)) [] rd) :
    Con Try.prog 86 [.fs 2 (ps.map kE), .fn (.func g) fl cl] F L nx nx (.int .i64 (idxI p ps)) [] rd := by
  refine Con.body (cxOk (L + 1)) rfl rfl (fn := Try.f86) (c := Try.f86.body.getD .skip) (by kernel_rfl) (by rfl) (by kernel_rfl) rfl  hrd ?_
  intro F3 hF1 hF2
  simp only [Try.f86, cx, Nat.add_zero, go_sem, Meths.get, meths, Nat.reduceSub, Nat.reduceAdd, Nat.reduceMul, Nat.reduceEqDiff, Nat.reduceLT, Nat.reduceLeDiff, Nat.reduceBEq, Nat.reduceBNe, reduceIte, reduceCtorEq, Int.reduceToNat, String.reduceEq]
  refine loopK.intro _ _ (I := fun i : Nat => ⟨[some (.fs 2 (ps.map kE)), some (.fn (.func g) fl cl), none, none, none, none, none, some (.int .i64 ps.length), some (.int .i64 i), none, none, none, none, none, none, none, none, none, none], [], 10000 * (i + 1)⟩) (pre := fun i => i ≤ ps.length ∧ ∀ (j : Nat) (hj : j < ps.length), j < i → p ps[j] = false) (μ := fun i => ps.length - i) 0 ⟨by omega, by intro j _ h; omega⟩ ?_ ?_
  · exact Sub.of (fun n hn => hF2 n (by have : n.l = L + 1 := hn; omega)) (by simp only [go_sem, resVal, resVals, resVal1, one, Wk, WkL, WkLL, wkN, wkNL, wkNLL, UpdIn, UpdAll, BW, plainP, plainPL, subT, subH, subK, and_self, true_or, or_true, List.not_mem_nil, List.mem_cons, forall_eq, imp_self, implies_true, Nat.reduceSub, Nat.reduceAdd, Nat.reduceMul, Nat.reduceEqDiff, Nat.reduceLT, Nat.reduceLeDiff, Nat.reduceBEq, Nat.reduceBNe, reduceIte, reduceCtorEq, Int.reduceToNat, String.reduceEq, List.length_map, Int.natCast_zero]) trivial trivial (by simp)
  · rintro i ⟨hi, hp⟩
    by_cases hlt : i < ps.length
    · have f1 : decide ((i : Int) < (ps.length : Int)) = true := dT (by omega)
      have r0 : (ps.map kE).getD i [] = kE ps[i] := by simp [hlt, List.getD_eq_getElem?_getD]
      simp only [f1, r0, kE, List.length_map, nm_beq, Nat.reduceBEq, nB, nB', nS2, nS2', Nat.add_assoc, Nat.reduceAdd, Nat.add_zero, go_sem, Meths.get, meths, Nat.reduceSub, Nat.reduceAdd, Nat.reduceMul, Nat.reduceEqDiff, Nat.reduceLT, Nat.reduceLeDiff, Nat.reduceBEq, Nat.reduceBNe, reduceIte, reduceCtorEq, Int.reduceToNat, String.reduceEq]
      repeat refine And.intro (by first | omega | exact ⟨by omega, by omega⟩ | exact ⟨by omega, by omega, by omega⟩ | exact ⟨⟨by omega, by omega⟩, by omega, by omega⟩ | exact okDyn_num (fun x => x.i) (by kernel_rfl) | kernel_rfl | exact okDyn_num (fun _ => 0) (by kernel_rfl)) ?_
      have hc := hcl ps[i] (List.getElem_mem hlt) (L + 1) (10000 * (i + 1)) (by omega)
      simp only [kE] at hc hcl
      refine CallVC.same ((hcl ps[i] (List.getElem_mem hlt) _ _ (by omega)).agree hF1) ?_
      cases hpi : p ps[i]
      · simp only [Nat.add_zero, go_sem, Meths.get, meths, Nat.reduceSub, Nat.reduceAdd, Nat.reduceMul, Nat.reduceEqDiff, Nat.reduceLT, Nat.reduceLeDiff, Nat.reduceBEq, Nat.reduceBNe, reduceIte, reduceCtorEq, Int.reduceToNat, String.reduceEq]
        refine ⟨⟨by omega, by omega⟩, i + 1, ⟨by omega, fun j hj hji => ?_⟩, by omega, Sub.of (fun n hn => hF2 n (by have : n.l = L + 1 := hn; omega)) (by simp only [go_sem, resVal, resVals, resVal1, one, Wk, WkL, WkLL, wkN, wkNL, wkNLL, UpdIn, UpdAll, BW, plainP, plainPL, subT, subH, subK, and_self, true_or, or_true, List.not_mem_nil, List.mem_cons, forall_eq, imp_self, implies_true, Nat.reduceSub, Nat.reduceAdd, Nat.reduceMul, Nat.reduceEqDiff, Nat.reduceLT, Nat.reduceLeDiff, Nat.reduceBEq, Nat.reduceBNe, reduceIte, reduceCtorEq, Int.reduceToNat, String.reduceEq, Int.natCast_succ]) trivial trivial (by simp only []; omega)⟩
        by_cases he : j = i
        · subst he; exact hpi
        · exact hp j hj (by omega)
      · simp only [Nat.add_zero, go_sem, Meths.get, meths, Nat.reduceSub, Nat.reduceAdd, Nat.reduceMul, Nat.reduceEqDiff, Nat.reduceLT, Nat.reduceLeDiff, Nat.reduceBEq, Nat.reduceBNe, reduceIte, reduceCtorEq, Int.reduceToNat, String.reduceEq]
        exact .int (.inr rfl) rfl (idxI_stop hlt hp hpi).symm trivial
    · have f1 : decide ((i : Int) < (ps.length : Int)) = false := dF (by omega)
      simp only [f1, Nat.add_zero, go_sem, Meths.get, meths, Nat.reduceSub, Nat.reduceAdd, Nat.reduceMul, Nat.reduceEqDiff, Nat.reduceLT, Nat.reduceLeDiff, Nat.reduceBEq, Nat.reduceBNe, reduceIte, reduceCtorEq, Int.reduceToNat, String.reduceEq]
      exact .int (.inr rfl) rfl (idxI_end (fun j hj => hp j hj (by omega))).symm trivial
theorem containsFunc2_ok {F : SF} {L nx : Nat} (ps : List (Int × Int)) (g : FuncId) (fl cl : List PV) (p : Int × Int → Bool) (rd : List Nm) (hrd : ∀ n ∈ rd, n.l ≤ L) (hlen : ps.length ≤ 1000) (hcl : ∀ x ∈ ps, ∀ L' nx', L ≤ L' → Con Try.prog g (fl ++ [.agg (kE x)] ++ cl) F L' nx' nx' (.bool (p x)) [] rd) :
    Con Try.prog 56 [.fs 2 (ps.map kE), .fn (.func g) fl cl] F L nx nx (.bool (ps.any p)) [] rd := by
  refine Con.body (cxOk (L + 1)) rfl rfl (fn := Try.f56) (c := Try.f56.body.getD .skip) (by kernel_rfl) (by rfl) (by kernel_rfl) rfl  hrd ?_
  intro F3 hF1 hF2
  simp only [Try.f56, cx, Nat.add_zero, go_sem, Meths.get, meths, Nat.reduceSub, Nat.reduceAdd, Nat.reduceMul, Nat.reduceEqDiff, Nat.reduceLT, Nat.reduceLeDiff, Nat.reduceBEq, Nat.reduceBNe, reduceIte, reduceCtorEq, Int.reduceToNat, String.reduceEq]
  refine CallVC.same ((indexFunc2_ok ps g fl cl p rd (fun n hn => by have := hrd n hn; omega) hlen (fun x hx L' nx' hL => hcl x hx L' nx' (by omega))).agree hF1) ?_
  simp only [Nat.add_zero, go_sem, Meths.get, meths, Nat.reduceSub, Nat.reduceAdd, Nat.reduceMul, Nat.reduceEqDiff, Nat.reduceLT, Nat.reduceLeDiff, Nat.reduceBEq, Nat.reduceBNe, reduceIte, reduceCtorEq, Int.reduceToNat, String.reduceEq]
  exact .bool (.inr rfl) rfl (idxI_any p ps) trivial
/-! The closures of Skip and cut -/
theorem cut1_ok {F : SF} {L nx : Nat} (d : Dat) (a : Nm) (ha : a.l ≤ L) (ea : TypeId) (o p : Bool) (t : Int) (hF : F a = some (.rows ea 1 o p [[.int .i64 t]])) :
    Con Try.prog 89 [.agg d.row, .ptr a 0 0] F L nx nx (.bool (d.tsn == t)) [] [a] := by
  refine Con.body (cxOk (L + 1)) rfl rfl (fn := Try.f89) (c := Try.f89.body.getD .skip) (by kernel_rfl) (by rfl) (by kernel_rfl) rfl  (by simpa using ha) ?_
  intro F3 hF1 hF2
  have hF := (hF1 a (by simp)).trans hF
  have q1 := nm_out' ha
  have q2 := nm_out ha
  simp only [Try.f89, cx, Dat.row, hF, q1, q2, Nat.add_zero, go_sem, Meths.get, meths, Nat.reduceSub, Nat.reduceAdd, Nat.reduceMul, Nat.reduceEqDiff, Nat.reduceLT, Nat.reduceLeDiff, Nat.reduceBEq, Nat.reduceBNe, reduceIte, reduceCtorEq, Int.reduceToNat, String.reduceEq]
  exact .bool (.inr rfl) rfl rfl (by simp [UpdAll, keys])
theorem skip1_ok {F : SF} {L nx : Nat} (k : Int × Int) (a : Nm) (ha : a.l ≤ L) (ea : TypeId) (o p : Bool) (out parts num seen asked : PV) (inn : List Int) (hF : F a = some (.rows ea 6 o p [[out, .fs 1 (inn.map eI), parts, num, seen, asked]])) :
    Con Try.prog 57 [.agg (kE k), .ptr a 0 0] F L nx nx (.bool (decide ((inn.length : Int) ≤ k.1))) [] [a] := by
  refine Con.body (cxOk (L + 1)) rfl rfl (fn := Try.f57) (c := Try.f57.body.getD .skip) (by kernel_rfl) (by rfl) (by kernel_rfl) rfl  (by simpa using ha) ?_
  intro F3 hF1 hF2
  have hF := (hF1 a (by simp)).trans hF
  have q1 := nm_out' ha
  have q2 := nm_out ha
  simp only [Try.f57, cx, kE, hF, q1, q2, List.length_map, Nat.add_zero, go_sem, Meths.get, meths, Nat.reduceSub, Nat.reduceAdd, Nat.reduceMul, Nat.reduceEqDiff, Nat.reduceLT, Nat.reduceLeDiff, Nat.reduceBEq, Nat.reduceBNe, reduceIte, reduceCtorEq, Int.reduceToNat, String.reduceEq]
  repeat refine And.intro (by first | omega | exact ⟨by omega, by omega⟩ | exact ⟨by omega, by omega, by omega⟩ | exact ⟨⟨by omega, by omega⟩, by omega, by omega⟩ | exact okDyn_num (fun x => x.i) (by kernel_rfl) | kernel_rfl | exact okDyn_num (fun _ => 0) (by kernel_rfl)) ?_
  exact .bool (.inr rfl) rfl rfl (by simp [UpdAll, keys])
theorem skip2_ok {F : SF} {L nx : Nat} (d : Dat) (hd : d.ok = true) (a b : Nm) (ha : a.l ≤ L) (hb : b.l ≤ L) (ea eb : TypeId) (oa ob pa pb : Bool) (cum : Int) (hc : 0 ≤ cum) (hc2 : cum < 4294967296) (sk : PV) (ns : List Int) (hns : ns.length ≤ 1000) (hF : F a = some (.rows ea 2 oa pa [[.int .i64 cum, sk]])) (hG : F b = some (.rows eb 1 ob pb [[.fs 1 (ns.map eI)]])) :
    Con Try.prog 60 [.agg d.row, .ptr a 0 0, .ptr b 0 0] F L nx nx (.bool (skB cum ns d)) [] [a, b] := by
  refine Con.body (cxOk (L + 1)) rfl rfl (fn := Try.f60) (c := Try.f60.body.getD .skip) (by kernel_rfl) (by rfl) (by kernel_rfl) rfl  (by simp; omega) ?_
  intro F3 hF1 hF2
  have hF := (hF1 a (by simp)).trans hF
  have hG := (hF1 b (by simp)).trans hG
  have q1 := nm_out' ha
  have q2 := nm_out ha
  have q3 := nm_out' hb
  have q4 := nm_out hb
  obtain ⟨w1, w2, w3, w4, w5, w6, w7, w8⟩ := Dat.ok_bounds hd
  unfold skB
  have h7 : ns.contains d.tsn = ns.any fun z => d.tsn == z := List.contains_eq_any_beq
  cases h2 : d.lo with
  | false =>
    simp only [Try.f60, cx, Dat.row, hF, hG, q1, q2, q3, q4, h2, List.length_map, Nat.add_zero, go_sem, Meths.get, meths, Nat.reduceSub, Nat.reduceAdd, Nat.reduceMul, Nat.reduceEqDiff, Nat.reduceLT, Nat.reduceLeDiff, Nat.reduceBEq, Nat.reduceBNe, reduceIte, reduceCtorEq, Int.reduceToNat, String.reduceEq]
    repeat refine And.intro (by first | omega | exact ⟨by omega, by omega⟩ | exact ⟨by omega, by omega, by omega⟩ | exact ⟨⟨by omega, by omega⟩, by omega, by omega⟩ | exact okDyn_num (fun x => x.i) (by kernel_rfl) | kernel_rfl | exact okDyn_num (fun _ => 0) (by kernel_rfl)) ?_
    exact .bool (.inr rfl) rfl rfl (by simp [UpdAll, keys])
  | true =>
    simp only [Try.f60, cx, Dat.row, hF, hG, q1, q2, q3, q4, h2, List.length_map, Nat.add_zero, go_sem, Meths.get, meths, Nat.reduceSub, Nat.reduceAdd, Nat.reduceMul, Nat.reduceEqDiff, Nat.reduceLT, Nat.reduceLeDiff, Nat.reduceBEq, Nat.reduceBNe, reduceIte, reduceCtorEq, Int.reduceToNat, String.reduceEq]
    repeat refine And.intro (by first | omega | exact ⟨by omega, by omega⟩ | exact ⟨by omega, by omega, by omega⟩ | exact ⟨⟨by omega, by omega⟩, by omega, by omega⟩ | exact okDyn_num (fun x => x.i) (by kernel_rfl) | kernel_rfl | exact okDyn_num (fun _ => 0) (by kernel_rfl)) ?_
    refine CallVC.same (lead_ok d.tsn cum 32 (by omega) (by omega) w1 w2 hc hc2) ?_
    cases h3 : decide (lead d.tsn cum 32 ≤ 0) with
    | false =>
      simp only [Dat.row, hF, hG, q1, q2, q3, q4, h2, h3, List.length_map, Nat.add_zero, go_sem, Meths.get, meths, Nat.reduceSub, Nat.reduceAdd, Nat.reduceMul, Nat.reduceEqDiff, Nat.reduceLT, Nat.reduceLeDiff, Nat.reduceBEq, Nat.reduceBNe, reduceIte, reduceCtorEq, Int.reduceToNat, String.reduceEq]
      repeat refine And.intro (by first | omega | exact ⟨by omega, by omega⟩ | exact ⟨by omega, by omega, by omega⟩ | exact ⟨⟨by omega, by omega⟩, by omega, by omega⟩ | exact okDyn_num (fun x => x.i) (by kernel_rfl) | kernel_rfl | exact okDyn_num (fun _ => 0) (by kernel_rfl)) ?_
      exact .bool (.inr rfl) rfl rfl (by simp [UpdAll, keys])
    | true =>
      simp only [Dat.row, hF, hG, q1, q2, q3, q4, h2, h3, List.length_map, Nat.add_zero, go_sem, Meths.get, meths, Nat.reduceSub, Nat.reduceAdd, Nat.reduceMul, Nat.reduceEqDiff, Nat.reduceLT, Nat.reduceLeDiff, Nat.reduceBEq, Nat.reduceBNe, reduceIte, reduceCtorEq, Int.reduceToNat, String.reduceEq]
      repeat refine And.intro (by first | omega | exact ⟨by omega, by omega⟩ | exact ⟨by omega, by omega, by omega⟩ | exact ⟨⟨by omega, by omega⟩, by omega, by omega⟩ | exact okDyn_num (fun x => x.i) (by kernel_rfl) | kernel_rfl | exact okDyn_num (fun _ => 0) (by kernel_rfl)) ?_
      refine CallVC.same (contains_ok ns d.tsn (by omega)) ?_
      simp only [Dat.row, hF, hG, q1, q2, q3, q4, h2, h3, List.length_map, Nat.add_zero, go_sem, Meths.get, meths, Nat.reduceSub, Nat.reduceAdd, Nat.reduceMul, Nat.reduceEqDiff, Nat.reduceLT, Nat.reduceLeDiff, Nat.reduceBEq, Nat.reduceBNe, reduceIte, reduceCtorEq, Int.reduceToNat, String.reduceEq]
      repeat refine And.intro (by first | omega | exact ⟨by omega, by omega⟩ | exact ⟨by omega, by omega, by omega⟩ | exact ⟨⟨by omega, by omega⟩, by omega, by omega⟩ | exact okDyn_num (fun x => x.i) (by kernel_rfl) | kernel_rfl | exact okDyn_num (fun _ => 0) (by kernel_rfl)) ?_
      exact .bool (.inr rfl) rfl (by rw [show List.elem d.tsn ns = ns.contains d.tsn from rfl, h7]) (by simp [UpdAll, keys])
end Go.Proofs.Ytfhhbkehlfipgaa
end
