/- Lemmas for the walk: C33, C34. -/
import Derived.Test.YtfhhbkehlfipgaaCxL
section
set_option linter.unusedSimpArgs false
set_option linter.unusedVariables false
set_option linter.unnecessarySimpa false
set_option linter.unusedSectionVars false
namespace Go.Proofs.Ytfhhbkehlfipgaa
open Go.Tx
set_option maxRecDepth 100000
set_option maxHeartbeats 16000000
set_option linter.unusedSimpArgs false
set_option linter.unusedVariables false
theorem okS {a : List Oper} {b : Nat} (h : okStatic a b = true) : okStatic a b = true := h
/-! slices.IndexFunc, ContainsFunc of skips; the closures of Skip and cut -/
theorem indexFunc2_ok {F : SF} {L nx : Nat} (ps : List (Int × Int)) (g : FuncId) (fl cl : List PV) (p : Int × Int → Bool) (rd : List Nm) (hrd : ∀ n ∈ rd, n.l ≤ L) (hlen : ps.length ≤ 1000) (hcl : ∀ x ∈ ps, ∀ L' nx', L ≤ L' → Con Try.prog g (fl ++ [.agg (kE x)] ++ cl) F L' nx' nx' (.bool (p x)) [] rd) :
    Con Try.prog 86 [.fs 2 (ps.map kE), .fn (.func g) fl cl] F L nx nx (.int .i64 (idxI p ps)) [] rd := by
  refine Con.body (cxOk (L + 1)) rfl rfl (fn := Try.f86) (c := Try.f86.body.getD .skip) (by kernel_rfl) (by rfl) (by kernel_rfl) rfl  hrd ?_
  intro F3 hF1 hF2
  simp only [Try.f86, cx, Nat.add_zero, go_sem, Meths.get, meths, Nat.reduceSub, Nat.reduceAdd, Nat.reduceMul, Nat.reduceEqDiff, Nat.reduceLT, Nat.reduceLeDiff, Nat.reduceBEq, Nat.reduceBNe, reduceIte, reduceCtorEq, Int.reduceToNat, String.reduceEq]
  refine loopK.intro _ _ (I := fun i : Nat => ⟨[some (.fs 2 (ps.map kE)), some (.fn (.func g) fl cl), none, none, none, none, none, some (.int .i64 ps.length), some (.int .i64 i), none, none, none, none, none, none, none, none, none, none], [], 10000 * (i + 1)⟩) (pre := fun i => i ≤ ps.length ∧ ∀ (j : Nat) (hj : j < ps.length), j < i → p ps[j] = false) (μ := fun i => ps.length - i) 0 ⟨by omega, by intro j _ h; omega⟩ ?_ ?_
  · exact Sub.of (fun n hn => hF2 n (by have : n.l = L + 1 := hn; omega)) (by simp only [go_sem, resVal, resVals, resVal1, one, Wk, WkL, WkLL, wkN, wkNL, wkNLL, UpdIn, UpdAll, BW, plainP, plainPL, subT, subH, subK, and_self, true_or, or_true, List.not_mem_nil, List.mem_cons, forall_eq, imp_self, implies_true, Nat.reduceSub, Nat.reduceAdd, Nat.reduceMul, Nat.reduceEqDiff, Nat.reduceLT, Nat.reduceLeDiff, Nat.reduceBEq, Nat.reduceBNe, reduceIte, reduceCtorEq, Int.reduceToNat, String.reduceEq, List.length_map, Int.natCast_zero]) trivial trivial (by simp)
  · rintro i ⟨hi, hp⟩
    by_cases hlt : i < ps.length
    · have f1 : decide ((i : Int) < (ps.length : Int)) = true := dT (by omega)
      have r0 : (ps.map kE).getD i [] = kE ps[i] := by simp [hlt, List.getD_eq_getElem?_getD]
      simp only [f1, r0, kE, List.length_map, nm_beq, Nat.reduceBEq, nB, nB', nS2, nS2', Nat.add_assoc, Nat.reduceAdd, Nat.add_zero, go_sem, Meths.get, meths, Nat.reduceSub, Nat.reduceAdd, Nat.reduceMul, Nat.reduceEqDiff, Nat.reduceLT, Nat.reduceLeDiff, Nat.reduceBEq, Nat.reduceBNe, reduceIte, reduceCtorEq, Int.reduceToNat, String.reduceEq]
      repeat refine And.intro (by first | omega | exact ⟨by omega, by omega⟩ | exact ⟨by omega, by omega, by omega⟩ | exact ⟨⟨by omega, by omega⟩, by omega, by omega⟩ | exact okDyn_num (fun x => x.i) (by kernel_rfl) | kernel_rfl | exact okDyn_num (fun _ => 0) (by kernel_rfl)) ?_
      have hc := hcl ps[i] (List.getElem_mem hlt) (L + 1) (10000 * (i + 1)) (by omega)
      simp only [kE] at hc hcl
      refine CallVC.same ((hcl ps[i] (List.getElem_mem hlt) _ _ (by omega)).agree hF1) ?_
      cases hpi : p ps[i]
      · simp only [Nat.add_zero, go_sem, Meths.get, meths, Nat.reduceSub, Nat.reduceAdd, Nat.reduceMul, Nat.reduceEqDiff, Nat.reduceLT, Nat.reduceLeDiff, Nat.reduceBEq, Nat.reduceBNe, reduceIte, reduceCtorEq, Int.reduceToNat, String.reduceEq]
        refine ⟨⟨by omega, by omega⟩, i + 1, ⟨by omega, fun j hj hji => ?_⟩, by omega, Sub.of (fun n hn => hF2 n (by have : n.l = L + 1 := hn; omega)) (by simp only [go_sem, resVal, resVals, resVal1, one, Wk, WkL, WkLL, wkN, wkNL, wkNLL, UpdIn, UpdAll, BW, plainP, plainPL, subT, subH, subK, and_self, true_or, or_true, List.not_mem_nil, List.mem_cons, forall_eq, imp_self, implies_true, Nat.reduceSub, Nat.reduceAdd, Nat.reduceMul, Nat.reduceEqDiff, Nat.reduceLT, Nat.reduceLeDiff, Nat.reduceBEq, Nat.reduceBNe, reduceIte, reduceCtorEq, Int.reduceToNat, String.reduceEq, Int.natCast_succ]) trivial trivial (by simp only []; omega)⟩
        by_cases he : j = i
        · subst he; exact hpi
        · exact hp j hj (by omega)
      · simp only [Nat.add_zero, go_sem, Meths.get, meths, Nat.reduceSub, Nat.reduceAdd, Nat.reduceMul, Nat.reduceEqDiff, Nat.reduceLT, Nat.reduceLeDiff, Nat.reduceBEq, Nat.reduceBNe, reduceIte, reduceCtorEq, Int.reduceToNat, String.reduceEq]
        exact .int (.inr rfl) rfl (idxI_stop hlt hp hpi).symm trivial
    · have f1 : decide ((i : Int) < (ps.length : Int)) = false := dF (by omega)
      simp only [f1, Nat.add_zero, go_sem, Meths.get, meths, Nat.reduceSub, Nat.reduceAdd, Nat.reduceMul, Nat.reduceEqDiff, Nat.reduceLT, Nat.reduceLeDiff, Nat.reduceBEq, Nat.reduceBNe, reduceIte, reduceCtorEq, Int.reduceToNat, String.reduceEq]
      exact .int (.inr rfl) rfl (idxI_end (fun j hj => hp j hj (by omega))).symm trivial
theorem containsFunc2_ok {F : SF} {L nx : Nat} (ps : List (Int × Int)) (g : FuncId) (fl cl : List PV) (p : Int × Int → Bool) (rd : List Nm) (hrd : ∀ n ∈ rd, n.l ≤ L) (hlen : ps.length ≤ 1000) (hcl : ∀ x ∈ ps, ∀ L' nx', L ≤ L' → Con Try.prog g (fl ++ [.agg (kE x)] ++ cl) F L' nx' nx' (.bool (p x)) [] rd) :
    Con Try.prog 56 [.fs 2 (ps.map kE), .fn (.func g) fl cl] F L nx nx (.bool (ps.any p)) [] rd := by
  refine Con.body (cxOk (L + 1)) rfl rfl (fn := Try.f56) (c := Try.f56.body.getD .skip) (by kernel_rfl) (by rfl) (by kernel_rfl) rfl  hrd ?_
  intro F3 hF1 hF2
  simp only [Try.f56, cx, Nat.add_zero, go_sem, Meths.get, meths, Nat.reduceSub, Nat.reduceAdd, Nat.reduceMul, Nat.reduceEqDiff, Nat.reduceLT, Nat.reduceLeDiff, Nat.reduceBEq, Nat.reduceBNe, reduceIte, reduceCtorEq, Int.reduceToNat, String.reduceEq]
  refine CallVC.same ((indexFunc2_ok ps g fl cl p rd (fun n hn => by have := hrd n hn; omega) hlen (fun x hx L' nx' hL => hcl x hx L' nx' (by omega))).agree hF1) ?_
  simp only [Nat.add_zero, go_sem, Meths.get, meths, Nat.reduceSub, Nat.reduceAdd, Nat.reduceMul, Nat.reduceEqDiff, Nat.reduceLT, Nat.reduceLeDiff, Nat.reduceBEq, Nat.reduceBNe, reduceIte, reduceCtorEq, Int.reduceToNat, String.reduceEq]
  exact .bool (.inr rfl) rfl (idxI_any p ps) trivial
/-! The closures of Skip and cut -/
theorem cut1_ok {F : SF} {L nx : Nat} (d : Dat) (a : Nm) (ha : a.l ≤ L) (ea : TypeId) (o p : Bool) (t : Int) (hF : F a = some (.rows ea 1 o p [[.int .i64 t]])) :
    Con Try.prog 89 [.agg d.row, .ptr a 0 0] F L nx nx (.bool (d.tsn == t)) [] [a] := by
  refine Con.body (cxOk (L + 1)) rfl rfl (fn := Try.f89) (c := Try.f89.body.getD .skip) (by kernel_rfl) (by rfl) (by kernel_rfl) rfl  (by simpa using ha) ?_
  intro F3 hF1 hF2
  have hF := (hF1 a (by simp)).trans hF
  have q1 := nm_out' ha
  have q2 := nm_out ha
  simp only [Try.f89, cx, Dat.row, hF, q1, q2, Nat.add_zero, go_sem, Meths.get, meths, Nat.reduceSub, Nat.reduceAdd, Nat.reduceMul, Nat.reduceEqDiff, Nat.reduceLT, Nat.reduceLeDiff, Nat.reduceBEq, Nat.reduceBNe, reduceIte, reduceCtorEq, Int.reduceToNat, String.reduceEq]
  exact .bool (.inr rfl) rfl rfl (by simp [UpdAll, keys])
theorem skip1_ok {F : SF} {L nx : Nat} (k : Int × Int) (a : Nm) (ha : a.l ≤ L) (ea : TypeId) (o p : Bool) (out parts num seen asked : PV) (inn : List Int) (hF : F a = some (.rows ea 6 o p [[out, .fs 1 (inn.map eI), parts, num, seen, asked]])) :
    Con Try.prog 57 [.agg (kE k), .ptr a 0 0] F L nx nx (.bool (decide ((inn.length : Int) ≤ k.1))) [] [a] := by
  refine Con.body (cxOk (L + 1)) rfl rfl (fn := Try.f57) (c := Try.f57.body.getD .skip) (by kernel_rfl) (by rfl) (by kernel_rfl) rfl  (by simpa using ha) ?_
  intro F3 hF1 hF2
  have hF := (hF1 a (by simp)).trans hF
  have q1 := nm_out' ha
  have q2 := nm_out ha
  simp only [Try.f57, cx, kE, hF, q1, q2, List.length_map, Nat.add_zero, go_sem, Meths.get, meths, Nat.reduceSub, Nat.reduceAdd, Nat.reduceMul, Nat.reduceEqDiff, Nat.reduceLT, Nat.reduceLeDiff, Nat.reduceBEq, Nat.reduceBNe, reduceIte, reduceCtorEq, Int.reduceToNat, String.reduceEq]
  repeat refine And.intro (by first | omega | exact ⟨by omega, by omega⟩ | exact ⟨by omega, by omega, by omega⟩ | exact ⟨⟨by omega, by omega⟩, by omega, by omega⟩ | exact okDyn_num (fun x => x.i) (by kernel_rfl) | kernel_rfl | exact okDyn_num (fun _ => 0) (by kernel_rfl)) ?_
  exact .bool (.inr rfl) rfl rfl (by simp [UpdAll, keys])
theorem skip2_ok {F : SF} {L nx : Nat} (d : Dat) (hd : d.ok = true) (a b : Nm) (ha : a.l ≤ L) (hb : b.l ≤ L) (ea eb : TypeId) (oa ob pa pb : Bool) (cum : Int) (hc : 0 ≤ cum) (hc2 : cum < 4294967296) (sk : PV) (ns : List Int) (hns : ns.length ≤ 1000) (hF : F a = some (.rows ea 2 oa pa [[.int .i64 cum, sk]])) (hG : F b = some (.rows eb 1 ob pb [[.fs 1 (ns.map eI)]])) :
    Con Try.prog 60 [.agg d.row, .ptr a 0 0, .ptr b 0 0] F L nx nx (.bool (skB cum ns d)) [] [a, b] := by
  refine Con.body (cxOk (L + 1)) rfl rfl (fn := Try.f60) (c := Try.f60.body.getD .skip) (by kernel_rfl) (by rfl) (by kernel_rfl) rfl  (by simp; omega) ?_
  intro F3 hF1 hF2
  have hF := (hF1 a (by simp)).trans hF
  have hG := (hF1 b (by simp)).trans hG
  have q1 := nm_out' ha
  have q2 := nm_out ha
  have q3 := nm_out' hb
  have q4 := nm_out hb
  obtain ⟨w1, w2, w3, w4, w5, w6, w7, w8⟩ := Dat.ok_bounds hd
  unfold skB
  have h7 : ns.contains d.tsn = ns.any fun z => d.tsn == z := List.contains_eq_any_beq
  cases h2 : d.lo with
  | false =>
    simp only [Try.f60, cx, Dat.row, hF, hG, q1, q2, q3, q4, h2, List.length_map, Nat.add_zero, go_sem, Meths.get, meths, Nat.reduceSub, Nat.reduceAdd, Nat.reduceMul, Nat.reduceEqDiff, Nat.reduceLT, Nat.reduceLeDiff, Nat.reduceBEq, Nat.reduceBNe, reduceIte, reduceCtorEq, Int.reduceToNat, String.reduceEq]
    repeat refine And.intro (by first | omega | exact ⟨by omega, by omega⟩ | exact ⟨by omega, by omega, by omega⟩ | exact ⟨⟨by omega, by omega⟩, by omega, by omega⟩ | exact okDyn_num (fun x => x.i) (by kernel_rfl) | kernel_rfl | exact okDyn_num (fun _ => 0) (by kernel_rfl)) ?_
    exact .bool (.inr rfl) rfl rfl (by simp [UpdAll, keys])
  | true =>
    simp only [Try.f60, cx, Dat.row, hF, hG, q1, q2, q3, q4, h2, List.length_map, Nat.add_zero, go_sem, Meths.get, meths, Nat.reduceSub, Nat.reduceAdd, Nat.reduceMul, Nat.reduceEqDiff, Nat.reduceLT, Nat.reduceLeDiff, Nat.reduceBEq, Nat.reduceBNe, reduceIte, reduceCtorEq, Int.reduceToNat, String.reduceEq]
    repeat refine And.intro (by first | omega | exact ⟨by omega, by omega⟩ | exact ⟨by omega, by omega, by omega⟩ | exact ⟨⟨by omega, by omega⟩, by omega, by omega⟩ | exact okDyn_num (fun x => x.i) (by kernel_rfl) | kernel_rfl | exact okDyn_num (fun _ => 0) (by kernel_rfl)) ?_
    refine CallVC.same (lead_ok d.tsn cum 32 (by omega) (by omega) w1 w2 hc hc2) ?_
    cases h3 : decide (lead d.tsn cum 32 ≤ 0) with
    | false =>
      simp only [Dat.row, hF, hG, q1, q2, q3, q4, h2, h3, List.length_map, Nat.add_zero, go_sem, Meths.get, meths, Nat.reduceSub, Nat.reduceAdd, Nat.reduceMul, Nat.reduceEqDiff, Nat.reduceLT, Nat.reduceLeDiff, Nat.reduceBEq, Nat.reduceBNe, reduceIte, reduceCtorEq, Int.reduceToNat, String.reduceEq]
      repeat refine And.intro (by first | omega | exact ⟨by omega, by omega⟩ | exact ⟨by omega, by omega, by omega⟩ | exact ⟨⟨by omega, by omega⟩, by omega, by omega⟩ | exact okDyn_num (fun x => x.i) (by kernel_rfl) | kernel_rfl | exact okDyn_num (fun _ => 0) (by kernel_rfl)) ?_
      exact .bool (.inr rfl) rfl rfl (by simp [UpdAll, keys])
    | true =>
      simp only [Dat.row, hF, hG, q1, q2, q3, q4, h2, h3, List.length_map, Nat.add_zero, go_sem, Meths.get, meths, Nat.reduceSub, Nat.reduceAdd, Nat.reduceMul, Nat.reduceEqDiff, Nat.reduceLT, Nat.reduceLeDiff, Nat.reduceBEq, Nat.reduceBNe, reduceIte, reduceCtorEq, Int.reduceToNat, String.reduceEq]
      repeat refine And.intro (by first | omega | exact ⟨by omega, by omega⟩ | exact ⟨by omega, by omega, by omega⟩ | exact ⟨⟨by omega, by omega⟩, by omega, by omega⟩ | exact okDyn_num (fun x => x.i) (by kernel_rfl) | kernel_rfl | exact okDyn_num (fun _ => 0) (by kernel_rfl)) ?_
      refine CallVC.same (contains_ok ns d.tsn (by omega)) ?_
      simp only [Dat.row, hF, hG, q1, q2, q3, q4, h2, h3, List.length_map, Nat.add_zero, go_sem, Meths.get, meths, Nat.reduceSub, Nat.reduceAdd, Nat.reduceMul, Nat.reduceEqDiff, Nat.reduceLT, Nat.reduceLeDiff, Nat.reduceBEq, Nat.reduceBNe, reduceIte, reduceCtorEq, Int.reduceToNat, String.reduceEq]
      repeat refine And.intro (by first | omega | exact ⟨by omega, by omega⟩ | exact ⟨by omega, by omega, by omega⟩ | exact ⟨⟨by omega, by omega⟩, by omega, by omega⟩ | exact okDyn_num (fun x => x.i) (by kernel_rfl) | kernel_rfl | exact okDyn_num (fun _ => 0) (by kernel_rfl)) ?_
      exact .bool (.inr rfl) rfl (by rw [show List.elem d.tsn ns = ns.contains d.tsn from rfl, h7]) (by simp [UpdAll, keys])
end Go.Proofs.Ytfhhbkehlfipgaa
end

section
set_option linter.unusedSimpArgs false
set_option linter.unusedVariables false
set_option linter.unnecessarySimpa false
set_option linter.unusedSectionVars false
namespace Go.Proofs.Ytfhhbkehlfipgaa
open Go.Tx
set_option maxRecDepth 100000
set_option maxHeartbeats 16000000
set_option linter.unusedSimpArgs false
set_option linter.unusedVariables false
/-! state.cut -/
theorem idx_getT : ∀ (ps : List Dat) (t : Int), (getT ps t = none ∧ idxI (fun d => d.tsn == t) ps = -1) ∨ (∃ i : Nat, ∃ h : i < ps.length, getT ps t = some ps[i] ∧ idxI (fun d => d.tsn == t) ps = i) := by
  intro ps t
  cases hg : getT ps t with
  | none =>
    left
    refine ⟨rfl, idxI_end fun j hj => ?_⟩
    unfold getT at hg
    rw [List.find?_eq_none] at hg
    simpa using hg _ (List.getElem_mem hj)
  | some d =>
    right
    unfold getT at hg
    rw [List.find?_eq_some_iff_getElem] at hg
    obtain ⟨h1, i, hi, h2, h3⟩ := hg
    exact ⟨i, hi, by rw [h2], idxI_stop hi (fun j hj hji => by simpa using h3 j hji) (by rw [h2]; exact h1)⟩
structure CutX where
  i : Nat
  q : Nat
  c : Nat
  t : Int
  d : Dat
  ns : List Int
def cutI (ps : List Dat) (cum : Int) (z : CutX) : Prop :=
  z.ns.length = z.i ∧ z.ns.Nodup ∧ (∀ x ∈ z.ns, x ∈ ps.map Dat.tsn) ∧ 0 ≤ z.t ∧ z.t < 4294967296 ∧ cutS ps (ps.length + 1 - z.i) z.t z.d z.ns = cutG ps cum ∧
  128 ≤ z.c ∧ 192 ≤ z.q ∧ z.q ≠ z.c ∧ z.c < 10000 * (z.i + 1) ∧ z.q < 10000 * (z.i + 1)
theorem cut_ok {F : SF} {L nx : Nat} (n : Nm) (hn : n.l ≤ L) (o p : Bool) (out inn num seen asked : PV) (ps : List Dat) (hlen : ps.length ≤ 80) (hall : ∀ x ∈ ps, x.ok = true) (cum : Int) (hc0 : 0 ≤ cum) (hc1 : cum < 4294967296)
    (hF : F n = some (.rows 106 6 o p [[out, inn, .fs 8 (ps.map Dat.row), num, seen, asked]])) :
    Con Try.prog 59 [.ptr n 0 0, .int .i64 cum] F L nx nx (.fs 1 ((cutG ps cum).map eI)) [] [n] := by
  refine Con.body (cxOk (L + 1)) rfl rfl (fn := Try.f59) (c := Try.f59.body.getD .skip) (by kernel_rfl) (by rfl) (by kernel_rfl) rfl  (by simpa using hn) ?_
  intro F3 hF1 hF2
  have hF := (hF1 n (by simp)).trans hF
  have q5 := nm_out' hn
  have q6 := nm_out hn
  simp only [Try.f59, cx, hF, q5, q6, nm_beq, Nat.reduceBEq, nB, nB', nS2, nS2', Nat.add_assoc, Nat.reduceAdd, Nat.add_zero, go_sem, Meths.get, meths, Nat.reduceSub, Nat.reduceAdd, Nat.reduceMul, Nat.reduceEqDiff, Nat.reduceLT, Nat.reduceLeDiff, Nat.reduceBEq, Nat.reduceBNe, reduceIte, reduceCtorEq, Int.reduceToNat, String.reduceEq]
  refine loopK.intro _ _ (I := fun z : CutX => ⟨[some (.ptr n 0 0), none, none, none, none, some (.sl ⟨L + 1, z.q⟩ 0 z.ns.length), some (.ptr ⟨L + 1, 64⟩ 0 0), some (.ptr ⟨L + 1, z.c⟩ 0 0), none, none, none, none, none, none, none, none, none, none, none, none, none, none, none, none, none, none, none, none, none, none, none, none, none, none, none, none, none, none, none, none, none, none, none, none, none, none, none, none, none, none, none, none, none, none, none, none, none, none, none, none, none, none, none, none, none, none, none, none, none, none, none, none, none, none, none, none, none, none, none, none],
    [(⟨L + 1, 64⟩, .rows 43 8 true true [z.d.row]), (⟨L + 1, z.c⟩, .rows 3 1 true true [[.int .i64 z.t]]), (⟨L + 1, z.q⟩, .rows 3 1 true true (z.ns.map eI))], 10000 * (z.i + 1)⟩)
    (pre := cutI ps cum) (μ := fun z => ps.length + 1 - z.i) ⟨0, 192, 128, cum, datZ, []⟩ ⟨rfl, by simp, by simp, hc0, hc1, rfl, by simp, by simp, by simp, by simp, by simp⟩ ?_ ?_
  · refine Sub.trans (Sub.nilName 5 3 (wd := 1) (by omega) rfl) ?_
    refine Sub.of (fun n hn => hF2 n (by have : n.l = L + 1 := hn; omega)) (by simp only [List.length_nil, go_sem, resVal, resVals, resVal1, one, Wk, WkL, WkLL, wkN, wkNL, wkNLL, UpdIn, UpdAll, BW, plainP, plainPL, subT, subH, subK, and_self, true_or, or_true, List.not_mem_nil, List.mem_cons, forall_eq, imp_self, implies_true, Nat.reduceSub, Nat.reduceAdd, Nat.reduceMul, Nat.reduceEqDiff, Nat.reduceLT, Nat.reduceLeDiff, Nat.reduceBEq, Nat.reduceBNe, reduceIte, reduceCtorEq, Int.reduceToNat, String.reduceEq]) ?_ (by simp [subK, keys, updH, setH]) (by simp)
    simp [subH, Tx.look, updH, setH, datZ, Dat.row]
  · rintro ⟨i, q, c, t, b, ns⟩ ⟨h1, h2, h3, h4, h5, h6, k1, k2, k3, k4, k5⟩
    simp only at h1 h2 h3 h4 h5 h6 k1 k2 k3 k4 k5 ⊢
    have hil : i ≤ ps.length := by
      have := nodup_sub h2 h3
      simp at this; omega
    have c_64 : (c = 64) = False := by apply eq_false; omega
    have n64_c : (64 = c) = False := by apply eq_false; omega
    have c_n1 : ∀ kk, (10000 * (i + 1) + kk = c) = False := fun kk => by apply eq_false; omega
    have c_n2 : ∀ kk, (c = 10000 * (i + 1) + kk) = False := fun kk => by apply eq_false; omega
    have c_n3 : (10000 * (i + 1) = c) = False := by apply eq_false; omega
    have c_n4 : (c = 10000 * (i + 1)) = False := by apply eq_false; omega
    have c_n5 : ∀ kk, ((⟨L + 1, c⟩ : Nm) == ⟨L + 1, 10000 * (i + 1) + kk⟩) = false := fun kk => by simp; omega
    have q_0 : (q = 0) = False := by apply eq_false; omega
    have n0_q : (0 = q) = False := by apply eq_false; omega
    have q_64 : (q = 64) = False := by apply eq_false; omega
    have n64_q : (64 = q) = False := by apply eq_false; omega
    have q_c : (q = c) = False := by apply eq_false; omega
    have nc_q : (c = q) = False := by apply eq_false; omega
    have q_n1 : ∀ kk, (10000 * (i + 1) + kk = q) = False := fun kk => by apply eq_false; omega
    have q_n2 : ∀ kk, (q = 10000 * (i + 1) + kk) = False := fun kk => by apply eq_false; omega
    have q_n3 : (10000 * (i + 1) = q) = False := by apply eq_false; omega
    have q_n4 : (q = 10000 * (i + 1)) = False := by apply eq_false; omega
    have q_n5 : ∀ kk, ((⟨L + 1, q⟩ : Nm) == ⟨L + 1, 10000 * (i + 1) + kk⟩) = false := fun kk => by simp; omega
    simp only [q5, q6, hF, Dat.row, q_0, n0_q, q_64, n64_q, q_c, nc_q, q_n1, q_n2, q_n3, q_n4, q_n5, c_64, n64_c, c_n1, c_n2, c_n3, c_n4, c_n5, nm_beq, Nat.reduceBEq, nB, nB', nS2, nS2', Nat.add_assoc, Nat.reduceAdd, List.length_map, Nat.add_zero, go_sem, Meths.get, meths, Nat.reduceSub, Nat.reduceAdd, Nat.reduceMul, Nat.reduceEqDiff, Nat.reduceLT, Nat.reduceLeDiff, Nat.reduceBEq, Nat.reduceBNe, reduceIte, reduceCtorEq, Int.reduceToNat, String.reduceEq]
    refine CallVC.same (indexFuncD_ok ps 89 [] [.ptr ⟨L + 1, c⟩ 0 0] (fun d => d.tsn == t) [⟨L + 1, c⟩] (by simp) (by omega) (fun x hx L' nx' hL => cut1_ok x ⟨L + 1, c⟩ hL 3 true true t (by simp [q5, q6, hF, Dat.row, q_0, n0_q, q_64, n64_q, q_c, nc_q, q_n1, q_n2, q_n3, q_n4, q_n5, c_64, n64_c, c_n1, c_n2, c_n3, c_n4, c_n5]))) ?_
    obtain ⟨k, hk⟩ : ∃ k, ps.length + 1 - i = k + 1 := ⟨ps.length - i, by omega⟩
    rw [hk, cutS] at h6
    rcases idx_getT ps t with ⟨g0, e0⟩ | ⟨j, hj, g0, e0⟩
    · rw [g0] at h6
      simp only at h6
      rw [e0, ← h6]
      have f1 : decide ((-1 : Int) < 0) = true := rfl
      simp only [f1, q5, q6, hF, Dat.row, q_0, n0_q, q_64, n64_q, q_c, nc_q, q_n1, q_n2, q_n3, q_n4, q_n5, c_64, n64_c, c_n1, c_n2, c_n3, c_n4, c_n5, nm_beq, Nat.reduceBEq, nB, nB', nS2, nS2', Nat.add_assoc, Nat.reduceAdd, List.length_map, Nat.add_zero, go_sem, Meths.get, meths, Nat.reduceSub, Nat.reduceAdd, Nat.reduceMul, Nat.reduceEqDiff, Nat.reduceLT, Nat.reduceLeDiff, Nat.reduceBEq, Nat.reduceBNe, reduceIte, reduceCtorEq, Int.reduceToNat, String.reduceEq]
      exact PostF.of (p := True) (v0 := .nilS) (.inr rfl) (by simp only [resVal, resVals, resVal1, one, Nat.add_zero, go_sem, Meths.get, meths, Nat.reduceSub, Nat.reduceAdd, Nat.reduceMul, Nat.reduceEqDiff, Nat.reduceLT, Nat.reduceLeDiff, Nat.reduceBEq, Nat.reduceBNe, reduceIte, reduceCtorEq, Int.reduceToNat, String.reduceEq]) trivial (by simp [Wk, WkL, Tx.look, List.take_of_length_le, nB, nB']) (by simp [wkN, wkNL]) (by simp [Tx.nf, nfl]) trivial (by simp [UpdAll, keys])
    · rw [g0] at h6
      simp only at h6
      rw [e0]
      have f1 : decide ((j : Int) < 0) = false := dF (by omega)
      have r0 := rowD' hj
      obtain ⟨d, hd⟩ : ∃ d, d = ps[j] := ⟨_, rfl⟩
      have hdm : d ∈ ps := by rw [hd]; exact List.getElem_mem hj
      have hdt : d.tsn = t := (getT_mem g0).2 ▸ by rw [hd]
      rw [← hd] at h6 r0
      cases hla : d.la with
      | true =>
        rw [hla] at h6
        simp only [Bool.true_or, if_true] at h6
        rw [← h6]
        simp only [f1, r0, hla, Int.toNat_natCast, q5, q6, hF, Dat.row, q_0, n0_q, q_64, n64_q, q_c, nc_q, q_n1, q_n2, q_n3, q_n4, q_n5, c_64, n64_c, c_n1, c_n2, c_n3, c_n4, c_n5, nm_beq, Nat.reduceBEq, nB, nB', nS2, nS2', Nat.add_assoc, Nat.reduceAdd, List.length_map, Nat.add_zero, go_sem, Meths.get, meths, Nat.reduceSub, Nat.reduceAdd, Nat.reduceMul, Nat.reduceEqDiff, Nat.reduceLT, Nat.reduceLeDiff, Nat.reduceBEq, Nat.reduceBNe, reduceIte, reduceCtorEq, Int.reduceToNat, String.reduceEq]
        repeat refine And.intro (by first | omega | exact ⟨by omega, by omega⟩ | exact ⟨by omega, by omega, by omega⟩ | exact ⟨⟨by omega, by omega⟩, by omega, by omega⟩ | exact okDyn_num (fun x => x.i) (by kernel_rfl) | kernel_rfl | exact okDyn_num (fun _ => 0) (by kernel_rfl)) ?_
        exact PostF.of (p := True) (v0 := .nilS) (.inr rfl) (by simp only [resVal, resVals, resVal1, one, Nat.add_zero, go_sem, Meths.get, meths, Nat.reduceSub, Nat.reduceAdd, Nat.reduceMul, Nat.reduceEqDiff, Nat.reduceLT, Nat.reduceLeDiff, Nat.reduceBEq, Nat.reduceBNe, reduceIte, reduceCtorEq, Int.reduceToNat, String.reduceEq]) trivial (by simp [Wk, WkL, Tx.look, List.take_of_length_le, nB, nB']) (by simp [wkN, wkNL]) (by simp [Tx.nf, nfl]) trivial (by simp [UpdAll, keys])
      | false =>
        rw [hla] at h6
        simp only [Bool.false_or] at h6
        simp only [f1, r0, hla, Int.toNat_natCast, q5, q6, hF, Dat.row, q_0, n0_q, q_64, n64_q, q_c, nc_q, q_n1, q_n2, q_n3, q_n4, q_n5, c_64, n64_c, c_n1, c_n2, c_n3, c_n4, c_n5, nm_beq, Nat.reduceBEq, nB, nB', nS2, nS2', Nat.add_assoc, Nat.reduceAdd, List.length_map, Nat.add_zero, go_sem, Meths.get, meths, Nat.reduceSub, Nat.reduceAdd, Nat.reduceMul, Nat.reduceEqDiff, Nat.reduceLT, Nat.reduceLeDiff, Nat.reduceBEq, Nat.reduceBNe, reduceIte, reduceCtorEq, Int.reduceToNat, String.reduceEq]
        repeat refine And.intro (by first | omega | exact ⟨by omega, by omega⟩ | exact ⟨by omega, by omega, by omega⟩ | exact ⟨⟨by omega, by omega⟩, by omega, by omega⟩ | exact okDyn_num (fun x => x.i) (by kernel_rfl) | kernel_rfl | exact okDyn_num (fun _ => 0) (by kernel_rfl)) ?_
        refine CallVC.pure (args2 := [.fs 1 (ns.map eI), _]) ⟨by simp [Wk, q5, q6, hF, Dat.row, q_0, n0_q, q_64, n64_q, q_c, nc_q, q_n1, q_n2, q_n3, q_n4, q_n5, c_64, n64_c, c_n1, c_n2, c_n3, c_n4, c_n5, List.take_of_length_le], rfl, trivial⟩ (contains_ok ns t (by omega)) rfl ?_
        have h7 : ns.contains t = ns.any fun z => t == z := List.contains_eq_any_beq
        cases h8 : ns.any fun z => t == z with
        | true =>
          rw [h7, h8] at h6
          simp only [if_true] at h6
          rw [← h6]
          simp only [f1, r0, hla, h8, Int.toNat_natCast, q5, q6, hF, Dat.row, q_0, n0_q, q_64, n64_q, q_c, nc_q, q_n1, q_n2, q_n3, q_n4, q_n5, c_64, n64_c, c_n1, c_n2, c_n3, c_n4, c_n5, nm_beq, Nat.reduceBEq, nB, nB', nS2, nS2', Nat.add_assoc, Nat.reduceAdd, List.length_map, Nat.add_zero, go_sem, Meths.get, meths, Nat.reduceSub, Nat.reduceAdd, Nat.reduceMul, Nat.reduceEqDiff, Nat.reduceLT, Nat.reduceLeDiff, Nat.reduceBEq, Nat.reduceBNe, reduceIte, reduceCtorEq, Int.reduceToNat, String.reduceEq]
          repeat refine And.intro (by first | omega | exact ⟨by omega, by omega⟩ | exact ⟨by omega, by omega, by omega⟩ | exact ⟨⟨by omega, by omega⟩, by omega, by omega⟩ | exact okDyn_num (fun x => x.i) (by kernel_rfl) | kernel_rfl | exact okDyn_num (fun _ => 0) (by kernel_rfl)) ?_
          exact PostF.of (p := True) (v0 := .nilS) (.inr rfl) (by simp only [resVal, resVals, resVal1, one, Nat.add_zero, go_sem, Meths.get, meths, Nat.reduceSub, Nat.reduceAdd, Nat.reduceMul, Nat.reduceEqDiff, Nat.reduceLT, Nat.reduceLeDiff, Nat.reduceBEq, Nat.reduceBNe, reduceIte, reduceCtorEq, Int.reduceToNat, String.reduceEq]) trivial (by simp [Wk, WkL, Tx.look, List.take_of_length_le, nB, nB']) (by simp [wkN, wkNL]) (by simp [Tx.nf, nfl]) trivial (by simp [UpdAll, keys])
        | false =>
          rw [h7, h8] at h6
          simp only [if_false, Bool.false_eq_true] at h6
          have hnd' : (ns ++ [t]).Nodup := by
            rw [List.nodup_append]
            refine ⟨h2, by simp, fun a ha b hb => ?_⟩
            simp at hb
            intro hab
            have : ns.any (fun z => t == z) = true := List.any_eq_true.2 ⟨a, ha, by simp [hab, hb]⟩
            rw [h8] at this; cases this
          have hns' : ∀ n ∈ ns ++ [t], n ∈ ps.map Dat.tsn := by
            intro n hn'
            rcases List.mem_append.1 hn' with h | h
            · exact h3 n h
            · simp at h; subst h; exact List.mem_map.2 ⟨d, hdm, hdt⟩
          have e9 : decide ((0 : Int) < (ns.length : Int)) = decide (0 < ns.length) := by simp
          have e10 : (d.lo != b.lo) = !(d.lo == b.lo) := rfl
          have e11 : Go.Sx.ibits .and .i64 (t - 1) 4294967295 = (t - 1) % 4294967296 := and_mask (t - 1) 32 (by omega)
          rw [e10] at h6
          have key : (decide (0 < ns.length) && (d.st != b.st || d.sq != b.sq || !(d.lo == b.lo))) = false → ns.length + 1 ≤ ps.length + 1 := fun _ => by omega
          cases h9 : decide (0 < ns.length) with
          | false =>
            rw [h9] at h6 e9
            simp only [Bool.false_and, if_false, Bool.false_eq_true] at h6
            cases hfi : d.fi with
            | true =>
              rw [hfi] at h6
              simp only [if_true] at h6
              rw [← h6]
              simp only [f1, r0, hla, h8, e9, hfi, Int.toNat_natCast, q5, q6, hF, Dat.row, q_0, n0_q, q_64, n64_q, q_c, nc_q, q_n1, q_n2, q_n3, q_n4, q_n5, c_64, n64_c, c_n1, c_n2, c_n3, c_n4, c_n5, nm_beq, Nat.reduceBEq, nB, nB', nS2, nS2', Nat.add_assoc, Nat.reduceAdd, List.length_map, Nat.add_zero, go_sem, Meths.get, meths, Nat.reduceSub, Nat.reduceAdd, Nat.reduceMul, Nat.reduceEqDiff, Nat.reduceLT, Nat.reduceLeDiff, Nat.reduceBEq, Nat.reduceBNe, reduceIte, reduceCtorEq, Int.reduceToNat, String.reduceEq]
              repeat refine And.intro (by first | omega | exact ⟨by omega, by omega⟩ | exact ⟨by omega, by omega, by omega⟩ | exact ⟨⟨by omega, by omega⟩, by omega, by omega⟩ | exact okS (by kernel_rfl)) ?_
              refine ⟨okDyn_num (fun x => if x.i = q then 1 else if x.i = c then 2 else x.i % 10000 + 100) (by simp only [numF, List.map, q_0, n0_q, q_64, n64_q, q_c, nc_q, q_n1, q_n2, q_n3, q_n4, q_n5, c_64, n64_c, c_n1, c_n2, c_n3, c_n4, c_n5, if_true, if_false, Nat.mul_add_mod, Nat.reduceMod]; kernel_rfl), ?_⟩
              exact PostF.of (p := True) (v0 := .sl ⟨L + 1, 10000 * (i + 1) + 1344⟩ 0 (ns.length + 1) ) (.inr rfl) (by simp only [resVal, resVals, resVal1, one, Nat.add_zero, go_sem, Meths.get, meths, Nat.reduceSub, Nat.reduceAdd, Nat.reduceMul, Nat.reduceEqDiff, Nat.reduceLT, Nat.reduceLeDiff, Nat.reduceBEq, Nat.reduceBNe, reduceIte, reduceCtorEq, Int.reduceToNat, String.reduceEq]) trivial (by simp [Wk, WkL, Tx.look, List.take_of_length_le, nB, nB', eI, q_n1, c_n1, nm_beq, Nat.reduceBEq, nS2, nS2', Nat.add_assoc]) (by simp [wkN, wkNL]) (by simp [Tx.nf, nfl]) trivial (by simp [UpdAll, keys])
            | false =>
              rw [hfi] at h6
              simp only [if_false, Bool.false_eq_true] at h6
              simp only [f1, r0, hla, h8, e9, hfi, Int.toNat_natCast, q5, q6, hF, Dat.row, q_0, n0_q, q_64, n64_q, q_c, nc_q, q_n1, q_n2, q_n3, q_n4, q_n5, c_64, n64_c, c_n1, c_n2, c_n3, c_n4, c_n5, nm_beq, Nat.reduceBEq, nB, nB', nS2, nS2', Nat.add_assoc, Nat.reduceAdd, List.length_map, Nat.add_zero, go_sem, Meths.get, meths, Nat.reduceSub, Nat.reduceAdd, Nat.reduceMul, Nat.reduceEqDiff, Nat.reduceLT, Nat.reduceLeDiff, Nat.reduceBEq, Nat.reduceBNe, reduceIte, reduceCtorEq, Int.reduceToNat, String.reduceEq]
              repeat refine And.intro (by first | omega | exact ⟨by omega, by omega⟩ | exact ⟨by omega, by omega, by omega⟩ | exact ⟨⟨by omega, by omega⟩, by omega, by omega⟩ | exact okS (by kernel_rfl)) ?_
              refine ⟨okDyn_num (fun x => if x.i = q then 1 else if x.i = c then 2 else x.i % 10000 + 100) (by simp only [numF, List.map, q_0, n0_q, q_64, n64_q, q_c, nc_q, q_n1, q_n2, q_n3, q_n4, q_n5, c_64, n64_c, c_n1, c_n2, c_n3, c_n4, c_n5, if_true, if_false, Nat.mul_add_mod, Nat.reduceMod]; kernel_rfl), ⟨by omega, by omega⟩, ⟨i + 1, 10000 * (i + 1) + 1344, 10000 * (i + 1) + 1568, (t - 1) % 4294967296, d, ns ++ [t]⟩, ⟨by simp; omega, hnd', hns', by simp only []; omega, by simp only []; omega, by rw [← h6]; show cutS ps (ps.length + 1 - (i + 1)) _ _ _ = _; rw [show ps.length + 1 - (i + 1) = k by omega], by simp only []; omega, by simp only []; omega, by simp only []; omega, by simp only []; omega, by simp only []; omega⟩, by simp only []; omega, ?_⟩
              refine Sub.of (fun n hn => hF2 n (by have : n.l = L + 1 := hn; omega)) (by simp only [List.length_append, List.length_cons, List.length_nil, e11, go_sem, resVal, resVals, resVal1, one, Wk, WkL, WkLL, wkN, wkNL, wkNLL, UpdIn, UpdAll, BW, plainP, plainPL, subT, subH, subK, and_self, true_or, or_true, List.not_mem_nil, List.mem_cons, forall_eq, imp_self, implies_true, Nat.reduceSub, Nat.reduceAdd, Nat.reduceMul, Nat.reduceEqDiff, Nat.reduceLT, Nat.reduceLeDiff, Nat.reduceBEq, Nat.reduceBNe, reduceIte, reduceCtorEq, Int.reduceToNat, String.reduceEq]) ?_ (by simp [subK, keys]) (by simp only []; omega)
              simp [subH, Tx.look, eI, e11, hfi, hla, q5, q6, hF, Dat.row, q_0, n0_q, q_64, n64_q, q_c, nc_q, q_n1, q_n2, q_n3, q_n4, q_n5, c_64, n64_c, c_n1, c_n2, c_n3, c_n4, c_n5, nm_beq, Nat.reduceBEq, nB, nB', nS2, nS2', Nat.add_assoc, Nat.reduceAdd]
          | true =>
            rw [h9] at h6 e9
            simp only [Bool.true_and] at h6
            cases h11 : d.st != b.st with
            | true =>
              rw [h11] at h6
              simp only [Bool.true_or, if_true] at h6
              rw [← h6]
              simp only [f1, r0, hla, h8, e9, h11, Int.toNat_natCast, q5, q6, hF, Dat.row, q_0, n0_q, q_64, n64_q, q_c, nc_q, q_n1, q_n2, q_n3, q_n4, q_n5, c_64, n64_c, c_n1, c_n2, c_n3, c_n4, c_n5, nm_beq, Nat.reduceBEq, nB, nB', nS2, nS2', Nat.add_assoc, Nat.reduceAdd, List.length_map, Nat.add_zero, go_sem, Meths.get, meths, Nat.reduceSub, Nat.reduceAdd, Nat.reduceMul, Nat.reduceEqDiff, Nat.reduceLT, Nat.reduceLeDiff, Nat.reduceBEq, Nat.reduceBNe, reduceIte, reduceCtorEq, Int.reduceToNat, String.reduceEq]
              repeat refine And.intro (by first | omega | exact ⟨by omega, by omega⟩ | exact ⟨by omega, by omega, by omega⟩ | exact ⟨⟨by omega, by omega⟩, by omega, by omega⟩ | exact okDyn_num (fun x => x.i) (by kernel_rfl) | kernel_rfl | exact okDyn_num (fun _ => 0) (by kernel_rfl)) ?_
              exact PostF.of (p := True) (v0 := .nilS) (.inr rfl) (by simp only [resVal, resVals, resVal1, one, Nat.add_zero, go_sem, Meths.get, meths, Nat.reduceSub, Nat.reduceAdd, Nat.reduceMul, Nat.reduceEqDiff, Nat.reduceLT, Nat.reduceLeDiff, Nat.reduceBEq, Nat.reduceBNe, reduceIte, reduceCtorEq, Int.reduceToNat, String.reduceEq]) trivial (by simp [Wk, WkL, Tx.look, List.take_of_length_le, nB, nB']) (by simp [wkN, wkNL]) (by simp [Tx.nf, nfl]) trivial (by simp [UpdAll, keys])
            | false =>
              rw [h11] at h6
              simp only [Bool.false_or] at h6
              cases h12 : d.sq != b.sq with
              | true =>
                rw [h12] at h6
                simp only [Bool.true_or, if_true] at h6
                rw [← h6]
                simp only [f1, r0, hla, h8, e9, h11, h12, Int.toNat_natCast, q5, q6, hF, Dat.row, q_0, n0_q, q_64, n64_q, q_c, nc_q, q_n1, q_n2, q_n3, q_n4, q_n5, c_64, n64_c, c_n1, c_n2, c_n3, c_n4, c_n5, nm_beq, Nat.reduceBEq, nB, nB', nS2, nS2', Nat.add_assoc, Nat.reduceAdd, List.length_map, Nat.add_zero, go_sem, Meths.get, meths, Nat.reduceSub, Nat.reduceAdd, Nat.reduceMul, Nat.reduceEqDiff, Nat.reduceLT, Nat.reduceLeDiff, Nat.reduceBEq, Nat.reduceBNe, reduceIte, reduceCtorEq, Int.reduceToNat, String.reduceEq]
                repeat refine And.intro (by first | omega | exact ⟨by omega, by omega⟩ | exact ⟨by omega, by omega, by omega⟩ | exact ⟨⟨by omega, by omega⟩, by omega, by omega⟩ | exact okDyn_num (fun x => x.i) (by kernel_rfl) | kernel_rfl | exact okDyn_num (fun _ => 0) (by kernel_rfl)) ?_
                exact PostF.of (p := True) (v0 := .nilS) (.inr rfl) (by simp only [resVal, resVals, resVal1, one, Nat.add_zero, go_sem, Meths.get, meths, Nat.reduceSub, Nat.reduceAdd, Nat.reduceMul, Nat.reduceEqDiff, Nat.reduceLT, Nat.reduceLeDiff, Nat.reduceBEq, Nat.reduceBNe, reduceIte, reduceCtorEq, Int.reduceToNat, String.reduceEq]) trivial (by simp [Wk, WkL, Tx.look, List.take_of_length_le, nB, nB']) (by simp [wkN, wkNL]) (by simp [Tx.nf, nfl]) trivial (by simp [UpdAll, keys])
              | false =>
                rw [h12] at h6
                simp only [Bool.false_or] at h6
                cases h13 : d.lo == b.lo with
                | false =>
                  rw [h13] at h6
                  simp only [Bool.not_false, if_true] at h6
                  rw [← h6]
                  simp only [f1, r0, hla, h8, e9, h11, h12, h13, Int.toNat_natCast, q5, q6, hF, Dat.row, q_0, n0_q, q_64, n64_q, q_c, nc_q, q_n1, q_n2, q_n3, q_n4, q_n5, c_64, n64_c, c_n1, c_n2, c_n3, c_n4, c_n5, nm_beq, Nat.reduceBEq, nB, nB', nS2, nS2', Nat.add_assoc, Nat.reduceAdd, List.length_map, Nat.add_zero, go_sem, Meths.get, meths, Nat.reduceSub, Nat.reduceAdd, Nat.reduceMul, Nat.reduceEqDiff, Nat.reduceLT, Nat.reduceLeDiff, Nat.reduceBEq, Nat.reduceBNe, reduceIte, reduceCtorEq, Int.reduceToNat, String.reduceEq]
                  repeat refine And.intro (by first | omega | exact ⟨by omega, by omega⟩ | exact ⟨by omega, by omega, by omega⟩ | exact ⟨⟨by omega, by omega⟩, by omega, by omega⟩ | exact okDyn_num (fun x => x.i) (by kernel_rfl) | kernel_rfl | exact okDyn_num (fun _ => 0) (by kernel_rfl)) ?_
                  exact PostF.of (p := True) (v0 := .nilS) (.inr rfl) (by simp only [resVal, resVals, resVal1, one, Nat.add_zero, go_sem, Meths.get, meths, Nat.reduceSub, Nat.reduceAdd, Nat.reduceMul, Nat.reduceEqDiff, Nat.reduceLT, Nat.reduceLeDiff, Nat.reduceBEq, Nat.reduceBNe, reduceIte, reduceCtorEq, Int.reduceToNat, String.reduceEq]) trivial (by simp [Wk, WkL, Tx.look, List.take_of_length_le, nB, nB']) (by simp [wkN, wkNL]) (by simp [Tx.nf, nfl]) trivial (by simp [UpdAll, keys])
                | true =>
                  rw [h13] at h6
                  simp only [Bool.not_true, if_false, Bool.false_eq_true] at h6
                  cases hfi : d.fi with
                  | true =>
                    rw [hfi] at h6
                    simp only [if_true] at h6
                    rw [← h6]
                    simp only [f1, r0, hla, h8, e9, h11, h12, h13, hfi, Int.toNat_natCast, q5, q6, hF, Dat.row, q_0, n0_q, q_64, n64_q, q_c, nc_q, q_n1, q_n2, q_n3, q_n4, q_n5, c_64, n64_c, c_n1, c_n2, c_n3, c_n4, c_n5, nm_beq, Nat.reduceBEq, nB, nB', nS2, nS2', Nat.add_assoc, Nat.reduceAdd, List.length_map, Nat.add_zero, go_sem, Meths.get, meths, Nat.reduceSub, Nat.reduceAdd, Nat.reduceMul, Nat.reduceEqDiff, Nat.reduceLT, Nat.reduceLeDiff, Nat.reduceBEq, Nat.reduceBNe, reduceIte, reduceCtorEq, Int.reduceToNat, String.reduceEq]
                    repeat refine And.intro (by first | omega | exact ⟨by omega, by omega⟩ | exact ⟨by omega, by omega, by omega⟩ | exact ⟨⟨by omega, by omega⟩, by omega, by omega⟩ | exact okS (by kernel_rfl)) ?_
                    refine ⟨okDyn_num (fun x => if x.i = q then 1 else if x.i = c then 2 else x.i % 10000 + 100) (by simp only [numF, List.map, q_0, n0_q, q_64, n64_q, q_c, nc_q, q_n1, q_n2, q_n3, q_n4, q_n5, c_64, n64_c, c_n1, c_n2, c_n3, c_n4, c_n5, if_true, if_false, Nat.mul_add_mod, Nat.reduceMod]; kernel_rfl), ?_⟩
                    exact PostF.of (p := True) (v0 := .sl ⟨L + 1, 10000 * (i + 1) + 1952⟩ 0 (ns.length + 1) ) (.inr rfl) (by simp only [resVal, resVals, resVal1, one, Nat.add_zero, go_sem, Meths.get, meths, Nat.reduceSub, Nat.reduceAdd, Nat.reduceMul, Nat.reduceEqDiff, Nat.reduceLT, Nat.reduceLeDiff, Nat.reduceBEq, Nat.reduceBNe, reduceIte, reduceCtorEq, Int.reduceToNat, String.reduceEq]) trivial (by simp [Wk, WkL, Tx.look, List.take_of_length_le, nB, nB', eI, q_n1, c_n1, nm_beq, Nat.reduceBEq, nS2, nS2', Nat.add_assoc]) (by simp [wkN, wkNL]) (by simp [Tx.nf, nfl]) trivial (by simp [UpdAll, keys])
                  | false =>
                    rw [hfi] at h6
                    simp only [if_false, Bool.false_eq_true] at h6
                    simp only [f1, r0, hla, h8, e9, h11, h12, h13, hfi, Int.toNat_natCast, q5, q6, hF, Dat.row, q_0, n0_q, q_64, n64_q, q_c, nc_q, q_n1, q_n2, q_n3, q_n4, q_n5, c_64, n64_c, c_n1, c_n2, c_n3, c_n4, c_n5, nm_beq, Nat.reduceBEq, nB, nB', nS2, nS2', Nat.add_assoc, Nat.reduceAdd, List.length_map, Nat.add_zero, go_sem, Meths.get, meths, Nat.reduceSub, Nat.reduceAdd, Nat.reduceMul, Nat.reduceEqDiff, Nat.reduceLT, Nat.reduceLeDiff, Nat.reduceBEq, Nat.reduceBNe, reduceIte, reduceCtorEq, Int.reduceToNat, String.reduceEq]
                    repeat refine And.intro (by first | omega | exact ⟨by omega, by omega⟩ | exact ⟨by omega, by omega, by omega⟩ | exact ⟨⟨by omega, by omega⟩, by omega, by omega⟩ | exact okS (by kernel_rfl)) ?_
                    refine ⟨okDyn_num (fun x => if x.i = q then 1 else if x.i = c then 2 else x.i % 10000 + 100) (by simp only [numF, List.map, q_0, n0_q, q_64, n64_q, q_c, nc_q, q_n1, q_n2, q_n3, q_n4, q_n5, c_64, n64_c, c_n1, c_n2, c_n3, c_n4, c_n5, if_true, if_false, Nat.mul_add_mod, Nat.reduceMod]; kernel_rfl), ⟨by omega, by omega⟩, ⟨i + 1, 10000 * (i + 1) + 1952, 10000 * (i + 1) + 2176, (t - 1) % 4294967296, d, ns ++ [t]⟩, ⟨by simp; omega, hnd', hns', by simp only []; omega, by simp only []; omega, by rw [← h6]; show cutS ps (ps.length + 1 - (i + 1)) _ _ _ = _; rw [show ps.length + 1 - (i + 1) = k by omega], by simp only []; omega, by simp only []; omega, by simp only []; omega, by simp only []; omega, by simp only []; omega⟩, by simp only []; omega, ?_⟩
                    refine Sub.of (fun n hn => hF2 n (by have : n.l = L + 1 := hn; omega)) (by simp only [List.length_append, List.length_cons, List.length_nil, e11, go_sem, resVal, resVals, resVal1, one, Wk, WkL, WkLL, wkN, wkNL, wkNLL, UpdIn, UpdAll, BW, plainP, plainPL, subT, subH, subK, and_self, true_or, or_true, List.not_mem_nil, List.mem_cons, forall_eq, imp_self, implies_true, Nat.reduceSub, Nat.reduceAdd, Nat.reduceMul, Nat.reduceEqDiff, Nat.reduceLT, Nat.reduceLeDiff, Nat.reduceBEq, Nat.reduceBNe, reduceIte, reduceCtorEq, Int.reduceToNat, String.reduceEq]) ?_ (by simp [subK, keys]) (by simp only []; omega)
                    simp [subH, Tx.look, eI, e11, hfi, hla, q5, q6, hF, Dat.row, q_0, n0_q, q_64, n64_q, q_c, nc_q, q_n1, q_n2, q_n3, q_n4, q_n5, c_64, n64_c, c_n1, c_n2, c_n3, c_n4, c_n5, nm_beq, Nat.reduceBEq, nB, nB', nS2, nS2', Nat.add_assoc, Nat.reduceAdd]
end Go.Proofs.Ytfhhbkehlfipgaa
end
