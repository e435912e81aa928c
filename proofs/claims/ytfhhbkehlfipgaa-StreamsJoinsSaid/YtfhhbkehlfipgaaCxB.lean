/- Lemmas for the walk: C5, C6, C7, C8. -/
import Derived.Test.YtfhhbkehlfipgaaCxA
import Derived.Test.YtfhhbkehlfipgaaTxE
section
set_option linter.unusedSimpArgs false
set_option linter.unusedVariables false
set_option linter.unnecessarySimpa false
set_option linter.unusedSectionVars false
namespace Go.Proofs.Ytfhhbkehlfipgaa
open Go.Tx
set_option maxRecDepth 100000
set_option linter.unusedSimpArgs false
set_option linter.unusedVariables false
/-! streams.pieces$1: the pieces of a text are yielded -/
noncomputable def cxy (L : Nat) (y : YRec) : Cx := ⟨Try.prog, tys, meths, false, L, none, [y]⟩
theorem cxyOk (L : Nat) (y : YRec) : (cxy L y).Ok := ⟨tysOk, fieldsOk, mixedOk, methsOk⟩
def pieceS (s : List UInt8) (i : Nat) : List UInt8 := (s.drop (1000 * i)).take 1000
theorem pieces1_ok {F : SF} {L nx k : Nat} {upd : List (Nm × SBlk)} {rd : List Nm} (s : List UInt8) (hlen : s.length ≤ 1000000) (n : Nm) (o p : Bool) (hF : F n = some (.rows 9 1 o p [[.str s]])) (hnrd : n ∈ rd) (hrd : ∀ m ∈ rd, m.l ≤ L) (y : YRec) (N : Nat) (hN : N = (s.length + 999) / 1000) (u : Nat → List (Nm × SBlk)) (rdY : Nat → List Nm)
    (hy : ∀ F3 : SF, (∀ m ∈ rd, F3 m = F m) → ∀ i, i < N → YCon Try.prog y [.int .i64 i, .str (pieceS s i)] (Tx.look F3 (HF u i)) (L + 1) (1000 * (i + 1) + 544) (1000 * (i + 1) + 545) (.bool true) (u i) (rdY i)) (hnu : ∀ i, i < N → n ∉ keys (u i))
    (hend : ∀ F3 : SF, (∀ m ∈ rd, F3 m = F m) → (∀ m : Nm, L < m.l → F3 m = none) → ∃ news : List Nat, news.length = k ∧ news.Nodup ∧ UpdN L nx news (Tx.look F3 (HF u N)) upd ∧ UpdAll L (keys upd) (HF u N)) :
    ICon Try.prog [y] 83 [.fn (.yield y.l) [] [], .ptr n 0 0] F L nx (nx + k) (.tup []) upd rd := by
  refine ICon.bodyN (cxyOk (L + 1) y) rfl (fn := Try.f83) (c := Try.f83.body.getD .skip) (by kernel_rfl) (by rfl) (by kernel_rfl) rfl hrd ?_
  intro F3 hF1 hF2
  have hl : n.l ≤ L := hrd n hnrd
  have hFn := (hF1 n hnrd).trans hF
  simp only [Try.f83, cxy, Nat.add_zero, go_sem, Meths.get, meths, Nat.reduceSub, Nat.reduceAdd, Nat.reduceMul, Nat.reduceEqDiff, Nat.reduceLT, Nat.reduceLeDiff, Nat.reduceBEq, Nat.reduceBNe, reduceIte, reduceCtorEq, Int.reduceToNat, String.reduceEq]
  refine loopK.intro _ _ (I := fun i : Nat => ⟨[some (.fn (.yield y.l) [] []), some (.ptr n 0 0), none, some (.int .i64 i), none, none, none, none, none, none, none, none, none, none, none, none, none, none, none, none, none, none, none, none, none], HF u i, 1000 * (i + 1)⟩) (pre := fun i => i ≤ N) (μ := fun i => N - i) 0 (by omega) ?_ ?_
  · exact Sub.slots (by simp only [go_sem, resVal, resVals, resVal1, one, Wk, WkL, WkLL, wkN, wkNL, wkNLL, UpdIn, UpdAll, BW, plainP, plainPL, subT, subH, subK, and_self, true_or, or_true, List.not_mem_nil, List.mem_cons, forall_eq, imp_self, implies_true, Nat.reduceSub, Nat.reduceAdd, Nat.reduceMul, Nat.reduceEqDiff, Nat.reduceLT, Nat.reduceLeDiff, Nat.reduceBEq, Nat.reduceBNe, reduceIte, reduceCtorEq, Int.reduceToNat, String.reduceEq, Int.natCast_zero]) (by omega)
  · intro i hi
    have hc : Tx.look F3 (HF u i) n = some (.rows 9 1 o p [[.str s]]) := (look_HF_not fun j hj => hnu j (by omega)).trans hFn
    have i1 : Go.Sx.inI64 ((i : Int) * 1000) := ⟨by omega, by omega⟩
    by_cases hlt : i < N
    · have g1 : decide ((i : Int) * 1000 < (s.length : Int)) = true := dT (by omega)
      simp only [hc, g1, i1, Nat.add_zero, go_sem, Meths.get, meths, Nat.reduceSub, Nat.reduceAdd, Nat.reduceMul, Nat.reduceEqDiff, Nat.reduceLT, Nat.reduceLeDiff, Nat.reduceBEq, Nat.reduceBNe, reduceIte, reduceCtorEq, Int.reduceToNat, String.reduceEq]
      have e1 : ((i : Int) * 1000).toNat = 1000 * i := by omega
      have hs : List.take ((min (((i : Int) + 1) * 1000) (s.length : Int)).toNat - ((i : Int) * 1000).toNat) (List.drop ((i : Int) * 1000).toNat s) = pieceS s i := by
        rw [e1]
        unfold pieceS
        by_cases hb : 1000 * (i + 1) ≤ s.length
        · congr 1; omega
        · rw [List.take_of_length_le (by rw [List.length_drop]; omega), List.take_of_length_le (by rw [List.length_drop]; omega)]
      refine ⟨⟨by omega, by omega⟩, ⟨by omega, by omega⟩, ⟨by omega, by omega, by omega⟩, ?_⟩
      rw [hs, show 1000 * (i + 1) + 32 + 32 + 32 + 32 + 32 + 32 + 32 + 32 + 32 + 32 + 32 + 32 + 32 + 32 + 32 + 32 + 32 = 1000 * (i + 1) + 544 from by omega]
      refine YVC.one (hy F3 hF1 i hlt) ?_
      simp only [Nat.add_zero, go_sem, Meths.get, meths, Nat.reduceSub, Nat.reduceAdd, Nat.reduceMul, Nat.reduceEqDiff, Nat.reduceLT, Nat.reduceLeDiff, Nat.reduceBEq, Nat.reduceBNe, reduceIte, reduceCtorEq, Int.reduceToNat, String.reduceEq]
      refine ⟨⟨by omega, by omega⟩, i + 1, by omega, by omega, ?_⟩
      exact Sub.slots (by simp only [go_sem, resVal, resVals, resVal1, one, Wk, WkL, WkLL, wkN, wkNL, wkNLL, UpdIn, UpdAll, BW, plainP, plainPL, subT, subH, subK, and_self, true_or, or_true, List.not_mem_nil, List.mem_cons, forall_eq, imp_self, implies_true, Nat.reduceSub, Nat.reduceAdd, Nat.reduceMul, Nat.reduceEqDiff, Nat.reduceLT, Nat.reduceLeDiff, Nat.reduceBEq, Nat.reduceBNe, reduceIte, reduceCtorEq, Int.reduceToNat, String.reduceEq, Int.natCast_add, Int.natCast_one]) (by omega)
    · have hiN : i = N := by omega
      have g1 : decide ((i : Int) * 1000 < (s.length : Int)) = false := dF (by omega)
      simp only [hc, g1, i1, Nat.add_zero, go_sem, Meths.get, meths, Nat.reduceSub, Nat.reduceAdd, Nat.reduceMul, Nat.reduceEqDiff, Nat.reduceLT, Nat.reduceLeDiff, Nat.reduceBEq, Nat.reduceBNe, reduceIte, reduceCtorEq, Int.reduceToNat, String.reduceEq]
      subst hiN
      obtain ⟨news, q1, q2, q3, q4⟩ := hend F3 hF1 hF2
      exact .now ⟨.inl rfl, ⟨news, True, .tup [], .tup [], q1, q2, rfl, trivial, (wk_refl _ (.tup [])).1, (by intro m hm; rw [(wk_refl F3 (.tup [])).2] at hm; cases hm), trivial, rfl, q3⟩, q4⟩
end Go.Proofs.Ytfhhbkehlfipgaa
end

section
set_option linter.unusedSimpArgs false
set_option linter.unusedVariables false
set_option linter.unnecessarySimpa false
set_option linter.unusedSectionVars false
namespace Go.Proofs.Ytfhhbkehlfipgaa
open Go.Tx
set_option maxRecDepth 100000
set_option linter.unusedSimpArgs false
set_option linter.unusedVariables false
/-! streams.pieces -/
theorem pieces_ok {F : SF} {L nx : Nat} (s : List UInt8) : Con Try.prog 45 [.str s] F L nx (nx + 1) (.fn (.func 83) [] [.ptr ⟨L, nx⟩ 0 0]) [(⟨L, nx⟩, .rows 9 1 true true [[.str s]])] [] := by
  refine Con.bodyN (cxOk (L + 1)) rfl rfl (fn := Try.f45) (c := Try.f45.body.getD .skip) (by kernel_rfl) (by rfl) (by kernel_rfl) rfl (by simp) ?_
  intro F3 hF1 hF2
  simp only [Try.f45, cx, Nat.add_zero, go_sem, Meths.get, meths, Nat.reduceSub, Nat.reduceAdd, Nat.reduceMul, Nat.reduceEqDiff, Nat.reduceLT, Nat.reduceLeDiff, Nat.reduceBEq, Nat.reduceBNe, reduceIte, reduceCtorEq, Int.reduceToNat, String.reduceEq]
  have hk : kp L nx [0] ⟨L, nx⟩ = ⟨L + 1, 0⟩ := by simp [kp]
  refine .now (.val [0] (.inr rfl) (by simp) rfl ⟨trivial, trivial⟩ (by simp [one, nmA, nmAL, Dn]) (by simp [one, Tx.rn, Tx.rnL, sg]) ⟨Nat.le_refl _, ?_, trivial⟩ ⟨.inl rfl, trivial⟩)
  have hl : Tx.look F3 [(⟨L + 1, 0⟩, .rows 9 1 true true [[.str s]])] ⟨L + 1, 0⟩ = some (.rows 9 1 true true [[.str s]]) := by simp [Tx.look]
  rw [hk]
  simp only [hl]
  exact ⟨rfl, rfl, id, .inl ⟨rfl, rfl, rfl⟩⟩
/-! streams.due, where no piece waits -/
theorem due0_ok {F : SF} {L nx : Nat} (n : Nm) (hn : n.l ≤ L) (o p : Bool) (out inn num seen asked : PV) (hF : F n = some (.rows 106 6 o p [[out, inn, .fs 8 [], num, seen, asked]])) :
    Con Try.prog 63 [.ptr n 0 0] F L nx nx (.tup [.agg [.int .i64 0, .int .i64 0, .bool false, .str []], .nilS]) [] [n] := by
  refine Con.body (cxOk (L + 1)) rfl rfl (fn := Try.f63) (c := Try.f63.body.getD .skip) (by kernel_rfl) (by rfl) (by kernel_rfl) rfl  (by simpa using hn) ?_
  intro F3 hF1 hF2
  have hF := (hF1 n (by simp)).trans hF
  have o1 := nm_out' hn
  have o2 := nm_out hn
  simp only [Try.f63, cx, hF, o1, o2, Nat.add_zero, go_sem, Meths.get, meths, Nat.reduceSub, Nat.reduceAdd, Nat.reduceMul, Nat.reduceEqDiff, Nat.reduceLT, Nat.reduceLeDiff, Nat.reduceBEq, Nat.reduceBNe, reduceIte, reduceCtorEq, Int.reduceToNat, String.reduceEq]
  have g : decide ((0 : Int) < ((0 : Nat) : Int)) = false := rfl
  refine loopK.unit ?_
  simp only [g, hF, o1, o2, Nat.add_zero, go_sem, Meths.get, meths, Nat.reduceSub, Nat.reduceAdd, Nat.reduceMul, Nat.reduceEqDiff, Nat.reduceLT, Nat.reduceLeDiff, Nat.reduceBEq, Nat.reduceBNe, reduceIte, reduceCtorEq, Int.reduceToNat, String.reduceEq]
  refine loopK.unit ?_
  simp only [g, hF, o1, o2, Nat.add_zero, go_sem, Meths.get, meths, Nat.reduceSub, Nat.reduceAdd, Nat.reduceMul, Nat.reduceEqDiff, Nat.reduceLT, Nat.reduceLeDiff, Nat.reduceBEq, Nat.reduceBNe, reduceIte, reduceCtorEq, Int.reduceToNat, String.reduceEq]
  refine .of (p := True) (v0 := .tup [.agg [.int .i64 0, .int .i64 0, .bool false, .str []], .nilS]) (.inr rfl) ?_ trivial ?_ ?_ rfl trivial ⟨.inl rfl, .inl rfl, trivial⟩
  · simp only [resVal, resVals, resVal1, one, Nat.add_zero, go_sem, Meths.get, meths, Nat.reduceSub, Nat.reduceAdd, Nat.reduceMul, Nat.reduceEqDiff, Nat.reduceLT, Nat.reduceLeDiff, Nat.reduceBEq, Nat.reduceBNe, reduceIte, reduceCtorEq, Int.reduceToNat, String.reduceEq]
  · exact (wk_refl _ _).1
  · intro m hm; rw [(wk_refl F3 _).2] at hm; cases hm
end Go.Proofs.Ytfhhbkehlfipgaa
end

section
set_option linter.unusedSimpArgs false
set_option linter.unusedVariables false
set_option linter.unnecessarySimpa false
set_option linter.unusedSectionVars false
namespace Go.Proofs.Ytfhhbkehlfipgaa
open Go.Tx
set_option maxRecDepth 100000
set_option linter.unusedSimpArgs false
set_option linter.unusedVariables false
/-! streams.Check, where no piece waits -/
def strP (out inn parts num seen asked : PV) : PV := .agg [out, inn, parts, num, seen, asked]
theorem check0_ok {F : SF} {L nx : Nat} (out inn asked : List Int) (num seen : Int) (hsn : seen = -1 ∨ [seen].all (serB 32) = true) (ho : 1 ≤ out.length) (ho2 : out.length ≤ 16) (ho3 : out.all (serB 16) = true) (hi : 1 ≤ inn.length) (hi2 : inn.length ≤ 16) (hi3 : inn.all (serB 16) = true)
    (hn : [num].all (serB 32) = true) (ha : listedB asked out.length = true) (ha2 : asked.length ≤ 1000000) :
    Con Try.prog 31 [.agg [.fs 1 (out.map eI), .fs 1 (inn.map eI), .fs 8 [], .int .i64 num, .int .i64 seen, .fs 1 (asked.map eI)]] F L nx nx (.int .i64 0) [] [] := by
  refine Con.body (cxOk (L + 1)) rfl rfl (fn := Try.f31) (c := Try.f31.body.getD .skip) (by kernel_rfl) (by rfl) (by kernel_rfl) rfl (by simp) ?_
  intro F3 hF1 hF2
  simp only [Try.f31, cx, Nat.add_zero, go_sem, Meths.get, meths, Nat.reduceSub, Nat.reduceAdd, Nat.reduceMul, Nat.reduceEqDiff, Nat.reduceLT, Nat.reduceLeDiff, Nat.reduceBEq, Nat.reduceBNe, reduceIte, reduceCtorEq, Int.reduceToNat, String.reduceEq]
  refine loopK.intro _ _ (I := fun i : Nat => ⟨[none, some (.ptr ⟨L + 1, 0⟩ 0 0), some (.int .i64 0), none, none, none, none, none, none, none, none, none, none, none, some (.agg [.fs 1 (out.map eI), .fs 1 (inn.map eI)]), some (.int .i64 i), none, none, none, none, none, none, none, none, none, none, none, none, none, none, none, none, none, none, none, none, none, none, none, none, none, none, none, none, none, none, none, none, none, none, none, none, none, none, none, none, none, none, none, none, none, none, none, none, none, none, none, none, none, none, none, none, none, none, none, none, none, none, none, none, none, none, none, none, none, none, none, none, none, none, none, none, none, none, none, none, none, none, none, none, none, none, none, none, none, none, none, none, none, none, none, none, none, none, none, none, none, none, none, none], [(⟨L + 1, 0⟩, .rows 34 6 true true [[.fs 1 (out.map eI), .fs 1 (inn.map eI), .fs 8 [], .int .i64 num, .int .i64 seen, .fs 1 (asked.map eI)]])], 1000 * (i + 1)⟩) (pre := fun i => i ≤ 2) (μ := fun i => 2 - i) 0 (by omega) ?_ ?_
  · exact Sub.of (fun n hn => hF2 n (by have : n.l = L + 1 := hn; omega)) (by simp only [go_sem, resVal, resVals, resVal1, one, Wk, WkL, WkLL, wkN, wkNL, wkNLL, UpdIn, UpdAll, BW, plainP, plainPL, subT, subH, subK, and_self, true_or, or_true, List.not_mem_nil, List.mem_cons, forall_eq, imp_self, implies_true, Nat.reduceSub, Nat.reduceAdd, Nat.reduceMul, Nat.reduceEqDiff, Nat.reduceLT, Nat.reduceLeDiff, Nat.reduceBEq, Nat.reduceBNe, reduceIte, reduceCtorEq, Int.reduceToNat, String.reduceEq, Int.natCast_zero]) (by simp [subH, Tx.look]) ⟨.inl rfl, trivial⟩ (by simp)
  · intro i hi'
    have hc : i = 0 ∨ i = 1 ∨ i = 2 := by omega
    rcases hc with rfl | rfl | rfl
    · have g1 : decide (((0 : Nat) : Int) < 2) = true := rfl
      have g2 : decide ((out.length : Int) < 1) = false := dF (by omega)
      have g3 : decide ((16 : Int) < (out.length : Int)) = false := dF (by omega)
      simp only [g1, g2, g3, List.length_map, Nat.add_zero, go_sem, Meths.get, meths, Nat.reduceSub, Nat.reduceAdd, Nat.reduceMul, Nat.reduceEqDiff, Nat.reduceLT, Nat.reduceLeDiff, Nat.reduceBEq, Nat.reduceBNe, reduceIte, reduceCtorEq, Int.reduceToNat, String.reduceEq]
      refine ⟨⟨by omega, by omega, by omega⟩, CallVC.same (serial_ok 16 out (by omega) (by omega) (by omega)) ?_⟩
      simp only [ho3, Nat.add_zero, go_sem, Meths.get, meths, Nat.reduceSub, Nat.reduceAdd, Nat.reduceMul, Nat.reduceEqDiff, Nat.reduceLT, Nat.reduceLeDiff, Nat.reduceBEq, Nat.reduceBNe, reduceIte, reduceCtorEq, Int.reduceToNat, String.reduceEq]
      refine ⟨⟨by omega, by omega⟩, 1, by omega, by omega, ?_⟩
      exact Sub.of (fun n hn => hF2 n (by have : n.l = L + 1 := hn; omega)) (by simp only [go_sem, resVal, resVals, resVal1, one, Wk, WkL, WkLL, wkN, wkNL, wkNLL, UpdIn, UpdAll, BW, plainP, plainPL, subT, subH, subK, and_self, true_or, or_true, List.not_mem_nil, List.mem_cons, forall_eq, imp_self, implies_true, Nat.reduceSub, Nat.reduceAdd, Nat.reduceMul, Nat.reduceEqDiff, Nat.reduceLT, Nat.reduceLeDiff, Nat.reduceBEq, Nat.reduceBNe, reduceIte, reduceCtorEq, Int.reduceToNat, String.reduceEq]; try trivial) (by simp [subH, Tx.look]) ⟨.inl rfl, trivial⟩ (by simp)
    · have g1 : decide (((1 : Nat) : Int) < 2) = true := rfl
      have g2 : decide ((inn.length : Int) < 1) = false := dF (by omega)
      have g3 : decide ((16 : Int) < (inn.length : Int)) = false := dF (by omega)
      simp only [g1, g2, g3, List.length_map, Nat.add_zero, go_sem, Meths.get, meths, Nat.reduceSub, Nat.reduceAdd, Nat.reduceMul, Nat.reduceEqDiff, Nat.reduceLT, Nat.reduceLeDiff, Nat.reduceBEq, Nat.reduceBNe, reduceIte, reduceCtorEq, Int.reduceToNat, String.reduceEq]
      refine ⟨⟨by omega, by omega, by omega⟩, CallVC.same (serial_ok 16 inn (by omega) (by omega) (by omega)) ?_⟩
      simp only [hi3, Nat.add_zero, go_sem, Meths.get, meths, Nat.reduceSub, Nat.reduceAdd, Nat.reduceMul, Nat.reduceEqDiff, Nat.reduceLT, Nat.reduceLeDiff, Nat.reduceBEq, Nat.reduceBNe, reduceIte, reduceCtorEq, Int.reduceToNat, String.reduceEq]
      refine ⟨⟨by omega, by omega⟩, 2, by omega, by omega, ?_⟩
      exact Sub.of (fun n hn => hF2 n (by have : n.l = L + 1 := hn; omega)) (by simp only [go_sem, resVal, resVals, resVal1, one, Wk, WkL, WkLL, wkN, wkNL, wkNLL, UpdIn, UpdAll, BW, plainP, plainPL, subT, subH, subK, and_self, true_or, or_true, List.not_mem_nil, List.mem_cons, forall_eq, imp_self, implies_true, Nat.reduceSub, Nat.reduceAdd, Nat.reduceMul, Nat.reduceEqDiff, Nat.reduceLT, Nat.reduceLeDiff, Nat.reduceBEq, Nat.reduceBNe, reduceIte, reduceCtorEq, Int.reduceToNat, String.reduceEq]; try trivial) (by simp [subH, Tx.look]) ⟨.inl rfl, trivial⟩ (by simp)
    · have g1 : decide (((2 : Nat) : Int) < 2) = false := rfl
      have g2 : decide ((80 : Int) < ((0 : Nat) : Int)) = false := rfl
      simp only [g1, g2, Nat.add_zero, go_sem, Meths.get, meths, Nat.reduceSub, Nat.reduceAdd, Nat.reduceMul, Nat.reduceEqDiff, Nat.reduceLT, Nat.reduceLeDiff, Nat.reduceBEq, Nat.reduceBNe, reduceIte, reduceCtorEq, Int.reduceToNat, String.reduceEq]
      refine CallVC.pure (args2 := [_, .fs 1 ([num].map eI)]) ⟨rfl, ?_, trivial⟩ (serial_ok 32 [num] (by omega) (by omega) (by simp)) rfl ?_
      · simp [Wk, eI]
      rcases hsn with hsn | hsn
      · have fsn : (seen != -1) = false := neF hsn
        simp only [hn, fsn, wkNL, wkN, Nat.add_zero, go_sem, Meths.get, meths, Nat.reduceSub, Nat.reduceAdd, Nat.reduceMul, Nat.reduceEqDiff, Nat.reduceLT, Nat.reduceLeDiff, Nat.reduceBEq, Nat.reduceBNe, reduceIte, reduceCtorEq, Int.reduceToNat, String.reduceEq]
        rw [List.length_map]
        refine CallVC.same (listed_ok asked out.length (by omega)) ?_
        simp only [ha, Nat.add_zero, go_sem, Meths.get, meths, Nat.reduceSub, Nat.reduceAdd, Nat.reduceMul, Nat.reduceEqDiff, Nat.reduceLT, Nat.reduceLeDiff, Nat.reduceBEq, Nat.reduceBNe, reduceIte, reduceCtorEq, Int.reduceToNat, String.reduceEq]
        have g3 : decide ((0 : Int) < ((0 : Nat) : Int)) = false := rfl
        refine loopK.unit ?_
        simp only [g3, Nat.add_zero, go_sem, Meths.get, meths, Nat.reduceSub, Nat.reduceAdd, Nat.reduceMul, Nat.reduceEqDiff, Nat.reduceLT, Nat.reduceLeDiff, Nat.reduceBEq, Nat.reduceBNe, reduceIte, reduceCtorEq, Int.reduceToNat, String.reduceEq]
        refine CallVC.same (due0_ok ⟨L + 1, 4120⟩ (Nat.le_refl _) true true (.fs 1 (out.map eI)) (.fs 1 (inn.map eI)) (.int .i64 num) (.int .i64 seen) (.fs 1 (asked.map eI)) (by simp only [nm_eq, go_sem, Meths.get, meths, Nat.reduceSub, Nat.reduceAdd, Nat.reduceMul, Nat.reduceEqDiff, Nat.reduceLT, Nat.reduceLeDiff, Nat.reduceBEq, Nat.reduceBNe, reduceIte, reduceCtorEq, Int.reduceToNat, String.reduceEq])) ?_
        have g5 : decide ((0 : Int) < 0) = false := rfl
        simp only [g3, g5, Nat.add_zero, go_sem, Meths.get, meths, Nat.reduceSub, Nat.reduceAdd, Nat.reduceMul, Nat.reduceEqDiff, Nat.reduceLT, Nat.reduceLeDiff, Nat.reduceBEq, Nat.reduceBNe, reduceIte, reduceCtorEq, Int.reduceToNat, String.reduceEq]
        exact .int (.inr rfl) rfl rfl (by simp [UpdAll, keys])
      · have fsn : (seen != -1) = true := neT (by simp [serB] at hsn; omega)
        simp only [hn, fsn, wkNL, wkN, Nat.add_zero, go_sem, Meths.get, meths, Nat.reduceSub, Nat.reduceAdd, Nat.reduceMul, Nat.reduceEqDiff, Nat.reduceLT, Nat.reduceLeDiff, Nat.reduceBEq, Nat.reduceBNe, reduceIte, reduceCtorEq, Int.reduceToNat, String.reduceEq]
        refine CallVC.pure (args2 := [_, .fs 1 ([seen].map eI)]) ⟨rfl, by simp [Wk, eI], trivial⟩ (serial_ok 32 [seen] (by omega) (by omega) (by simp)) rfl ?_
        simp only [hsn, wkNL, wkN, Nat.add_zero, go_sem, Meths.get, meths, Nat.reduceSub, Nat.reduceAdd, Nat.reduceMul, Nat.reduceEqDiff, Nat.reduceLT, Nat.reduceLeDiff, Nat.reduceBEq, Nat.reduceBNe, reduceIte, reduceCtorEq, Int.reduceToNat, String.reduceEq]
        rw [List.length_map]
        refine CallVC.same (listed_ok asked out.length (by omega)) ?_
        simp only [ha, Nat.add_zero, go_sem, Meths.get, meths, Nat.reduceSub, Nat.reduceAdd, Nat.reduceMul, Nat.reduceEqDiff, Nat.reduceLT, Nat.reduceLeDiff, Nat.reduceBEq, Nat.reduceBNe, reduceIte, reduceCtorEq, Int.reduceToNat, String.reduceEq]
        have g3 : decide ((0 : Int) < ((0 : Nat) : Int)) = false := rfl
        refine loopK.unit ?_
        simp only [g3, Nat.add_zero, go_sem, Meths.get, meths, Nat.reduceSub, Nat.reduceAdd, Nat.reduceMul, Nat.reduceEqDiff, Nat.reduceLT, Nat.reduceLeDiff, Nat.reduceBEq, Nat.reduceBNe, reduceIte, reduceCtorEq, Int.reduceToNat, String.reduceEq]
        refine CallVC.same (due0_ok ⟨L + 1, 4248⟩ (Nat.le_refl _) true true (.fs 1 (out.map eI)) (.fs 1 (inn.map eI)) (.int .i64 num) (.int .i64 seen) (.fs 1 (asked.map eI)) (by simp only [nm_eq, go_sem, Meths.get, meths, Nat.reduceSub, Nat.reduceAdd, Nat.reduceMul, Nat.reduceEqDiff, Nat.reduceLT, Nat.reduceLeDiff, Nat.reduceBEq, Nat.reduceBNe, reduceIte, reduceCtorEq, Int.reduceToNat, String.reduceEq])) ?_
        have g5 : decide ((0 : Int) < 0) = false := rfl
        simp only [g3, g5, Nat.add_zero, go_sem, Meths.get, meths, Nat.reduceSub, Nat.reduceAdd, Nat.reduceMul, Nat.reduceEqDiff, Nat.reduceLT, Nat.reduceLeDiff, Nat.reduceBEq, Nat.reduceBNe, reduceIte, reduceCtorEq, Int.reduceToNat, String.reduceEq]
        exact .int (.inr rfl) rfl rfl (by simp [UpdAll, keys])
end Go.Proofs.Ytfhhbkehlfipgaa
end

section
set_option linter.unusedSimpArgs false
set_option linter.unusedVariables false
set_option linter.unnecessarySimpa false
set_option linter.unusedSectionVars false
namespace Go.Proofs.Ytfhhbkehlfipgaa
open Go.Tx
set_option maxRecDepth 100000
set_option linter.unusedSimpArgs false
set_option linter.unusedVariables false
/-! slices.Clone of pieces -/
theorem cloneD_ok {F : SF} {L nx : Nat} (rs : List (List PV)) (hlen : rs.length ≤ 1000000) :
    Con Try.prog 52 [.fs 8 rs] F L nx (nx + 1) (.sl ⟨L, nx⟩ 0 rs.length) [(⟨L, nx⟩, .rows 43 8 true true rs)] [] := by
  refine Con.bodyN (cxOk (L + 1)) rfl rfl (fn := Try.f52) (c := Try.f52.body.getD .skip) (by kernel_rfl) (by rfl) (by kernel_rfl) rfl (by simp) ?_
  intro F3 hF1 hF2
  simp only [Try.f52, cx, Nat.add_zero, go_sem, Meths.get, meths, Nat.reduceSub, Nat.reduceAdd, Nat.reduceMul, Nat.reduceEqDiff, Nat.reduceLT, Nat.reduceLeDiff, Nat.reduceBEq, Nat.reduceBNe, reduceIte, reduceCtorEq, Int.reduceToNat, String.reduceEq]
  refine nilK.intro fun b hb => ?_
  cases b with
  | true =>
    have hx := hb rfl
    simp only [List.length_eq_zero_iff] at hx
    subst hx
    simp only [Nat.add_zero, go_sem, Meths.get, meths, Nat.reduceSub, Nat.reduceAdd, Nat.reduceMul, Nat.reduceEqDiff, Nat.reduceLT, Nat.reduceLeDiff, Nat.reduceBEq, Nat.reduceBNe, reduceIte, reduceCtorEq, Int.reduceToNat, String.reduceEq]
    refine ⟨_, Sub.nilName 2 43 (wd := 8) (by omega) rfl, .sl1 (g := 96) (.inr rfl) rfl ⟨trivial, trivial⟩ ?_ ⟨.inl rfl, trivial⟩⟩
    simp [updH, setH, Tx.look]
  | false =>
    simp only [Nat.add_zero, go_sem, Meths.get, meths, Nat.reduceSub, Nat.reduceAdd, Nat.reduceMul, Nat.reduceEqDiff, Nat.reduceLT, Nat.reduceLeDiff, Nat.reduceBEq, Nat.reduceBNe, reduceIte, reduceCtorEq, Int.reduceToNat, String.reduceEq]
    exact ⟨⟨by omega, by omega⟩, .now (.sl1 (g := 128) (.inr rfl) rfl ⟨trivial, trivial⟩ (by simp [Tx.look]) ⟨.inl rfl, .inl rfl, trivial⟩)⟩
/-! streams.begin, where no piece waits -/
theorem begin0_ok {F : SF} {L nx : Nat} (out inn asked : List Int) (num seen : Int) (hsn : seen = -1 ∨ [seen].all (serB 32) = true) (ho : 1 ≤ out.length) (ho2 : out.length ≤ 16) (ho3 : out.all (serB 16) = true) (hi : 1 ≤ inn.length) (hi2 : inn.length ≤ 16) (hi3 : inn.all (serB 16) = true)
    (hn : [num].all (serB 32) = true) (ha : listedB asked out.length = true) (ha2 : asked.length ≤ 1000000) :
    Con Try.prog 41 [.agg [.fs 1 (out.map eI), .fs 1 (inn.map eI), .fs 8 [], .int .i64 num, .int .i64 seen, .fs 1 (asked.map eI)]] F L nx (nx + 5) (.tup [.ptr ⟨L, nx⟩ 0 0, .int .i64 0])
      [(⟨L, nx⟩, .rows 106 6 true false [[.sl ⟨L, nx + 1⟩ 0 out.length, .sl ⟨L, nx + 2⟩ 0 inn.length, .sl ⟨L, nx + 3⟩ 0 0, .int .i64 num, .int .i64 seen, .sl ⟨L, nx + 4⟩ 0 asked.length]]),
       (⟨L, nx + 1⟩, .rows 3 1 true true (out.map eI)), (⟨L, nx + 2⟩, .rows 3 1 true true (inn.map eI)), (⟨L, nx + 3⟩, .rows 43 8 true true []), (⟨L, nx + 4⟩, .rows 3 1 true true (asked.map eI))] [] := by
  refine Con.bodyN (cxOk (L + 1)) rfl rfl (fn := Try.f41) (c := Try.f41.body.getD .skip) (by kernel_rfl) (by rfl) (by kernel_rfl) rfl (by simp) ?_
  intro F3 hF1 hF2
  simp only [Try.f41, cx, Nat.add_zero, go_sem, Meths.get, meths, Nat.reduceSub, Nat.reduceAdd, Nat.reduceMul, Nat.reduceEqDiff, Nat.reduceLT, Nat.reduceLeDiff, Nat.reduceBEq, Nat.reduceBNe, reduceIte, reduceCtorEq, Int.reduceToNat, String.reduceEq]
  refine CallVC.same (check0_ok out inn asked num seen hsn ho ho2 ho3 hi hi2 hi3 hn ha ha2) ?_
  have g : ((0 : Int) != 0) = false := rfl
  simp only [g, Nat.add_zero, go_sem, Meths.get, meths, Nat.reduceSub, Nat.reduceAdd, Nat.reduceMul, Nat.reduceEqDiff, Nat.reduceLT, Nat.reduceLeDiff, Nat.reduceBEq, Nat.reduceBNe, reduceIte, reduceCtorEq, Int.reduceToNat, String.reduceEq]
  refine ⟨by kernel_rfl, CallVC.same (cloneI_ok out (by omega)) ?_⟩
  simp only [g, Nat.add_zero, go_sem, Meths.get, meths, Nat.reduceSub, Nat.reduceAdd, Nat.reduceMul, Nat.reduceEqDiff, Nat.reduceLT, Nat.reduceLeDiff, Nat.reduceBEq, Nat.reduceBNe, reduceIte, reduceCtorEq, Int.reduceToNat, String.reduceEq]
  refine CallVC.same (cloneI_ok inn (by omega)) ?_
  simp only [g, Nat.add_zero, go_sem, Meths.get, meths, Nat.reduceSub, Nat.reduceAdd, Nat.reduceMul, Nat.reduceEqDiff, Nat.reduceLT, Nat.reduceLeDiff, Nat.reduceBEq, Nat.reduceBNe, reduceIte, reduceCtorEq, Int.reduceToNat, String.reduceEq]
  refine CallVC.same (cloneD_ok [] (by simp)) ?_
  simp only [g, Nat.add_zero, go_sem, Meths.get, meths, Nat.reduceSub, Nat.reduceAdd, Nat.reduceMul, Nat.reduceEqDiff, Nat.reduceLT, Nat.reduceLeDiff, Nat.reduceBEq, Nat.reduceBNe, reduceIte, reduceCtorEq, Int.reduceToNat, String.reduceEq]
  refine CallVC.same (cloneI_ok asked (by omega)) ?_
  simp only [g, Nat.add_zero, go_sem, Meths.get, meths, Nat.reduceSub, Nat.reduceAdd, Nat.reduceMul, Nat.reduceEqDiff, Nat.reduceLT, Nat.reduceLeDiff, Nat.reduceBEq, Nat.reduceBNe, reduceIte, reduceCtorEq, Int.reduceToNat, String.reduceEq]
  refine ⟨okDyn_num (·.i) (by kernel_rfl), .now (.val [288, 544, 609, 674, 739] (.inr rfl) (by simp) rfl ⟨trivial, trivial, trivial⟩ (by simp [one, nmA, nmAL, Dn]) (by simp [one, Tx.rn, Tx.rnL, sg]) ⟨Nat.le_refl _, ?_, Nat.le_refl _, ?_, Nat.le_refl _, ?_, Nat.le_refl _, ?_, Nat.le_refl _, ?_, trivial⟩ ⟨.inl rfl, .inl rfl, .inl rfl, .inl rfl, .inl rfl, .inl rfl, trivial⟩)⟩
  · rw [kp_at0 (by simp)]
    refine .ren (by simp [Tx.look]; rfl) ?_ ?_
    · simp [rowsNm, nmA, nmAL, Dn]
    · simp [Tx.rn, Tx.rnL, sg, List.idxOf, List.findIdx, List.findIdx.go]
  all_goals
    rw [kp_at (by simp)]
    exact .pure (by simp [Tx.look])
end Go.Proofs.Ytfhhbkehlfipgaa
end
